/- Part 10 of the proof of the law AlexTells: the walks through its functions and the plain laws that they need. -/
import Derived.Test.YtkcighnochjlgaaAtZ9
set_option linter.unusedSimpArgs false
set_option linter.unusedVariables false
namespace Go.Proofs.Ytkcighnochjlgaa
open Go.ChangeShapes Go.WideShapes Go.ChangeAt Go.RowKit
def tb (s : Nat) : Nat → Bool := fun c => s.testBit c
theorem pcN_bl (s k : Nat) : pcN s k = bl (tb s) k := by
  induction k with
  | zero => rfl
  | succ k ih => rw [pcN, bl, ih]; rfl
theorem bl_flat {S : Nat → Bool} {n : Nat} (h : ∀ c, n ≤ c → S c = false) (d : Nat) : bl S (n + d) = bl S n := by
  induction d with
  | zero => rfl
  | succ d ih => rw [show n + (d + 1) = n + d + 1 by omega, bl, ih, if_neg (by rw [h _ (by omega)]; exact Bool.false_ne_true)]; rfl
theorem bl_le (S : Nat → Bool) (n : Nat) : bl S n ≤ n := by
  induction n with
  | zero => exact Nat.le_refl _
  | succ n ih => rw [bl]; split <;> omega
theorem tb_high {s n c : Nat} (h : s < 2 ^ n) (hc : n ≤ c) : tb s c = false := Nat.testBit_lt_two_pow (Nat.lt_of_lt_of_le h (Nat.pow_le_pow_right (by decide) hc))
theorem pc_eq {s n : Nat} (h : s < 2 ^ n) (hn : n ≤ 12) : pcN s 12 = bl (tb s) n ∧ bl (tb s) n ≤ n := by
  refine ⟨?_, bl_le _ _⟩
  rw [pcN_bl]
  have := bl_flat (S := tb s) (n := n) (fun c hc => tb_high h hc) (12 - n)
  rw [show n + (12 - n) = 12 by omega] at this
  exact this
theorem pc_pos {s : Nat} (h : s < 4096) (h1 : 1 ≤ s) : 1 ≤ pcN s 12 := by
  rw [pcN_bl]
  refine Nat.one_le_iff_ne_zero.2 fun e => ?_
  have hz : ∀ c, c < 12 → tb s c = false := fun c hc => by
    cases hb : tb s c with
    | false => rfl
    | true => have := bl_lt hc hb; omega
  have : s = 0 := Nat.eq_of_testBit_eq fun i => by
    rw [Nat.zero_testBit]
    by_cases hi : i < 12
    · exact hz i hi
    · exact tb_high (n := 12) h (by omega)
  omega
theorem tb_clr {s n : Nat} (hs : s < 4096) (hn : n ≤ 12) : tb (clr s n) = del (tb s) n := clr_testBit (Nat.lt_trans hs (by decide)) (by omega)
theorem pc_clr {s k : Nat} (hs : s < 4096) (hk : k < 12) (h : tb s k = true) : pcN (clr s k) 12 + 1 = pcN s 12 := by
  rw [pcN_bl, pcN_bl, tb_clr hs (by omega)]
  exact card_del hk h
theorem bl_shift (S : Nat → Bool) (a m : Nat) : bl (fun j => S (a + j)) m + bl S a = bl S (a + m) := by
  induction m with
  | zero => show 0 + bl S a = bl S a; omega
  | succ m ih => rw [bl, show a + (m + 1) = a + m + 1 by omega, bl, ← ih]; omega
theorem pc_above {s n k : Nat} (h : s < 2 ^ n) (hn : n ≤ 12) (_ : k < n) : pcN (s / 2 ^ (k + 1)) 12 = ab (tb s) n k := by
  have e : tb (s / 2 ^ (k + 1)) = fun j => tb s (k + 1 + j) := by
    funext j
    unfold tb
    rw [Nat.testBit_div_two_pow]
    congr 1; omega
  rw [pcN_bl, e]
  have h1 := bl_shift (tb s) (k + 1) 12
  have h2 := bl_flat (S := tb s) (n := n) (fun c hc => tb_high h hc) (k + 1 + 12 - n)
  rw [show n + (k + 1 + 12 - n) = k + 1 + 12 by omega] at h2
  unfold ab
  omega
theorem bit_iff (s k : Nat) : tb s k = true ↔ s / 2 ^ k % 2 = 1 := by
  unfold tb
  rw [Nat.testBit_eq_decide_div_mod_eq, decide_eq_true_iff]
theorem sg_mono (b : Nat) (y : Pol) {c : Int} (h : c = 1 - 2 * ((b : Int) % 2)) : y * mono 0 c = sg b y := by
  subst h
  unfold sg
  by_cases hb : b % 2 = 1
  · rw [if_pos hb, show (1 : Int) - 2 * ((b : Int) % 2) = -1 by omega, ← mono_neg, Pol.mul_neg]
    exact congrArg _ (Pol.mul_one y)
  · rw [if_neg hb, show (1 : Int) - 2 * ((b : Int) % 2) = 1 by omega]
    exact Pol.mul_one y
def rv : Nat → List Nat
  | 0 => []
  | r + 1 => r :: rv r
theorem rv_eq (n : Nat) : rv n = (List.range n).reverse := by
  induction n with
  | zero => rfl
  | succ n ih => rw [rv, ih, List.range_succ, List.reverse_append]; rfl
/-- What a set of places comes to. -/
def dS (m : Nat → Nat → Pol) (n s : Nat) : Pol := dL m n (rv (pcN s 12)) (tb s)
def dTerm (m : Nat → Nat → Pol) (n s r c : Nat) : Pol := if tb s c = true then sg (ab (tb s) n c) (m r c * dS m n (clr s c)) else Pol.o
theorem dS_step {m : Nat → Nat → Pol} {n s r : Nat} (hs : s < 4096) (hn : n ≤ 12) (hr : pcN s 12 = r + 1) : dS m n s = sm n (dTerm m n s r) := by
  unfold dS
  rw [hr, rv, dL]
  refine sm_congr fun c hc => ?_
  unfold dTerm
  by_cases h : tb s c = true
  · rw [if_pos h, if_pos h]
    have := pc_clr hs (show c < 12 by omega) h
    show _ = sg (ab (tb s) n c) (m r c * dL m n (rv (pcN (clr s c) 12)) (tb (clr s c)))
    rw [show pcN (clr s c) 12 = r by omega, tb_clr hs (by omega)]
  · rw [if_neg h, if_neg h]
theorem dS_zero (m : Nat → Nat → Pol) (n : Nat) : dS m n 0 = Pol.i := by
  have : pcN 0 12 = 0 := by decide
  unfold dS
  rw [this]; rfl
/-- The determinant. -/
def detP (m : Nat → Nat → Pol) (n : Nat) : Pol := dF m n (List.range n) (fun c => decide (c < n))
theorem tb_full (n : Nat) : tb (2 ^ n - 1) = fun c => decide (c < n) := by
  funext c
  exact Nat.testBit_two_pow_sub_one n c
theorem bl_full (n k : Nat) (h : k ≤ n) : bl (fun c => decide (c < n)) k = k := by
  induction k with
  | zero => rfl
  | succ k ih => rw [bl, ih (by omega), if_pos (by simp; omega)]
theorem pow_pos2 (n : Nat) : 0 < 2 ^ n := Nat.pow_pos (by decide)
theorem pc_full {n : Nat} (hn : n ≤ 12) : pcN (2 ^ n - 1) 12 = n := by
  rw [(pc_eq (s := 2 ^ n - 1) (n := n) (by have := pow_pos2 n; omega) hn).1, tb_full, bl_full n n (Nat.le_refl _)]
theorem dS_full (m : Nat → Nat → Pol) {n : Nat} (hn : n ≤ 12) : dS m n (2 ^ n - 1) = detP m n := by
  unfold dS detP
  rw [pc_full hn, tb_full, rv_eq, ← dF_dL n (List.range n) _ (by simp) (bl_full n n (Nat.le_refl _))]
theorem els_full (n : Nat) : els (fun c => decide (c < n)) n = List.range n := by
  unfold els
  exact List.filter_eq_self.2 fun x hx => by simp at hx; simp [hx]
theorem dT_detP (m : Nat → Nat → Pol) (n : Nat) : dT n ((List.range n).map fun r => (List.range n).map (m r)) = detP m n := by
  have := dT_dF m n (List.range n) (fun c => decide (c < n)) (by rw [List.length_range]; exact bl_full n n (Nat.le_refl _))
  rw [List.length_range, els_full] at this
  exact this
theorem pow_le12 {n : Nat} (h : n ≤ 12) : 2 ^ n ≤ 4096 := Nat.pow_le_pow_right (by decide) h
theorem bd_step {s k B : Nat} (h : pcN (clr s k) 12 + 1 = pcN s 12) : B + pcN (clr s k) 12 * B ≤ pcN s 12 * B := by
  rw [← h, Nat.succ_mul]; omega
theorem pc_le12 (s : Nat) : pcN s 12 ≤ 12 := by rw [pcN_bl]; exact bl_le _ _
theorem pc_mul (s B : Nat) : pcN s 12 * B ≤ 12 * B := Nat.mul_le_mul_right _ (pc_le12 s)
end Go.Proofs.Ytkcighnochjlgaa
namespace Go.Proofs.Ytkcighnochjlgaa
open Go.ChangeShapes Go.WideShapes Go.ChangeAt Go.RowKit
noncomputable def Determinant_n0 : Code := Try.f76.body.getD .skip
noncomputable def Determinant_n1 : Code := cL Determinant_n0
noncomputable def Determinant_n2 : Code := cR Determinant_n0
noncomputable def Determinant_n3 : Code := cL Determinant_n2
noncomputable def Determinant_n4 : Code := cR Determinant_n2
noncomputable def Determinant_n5 : Code := cL Determinant_n4
noncomputable def Determinant_n6 : Code := cR Determinant_n4
noncomputable def Determinant_n7 : Code := cL Determinant_n6
noncomputable def Determinant_n8 : Code := cR Determinant_n6
noncomputable def Determinant_n9 : Code := cL Determinant_n8
noncomputable def Determinant_n10 : Code := cR Determinant_n8
noncomputable def Determinant_n11 : Code := cL Determinant_n9
noncomputable def Determinant_n12 : Code := cR Determinant_n9
noncomputable def Determinant_n13 : Code := cL Determinant_n12
noncomputable def Determinant_n14 : Code := cL Determinant_n13
noncomputable def Determinant_n15 : Code := cL Determinant_n14
noncomputable def Determinant_n16 : Code := cR Determinant_n14
noncomputable def Determinant_n17 : Code := cL Determinant_n15
noncomputable def Determinant_n18 : Code := cR Determinant_n15
noncomputable def Determinant_n19 : Code := cL Determinant_n18
noncomputable def Determinant_n20 : Code := cR Determinant_n18
noncomputable def Determinant_n21 : Code := cL Determinant_n16
noncomputable def Determinant_n22 : Code := cR Determinant_n16
noncomputable def Determinant_n23 : Code := cL Determinant_n21
noncomputable def Determinant_n24 : Code := cL Determinant_n23
noncomputable def Determinant_n25 : Code := cR Determinant_n23
noncomputable def Determinant_n26 : Code := cL Determinant_n25
noncomputable def Determinant_n27 : Code := cR Determinant_n25
noncomputable def Determinant_n28 : Code := cL Determinant_n27
noncomputable def Determinant_n29 : Code := cR Determinant_n27
noncomputable def Determinant_n30 : Code := cL Determinant_n28
noncomputable def Determinant_n31 : Code := cR Determinant_n28
noncomputable def Determinant_n32 : Code := cL Determinant_n31
noncomputable def Determinant_n33 : Code := cL Determinant_n32
noncomputable def Determinant_n34 : Code := cL Determinant_n33
noncomputable def Determinant_n35 : Code := cR Determinant_n33
noncomputable def Determinant_n36 : Code := cL Determinant_n35
noncomputable def Determinant_n37 : Code := cR Determinant_n35
noncomputable def Determinant_n38 : Code := cL Determinant_n36
noncomputable def Determinant_n39 : Code := cR Determinant_n36
noncomputable def Determinant_n40 : Code := cL Determinant_n37
noncomputable def Determinant_n41 : Code := cR Determinant_n37
noncomputable def Determinant_n42 : Code := cL Determinant_n40
noncomputable def Determinant_n43 : Code := cL Determinant_n42
noncomputable def Determinant_n44 : Code := cR Determinant_n42
noncomputable def Determinant_n45 : Code := cL Determinant_n44
noncomputable def Determinant_n46 : Code := cR Determinant_n44
noncomputable def Determinant_n47 : Code := cL Determinant_n45
noncomputable def Determinant_n48 : Code := cR Determinant_n45
noncomputable def Determinant_n49 : Code := cL Determinant_n48
noncomputable def Determinant_n50 : Code := cR Determinant_n48
noncomputable def Determinant_n51 : Code := cL Determinant_n46
noncomputable def Determinant_n52 : Code := cR Determinant_n46
noncomputable def Determinant_n53 : Code := cL Determinant_n10
noncomputable def Determinant_n54 : Code := cR Determinant_n10
set_option maxHeartbeats 1000000 in
set_option maxRecDepth 10000 in
theorem Determinant_t {w : World} {M : Hp} {X : Fr} {B : Nat} (gss : List (List (Option Nat))) (pss : List (List (Option Pol))) {mA : Option Addr} {mc : Nat} {mv : List SlV} (hm : RdA (cdV 94) M mA mc mv) (hdm : Rd2 (cdMap 87) M mv gss) (hwm : WksA (fun _ => B) M gss pss) (n : Nat) (mm : Nat → Nat → Pol) (hn : n ≤ 10) (hB : 13 * B ≤ 1099511627776) (hml : mv.length = n) (hgl0 : ∀ i, i < n → (ga gss i).length = n) (hpss : ∀ i, i < n → ∀ k, k < n → ga (ga pss i) k = some (mm i k)) (S : SH w M X []) : Ct Try.prog 76 [.slice mA mv.length mc] w M X (WkR (12 * B) (detP mm n)) := by
 unfold Ct
 have rmhm : mv.length * 24 ≤ 140737488355328 := hm.room
 have h2n : 2 ^ n ≤ 4096 := pow_le12 (by omega)
 have h1n := pow_pos2 n
 have hgm := hdm.1
 refine calls_in (b := Determinant_n0) Try.func76 rfl Try.ntmps76 rfl (fun C hC => ?_)
 refine ws_sub [(0, _)] ⟨rfl, trivial⟩ ?_
 refine ws_seqN Determinant_n1 Determinant_n2 rfl rfl rfl ?_
 refine ws_region rfl ?_
 refine wla 0 1 rfl rfl rfl rfl rfl rfl rfl ?_
 refine wl_end rfl ?_
 refine nm_sub [(0, _)] ⟨rfl, trivial⟩ ?_
 refine nm_thn ?_
 refine ws_seqN Determinant_n3 Determinant_n4 rfl rfl rfl ?_
 refine ws_region rfl ?_
 refine wlm 0 1 rfl rfl rfl rfl rfl rfl rfl ?_
 refine wlo 1 2 rfl rfl rfl (wo_run rfl rfl (run_len rfl rfl rfl rfl rfl rfl Try.underlying93) ?_)
 refine wla 2 3 rfl rfl rfl rfl rfl rfl rfl ?_
 refine wl_end rfl ?_
 refine nm_sub [(0, _), (3, _)] ⟨rfl, rfl, trivial⟩ ?_
 refine nm_thn ?_
 refine ws_seqN Determinant_n5 Determinant_n6 rfl rfl rfl ?_
 refine ws_eq 3 (.int .i64 (n : Int)) rfl (int_eq (by omega)) ?_
 refine ws_region rfl ?_
 refine wlm 0 1 rfl rfl rfl rfl rfl rfl rfl ?_
 refine wlo 1 2 rfl rfl rfl (wo_run rfl rfl (run_shl1N (n := n) rfl rfl rfl (by first | omega | (simp only [lens]; omega))) ?_)
 refine wlo 2 3 rfl rfl rfl (wo_make (C := (cdMap 87)) (2 ^ n) rfl rfl rfl rfl rfl sl94 (by first | rfl | omega) (by show _ * 8 ≤ _; first | omega | (simp only [lens]; omega)) S ?_)
 intro vr1 w1 S1; clear S
 have hd1 : Wks (fun i => pcN i 12 * B) M (List.replicate (2 ^ n) ((cdMap 87)).z) (List.replicate (2 ^ n) none) := Wks.rep _ _ _
 refine wla 3 4 rfl rfl rfl rfl rfl rfl rfl ?_
 refine wl_end rfl ?_
 refine nm_sub [(0, _), (4, _)] ⟨rfl, rfl, trivial⟩ ?_
 refine nm_thn ?_
 refine ws_seqN Determinant_n7 Determinant_n8 rfl rfl rfl ?_
 refine ws_region rfl ?_
 refine wlm 0 1 rfl rfl rfl rfl rfl rfl rfl ?_
 refine wlo 1 2 rfl rfl rfl (wo_makeMap Int Int (Value.int .i64) (Value.int .i64) rfl rfl rfl S1 ?_)
 intro gm1 w2 S2; clear S1
 refine wlo 2 3 rfl rfl rfl (wo_mapUpdate (kc := Value.int .i64) (vc := Value.int .i64) (es := ([])) (k := 0) (e := 1) (i := 0) (H' := [_, _]) (.inr rfl) rfl S2 rfl rfl rfl rfl Try.underlying87 mk3 rfl ?_)
 intro w3 S3; clear S2
 refine wlm 3 4 rfl rfl rfl rfl rfl rfl rfl ?_
 refine wlo 4 5 rfl rfl rfl (wo_run rfl rfl (run_indexR (C := (cdMap 87)) (i := 1) 0 rfl rfl rfl sl94 S3 rfl (by first | rfl | omega) (by first | omega | (simp only [lens]; omega))) ?_)
 obtain ⟨M1, hle1, S5, hm1⟩ := S3.pubmap (i := 0) (H' := [_, _]) rfl rfl; clear S3
 replace hm := hm.mono hle1
 replace hdm := hdm.mono hle1
 replace hwm := hwm.mono hle1
 replace hd1 := hd1.mono hle1
 have hw1 : Wk M1 gm1 (0) (mk (mp 0 1 ([]))) := ⟨_, hm1, (mp_ents (Ents.nil_ 0) (by omega) (wr_id (by omega))), rfl⟩
 have hw2 : Wk M1 gm1 0 (dS mm n 0) := by rw [show (dS mm n 0) = (mk (mp 0 1 ([]))) from dS_zero mm n]; exact hw1
 refine wlo 5 6 rfl rfl rfl (wo_storeR (C := (cdMap 87)) (i := 1) (e := 0) (j := 0) (us := [_]) (H' := [_, _]) (some gm1) rfl rfl S5 rfl (by first | omega | (simp only [lens]; omega)) rfl rfl rfl sz87 rfl rfl rfl rfl ?_)
 intro w5 S6; clear S5
 have hd2 := hd1.set_ (i := 0) (hw2.up (by exact Nat.zero_le _)) (by first | omega | (simp only [lens]; omega))
 refine wl_end rfl ?_
 refine nm_sub [(0, _), (4, _)] ⟨rfl, rfl, trivial⟩ ?_
 refine nm_thn ?_
 refine ws_seqN Determinant_n9 Determinant_n10 rfl rfl rfl ?_
 refine ws_seqN Determinant_n11 Determinant_n12 rfl rfl rfl ?_
 refine ws_region rfl ?_
 refine wla 0 1 rfl rfl rfl rfl rfl rfl rfl ?_
 refine wl_end rfl ?_
 refine nm_thn ?_
 refine ws_blockN Determinant_n13 0 rfl rfl rfl ?_
 refine ws_loopE (fun mx_ ax_ wx_ => ∃ (t : Nat) (gs : List (Option Nat)) (ps : List (Option Pol)) (vrs : Value) (M2 : Hp), M1.le M2 ∧ mx_ = 2 ^ n - t ∧ Env 79 [(0, .slice mA mv.length mc), (4, vrs), (5, .int .i64 (t : Int))] ax_ ∧ SH wx_ M2 X [Rs.row (cdMap 87) vrs gs] ∧ (1 ≤ t ∧ t ≤ 2 ^ n) ∧ gs.length = 2 ^ n ∧ (∀ j, j < t → ga ps j = some (dS mm n j)) ∧ Wks (fun i => pcN i 12 * B) M2 gs ps) rfl ?_ ?_
 ·intro ax_ hax_
  refine ⟨_, ⟨1, _, ((List.replicate (2 ^ n) none).set 0 (some (dS mm n 0))), _, _, Hp.le_refl _, rfl, hax_.sub ⟨rfl, rfl, rfl, trivial⟩, S6.pick [1] [_] (by decide) ⟨rfl, trivial⟩, ?hq1f0, ?hq1f1, ?hq1f2, ?hq1f3⟩⟩
  case hq1f0 => omega
  case hq1f1 => simp
  case hq1f2 => (intro j hj; obtain rfl : j = 0 := (by omega); rw [ga_set _ _ _ _ (by simp; omega), if_pos rfl])
  case hq1f3 => exact hd2
 ·rintro m2 a1 w6 ⟨t, gs, ps, vrs, M2, hle2, rfl, he1, S7, ht, hgl, hps, hws⟩
  clear S6
  refine ws_in he1 (c := Determinant_n14) rfl ?_
  clear he1 a1
  replace hm := hm.mono hle2
  replace hdm := hdm.mono hle2
  replace hwm := hwm.mono hle2
  replace hd1 := hd1.mono hle2
  replace hm1 := hm1.mono hle2
  replace hw1 := hw1.mono hle2
  replace hw2 := hw2.mono hle2
  replace hd2 := hd2.mono hle2
  have hpm := pc_mul t B
  have hwl := hws.1
  refine ws_seqN Determinant_n15 Determinant_n16 rfl rfl rfl ?_
  refine ws_seqN Determinant_n17 Determinant_n18 rfl rfl rfl ?_
  refine ws_region rfl ?_
  refine wlm 0 1 rfl rfl rfl rfl rfl rfl rfl ?_
  refine wlm 1 2 rfl rfl rfl rfl rfl rfl rfl ?_
  refine wlo 2 3 rfl rfl rfl (wo_run rfl rfl (run_lenR (C := (cdMap 87)) (i := 0) rfl rfl rfl rfl rfl rfl sl94 S7 rfl) ?_)
  refine wlo 3 4 rfl rfl rfl (wo_run rfl rfl (run_lss rfl rfl rfl) ?_)
  refine wl_end rfl ?_
  refine nm_sub [(0, _), (4, _), (5, _), (23, _)] ⟨rfl, rfl, rfl, rfl, trivial⟩ ?_
  refine nm_thn ?_
  refine ws_condN Determinant_n19 Determinant_n20 rfl rfl rfl rfl (fun hb23 => ?_) (fun hb23 => ?_)
  ·have hb23 := of_decide_eq_true hb23
   refine ws_skip rfl ?_
   refine nm_sub [(0, _), (4, _), (5, _)] ⟨rfl, rfl, rfl, trivial⟩ ?_
   refine nm_thn ?_
   refine ws_seqN Determinant_n21 Determinant_n22 rfl rfl rfl ?_
   refine ws_blockN Determinant_n23 1 rfl rfl rfl ?_
   refine ws_seqN Determinant_n24 Determinant_n25 rfl rfl rfl ?_
   obtain ⟨r, hr⟩ : ∃ r, pcN t 12 = r + 1 := ⟨pcN t 12 - 1, by have := pc_pos (s := t) (by omega) (by omega); omega⟩
   obtain ⟨hpe, hpl⟩ := pc_eq (s := t) (n := n) (by omega) (by omega)
   have hgr := hgl0 r (by omega)
   refine ws_region rfl ?_
   refine wlm 0 1 rfl rfl rfl rfl rfl rfl rfl ?_
   refine wlm 1 2 rfl rfl rfl rfl rfl rfl rfl ?_
   refine wlo 2 3 rfl rfl rfl (wo_run rfl rfl (run_convN (s := t) rfl rfl ⟨_, Try.underlying3⟩ Try.underlying155 (by omega)) ?_)
   refine wlo 3 4 rfl rfl rfl (wo_cq rfl rfl rfl rfl rfl rfl rfl cf112 S7 (OC_q t ((by omega)) S7.lend) ?_)
   rintro _ w7 S8 rfl; clear S7
   refine wlo 4 5 rfl rfl rfl (wo_run rfl rfl (run_sub rfl rfl rfl (by first | omega | (simp only [lens]; omega))) ?_)
   refine wl_eq 30 (.int .i64 (r : Int)) rfl (int_eq (by omega)) ?_
   refine wlo 5 6 rfl rfl rfl (wo_run rfl rfl (run_indexM (C := (cdV 94)) r rfl rfl rfl sl93 (by first | rfl | omega) hm (by first | omega | (simp only [lens]; omega))) ?_)
   obtain ⟨hn1, hr1⟩ := hdm.2 r (by first | omega | (simp only [lens]; omega))
   have rmhr1 : (ga gss r).length * 8 ≤ 140737488355328 := hr1.room
   have hW1 := hwm.2 r (by have := hwm.1; have := hdm.1; first | omega | (simp_all; omega))
   refine wlo 6 7 rfl rfl rfl (wo_run rfl rfl (run_load1 rfl rfl Try.underlying94 rfl (hm.cell S8.m (i := r) (by first | omega | (simp only [lens]; omega)) 0 rfl (congrArg (fun n => some (Value.slice _ n _)) hn1))) ?_)
   refine wla 7 8 rfl rfl rfl rfl rfl rfl rfl ?_
   refine wl_end rfl ?_
   refine nm_sub [(0, _), (4, _), (5, _), (6, _)] ⟨rfl, rfl, rfl, rfl, trivial⟩ ?_
   refine nm_thn ?_
   refine ws_seqN Determinant_n26 Determinant_n27 rfl rfl rfl ?_
   refine ws_region rfl ?_
   refine wlo 0 1 rfl rfl rfl (wo_makeMap Int Int (Value.int .i64) (Value.int .i64) rfl rfl rfl S8 ?_)
   intro gm3 w8 S9; clear S8
   refine wla 1 2 rfl rfl rfl rfl rfl rfl rfl ?_
   refine wl_end rfl ?_
   refine nm_sub [(0, _), (4, _), (5, _), (6, _), (7, _)] ⟨rfl, rfl, rfl, rfl, rfl, trivial⟩ ?_
   refine nm_thn ?_
   refine ws_seqN Determinant_n28 Determinant_n29 rfl rfl rfl ?_
   refine ws_seqN Determinant_n30 Determinant_n31 rfl rfl rfl ?_
   obtain ⟨M3, hle3, S10, hm2⟩ := S9.pubmap (i := 0) (H' := [_, _]) rfl rfl; clear S9
   replace hm := hm.mono hle3
   replace hdm := hdm.mono hle3
   replace hwm := hwm.mono hle3
   replace hd1 := hd1.mono hle3
   replace hm1 := hm1.mono hle3
   replace hw1 := hw1.mono hle3
   replace hw2 := hw2.mono hle3
   replace hd2 := hd2.mono hle3
   replace hws := hws.mono hle3
   replace hr1 := hr1.mono hle3
   replace hW1 := hW1.mono hle3
   refine ws_region rfl ?_
   refine wlm 0 1 rfl rfl rfl rfl rfl rfl rfl ?_
   refine wlo 1 2 rfl rfl rfl (wo_run rfl rfl (run_len rfl rfl rfl rfl rfl rfl Try.underlying94) ?_)
   refine wlm 2 3 rfl rfl rfl rfl rfl rfl rfl ?_
   refine wl_end rfl ?_
   refine nm_sub [(0, _), (4, _), (5, _), (7, _), (34, _), (35, _), (36, _)] ⟨rfl, rfl, rfl, rfl, rfl, rfl, rfl, trivial⟩ ?_
   refine nm_thn ?_
   refine ws_blockN Determinant_n32 2 rfl rfl rfl ?_
   refine ws_loopE (fun mx_ ax_ wx_ => ∃ (k : Nat) (go : Nat) (p : Pol) (M4 : Hp), M3.le M4 ∧ mx_ = n - k ∧ Env 79 [(0, .slice mA mv.length mc), (4, vrs), (5, .int .i64 (t : Int)), (7, .map (some go)), (34, .slice ((ga mv r).A) (ga gss r).length ((ga mv r).c)), (35, .int .i64 ((ga gss r).length : Int)), (36, .int .i64 (k : Int))] ax_ ∧ SH wx_ M4 X [Rs.row (cdMap 87) vrs gs] ∧ k ≤ n ∧ Wk M4 go (pcN t 12 * B) p ∧ p = sm k (dTerm mm n t r)) rfl ?_ ?_
   ·intro ax_ hax_
    refine ⟨_, ⟨0, gm3, Pol.o, _, Hp.le_refl _, rfl, hax_.sub ⟨rfl, rfl, rfl, rfl, rfl, rfl, rfl, trivial⟩, S10.pick [1] [_] (by decide) ⟨rfl, trivial⟩, ?hq2f0, ?hq2f1, ?hq2f2⟩⟩
    case hq2f0 => omega
    case hq2f1 => exact ⟨_, hm2, Ents.nil_ _, rfl⟩
    case hq2f2 => rfl
   ·rintro m4 a2 w9 ⟨k, go, p, M4, hle4, rfl, he2, S11, hk, hwo, hp⟩
    clear S10
    refine ws_in he2 (c := Determinant_n33) rfl ?_
    clear he2 a2
    replace hm := hm.mono hle4
    replace hdm := hdm.mono hle4
    replace hwm := hwm.mono hle4
    replace hd1 := hd1.mono hle4
    replace hm1 := hm1.mono hle4
    replace hw1 := hw1.mono hle4
    replace hw2 := hw2.mono hle4
    replace hd2 := hd2.mono hle4
    replace hws := hws.mono hle4
    replace hr1 := hr1.mono hle4
    replace hW1 := hW1.mono hle4
    replace hm2 := hm2.mono hle4
    refine ws_seqN Determinant_n34 Determinant_n35 rfl rfl rfl ?_
    refine ws_region rfl ?_
    refine wlo 0 1 rfl rfl rfl (wo_run rfl rfl (run_lss rfl rfl rfl) ?_)
    refine wl_end rfl ?_
    refine nm_thn ?_
    refine ws_seqN Determinant_n36 Determinant_n37 rfl rfl rfl ?_
    refine ws_condN Determinant_n38 Determinant_n39 rfl rfl rfl rfl (fun hb37 => ?_) (fun hb37 => ?_)
    ·have hb37 := of_decide_eq_true hb37
     refine ws_skip rfl ?_
     refine nm_sub [(0, _), (4, _), (5, _), (7, _), (34, _), (35, _), (36, _)] ⟨rfl, rfl, rfl, rfl, rfl, rfl, rfl, trivial⟩ ?_
     refine nm_thn ?_
     refine ws_seqN Determinant_n40 Determinant_n41 rfl rfl rfl ?_
     refine ws_blockN Determinant_n42 3 rfl rfl rfl ?_
     refine ws_seqN Determinant_n43 Determinant_n44 rfl rfl rfl ?_
     refine ws_region rfl ?_
     refine wlm 0 1 rfl rfl rfl rfl rfl rfl rfl ?_
     refine wlo 1 2 rfl rfl rfl (wo_run rfl rfl (run_indexM (C := (cdMap 87)) k rfl rfl rfl sl94 (by first | rfl | omega) hr1 (by first | omega | (simp only [lens]; omega))) ?_)
     obtain ⟨gw1, eg1, hw3⟩ := hW1.get (i := k) (p := mm r k) (by first | omega | (simp only [lens]; omega)) (hpss r (by omega) k (by omega))
     replace hw3 : Wk _ gw1 B (mm r k) := hw3
     refine wlo 2 3 rfl rfl rfl (wo_run rfl rfl (run_load1 rfl rfl Try.underlying87 rfl (hr1.cell S11.m (i := k) (by first | omega | (simp only [lens]; omega)) 0 rfl (congrArg (fun n => some (Value.map n)) eg1))) ?_)
     refine wla 3 4 rfl rfl rfl rfl rfl rfl rfl ?_
     refine wla 4 5 rfl rfl rfl rfl rfl rfl rfl ?_
     refine wl_end rfl ?_
     refine nm_sub [(0, _), (4, _), (5, _), (7, _), (34, _), (35, _), (36, _), (8, _), (9, _)] ⟨rfl, rfl, rfl, rfl, rfl, rfl, rfl, rfl, rfl, trivial⟩ ?_
     refine nm_thn ?_
     refine ws_seqN Determinant_n45 Determinant_n46 rfl rfl rfl ?_
     refine ws_seqN Determinant_n47 Determinant_n48 rfl rfl rfl ?_
     refine ws_region rfl ?_
     refine wlm 0 1 rfl rfl rfl rfl rfl rfl rfl ?_
     refine wlm 1 2 rfl rfl rfl rfl rfl rfl rfl ?_
     refine wlo 2 3 rfl rfl rfl (wo_run rfl rfl (run_shrN (s := t) (n := k) rfl rfl rfl (by omega)) ?_)
     refine wlo 3 4 rfl rfl rfl (wo_run rfl rfl (run_and1N (s := (t / 2 ^ k)) rfl rfl rfl) ?_)
     refine wlo 4 5 rfl rfl rfl (wo_run rfl rfl (run_eql rfl rfl rfl) ?_)
     refine wl_end rfl ?_
     refine nm_sub [(0, _), (4, _), (5, _), (7, _), (34, _), (35, _), (36, _), (8, _), (9, _), (45, _)] ⟨rfl, rfl, rfl, rfl, rfl, rfl, rfl, rfl, rfl, rfl, trivial⟩ ?_
     refine nm_thn ?_
     refine ws_condN Determinant_n49 Determinant_n50 rfl rfl rfl rfl (fun hb45 => ?_) (fun hb45 => ?_)
     ·have hb45 := of_decide_eq_true hb45
      refine ws_exit rfl rfl ?_
      refine nm_sub [(0, _), (4, _), (5, _), (7, _), (34, _), (35, _), (36, _)] ⟨rfl, rfl, rfl, rfl, rfl, rfl, rfl, trivial⟩ ?_
      refine nm_thn ?_
      refine ws_region rfl ?_
      refine wlo 0 1 rfl rfl rfl (wo_run rfl rfl (run_add rfl rfl rfl (by first | omega | (simp only [lens]; omega))) ?_)
      refine wlm 1 2 rfl rfl rfl rfl rfl rfl rfl ?_
      refine wl_end rfl ?_
      refine nm_lp ?_
      intro ax_ hax_
      refine ⟨_, ?hq3m, ⟨k + 1, go, p, _, (hle4), rfl, hax_.sub ⟨rfl, rfl, rfl, rfl, rfl, rfl, rfl, trivial⟩, S11.pick [0] [_] (by decide) ⟨rfl, trivial⟩, ?hq3f0, ?hq3f1, ?hq3f2⟩⟩
      case hq3f0 => omega
      case hq3f1 => exact hwo
      case hq3f2 => (rw [sm, ← hp]; unfold dTerm; rw [if_neg (by rw [bit_iff]; omega), Pol.add_zero])
      case hq3m => omega
     ·have hb45 := of_decide_eq_false hb45
      have hbit : tb t k = true := (bit_iff t k).2 (by omega)
      have hclr := pc_clr (s := t) (k := k) (by omega) (by omega) hbit
      have hcl := clr_lt (s := t) (n := k) (by omega) hbit
      have hbd := bd_step (B := B) hclr
      have hab := pc_above (s := t) (n := n) (k := k) (by omega) (by omega) (by omega)
      have hdiv := Nat.div_le_self t (2 ^ (k + 1))
      refine ws_skip rfl ?_
      refine nm_sub [(0, _), (4, _), (5, _), (7, _), (34, _), (35, _), (36, _), (8, _), (9, _)] ⟨rfl, rfl, rfl, rfl, rfl, rfl, rfl, rfl, rfl, trivial⟩ ?_
      refine nm_thn ?_
      refine ws_seqN Determinant_n51 Determinant_n52 rfl rfl rfl ?_
      refine ws_region rfl ?_
      refine wlm 0 1 rfl rfl rfl rfl rfl rfl rfl ?_
      refine wlm 1 2 rfl rfl rfl rfl rfl rfl rfl ?_
      refine wlo 2 3 rfl rfl rfl (wo_run rfl rfl (run_add rfl rfl rfl (by first | omega | (simp only [lens]; omega))) ?_)
      refine wlo 3 4 rfl rfl rfl (wo_run rfl rfl (run_shrN (s := t) (n := (k + 1)) rfl rfl rfl (by omega)) ?_)
      refine wlo 4 5 rfl rfl rfl (wo_run rfl rfl (run_convN (s := (t / 2 ^ (k + 1))) rfl rfl ⟨_, Try.underlying3⟩ Try.underlying155 (by omega)) ?_)
      refine wlo 5 6 rfl rfl rfl (wo_cq rfl rfl rfl rfl rfl rfl rfl cf112 S11 (OC_q (t / 2 ^ (k + 1)) ((by omega)) S11.lend) ?_)
      rintro _ w10 S12 rfl; clear S11
      refine wla 6 7 rfl rfl rfl rfl rfl rfl rfl ?_
      refine wl_end rfl ?_
      refine nm_sub [(0, _), (4, _), (5, _), (7, _), (34, _), (35, _), (36, _), (8, _), (9, _), (10, _)] ⟨rfl, rfl, rfl, rfl, rfl, rfl, rfl, rfl, rfl, rfl, trivial⟩ ?_
      refine nm_thn ?_
      refine ws_region rfl ?_
      refine wlm 0 1 rfl rfl rfl rfl rfl rfl rfl ?_
      refine wlm 1 2 rfl rfl rfl rfl rfl rfl rfl ?_
      refine wlm 2 3 rfl rfl rfl rfl rfl rfl rfl ?_
      refine wlm 3 4 rfl rfl rfl rfl rfl rfl rfl ?_
      refine wlm 4 5 rfl rfl rfl rfl rfl rfl rfl ?_
      refine wlo 5 6 rfl rfl rfl (wo_run rfl rfl (run_shl1N (n := k) rfl rfl rfl (by first | omega | (simp only [lens]; omega))) ?_)
      refine wlo 6 7 rfl rfl rfl (wo_run rfl rfl (run_clrN (s := t) (n := k) rfl rfl rfl (by omega) (by first | omega | (simp only [lens]; omega))) ?_)
      refine wlo 7 8 rfl rfl rfl (wo_run rfl rfl (run_indexR (C := (cdMap 87)) (i := 0) (clr t k) rfl rfl rfl sl94 S12 rfl (by first | rfl | omega) (by first | omega | (simp only [lens]; omega))) ?_)
      obtain ⟨gw2, eg2, hw4⟩ := hws.get (i := clr t k) (p := dS mm n (clr t k)) (by first | omega | (simp only [lens]; omega)) (hps (clr t k) (by omega))
      replace hw4 : Wk _ gw2 (pcN (clr t k) 12 * B) (dS mm n (clr t k)) := hw4
      refine wlo 8 9 rfl rfl rfl (wo_run rfl rfl (run_load1 rfl rfl Try.underlying87 rfl (S12.rowc (i := 0) (e := clr t k) (j := 0) rfl (by first | omega | (simp only [lens]; omega)) rfl (congrArg (fun n => some (Value.map n)) eg2))) ?_)
      refine wlo 9 10 rfl rfl rfl (wo_ct rfl rfl rfl rfl rfl rfl rfl cf61 S12 (TimesW_t hw3 hw4 (by omega) S12.lend) ?_)
      intro vw11 w11 M5 hle5 S13 hRw11; clear S12
      replace hm := hm.mono hle5
      replace hdm := hdm.mono hle5
      replace hwm := hwm.mono hle5
      replace hd1 := hd1.mono hle5
      replace hm1 := hm1.mono hle5
      replace hw1 := hw1.mono hle5
      replace hw2 := hw2.mono hle5
      replace hd2 := hd2.mono hle5
      replace hws := hws.mono hle5
      replace hr1 := hr1.mono hle5
      replace hW1 := hW1.mono hle5
      replace hm2 := hm2.mono hle5
      replace hwo := hwo.mono hle5
      replace hw3 := hw3.mono hle5
      replace hw4 := hw4.mono hle5
      obtain ⟨gw3, rfl, hw5⟩ := hRw11
      refine wlm 10 11 rfl rfl rfl rfl rfl rfl rfl ?_
      refine wlo 11 12 rfl rfl rfl (wo_run rfl rfl (run_rem rfl rfl rfl (by first | omega | (simp only [lens]; omega))) ?_)
      refine wlo 12 13 rfl rfl rfl (wo_run rfl rfl (run_mul rfl rfl rfl (by first | omega | (simp only [lens]; omega))) ?_)
      refine wlo 13 14 rfl rfl rfl (wo_run rfl rfl (run_sub rfl rfl rfl (by first | omega | (simp only [lens]; omega))) ?_)
      refine wlo 14 15 rfl rfl rfl (wo_ct rfl rfl rfl rfl rfl rfl rfl cf104 S13 (ShiftW_t hw5 0 (1 - (2 * ((pcN (t / 2 ^ (k + 1)) 12 : Int) % 2))) 0 (by omega) (by omega) S13.lend) ?_)
      intro vw12 w12 M6 hle6 S14 hRw12; clear S13
      replace hm := hm.mono hle6
      replace hdm := hdm.mono hle6
      replace hwm := hwm.mono hle6
      replace hd1 := hd1.mono hle6
      replace hm1 := hm1.mono hle6
      replace hw1 := hw1.mono hle6
      replace hw2 := hw2.mono hle6
      replace hd2 := hd2.mono hle6
      replace hws := hws.mono hle6
      replace hr1 := hr1.mono hle6
      replace hW1 := hW1.mono hle6
      replace hm2 := hm2.mono hle6
      replace hwo := hwo.mono hle6
      replace hw3 := hw3.mono hle6
      replace hw4 := hw4.mono hle6
      replace hw5 := hw5.mono hle6
      obtain ⟨gw4, rfl, hw6⟩ := hRw12
      refine wlo 15 16 rfl rfl rfl (wo_ct rfl rfl rfl rfl rfl rfl rfl cf60 S14 (PlusW_t hwo hw6 (max (pcN t 12 * B) ((B + (pcN (clr t k) 12 * B)) + 0)) (by omega) (by omega) (by omega) S14.lend) ?_)
      intro vw13 w13 M7 hle7 S15 hRw13; clear S14
      replace hm := hm.mono hle7
      replace hdm := hdm.mono hle7
      replace hwm := hwm.mono hle7
      replace hd1 := hd1.mono hle7
      replace hm1 := hm1.mono hle7
      replace hw1 := hw1.mono hle7
      replace hw2 := hw2.mono hle7
      replace hd2 := hd2.mono hle7
      replace hws := hws.mono hle7
      replace hr1 := hr1.mono hle7
      replace hW1 := hW1.mono hle7
      replace hm2 := hm2.mono hle7
      replace hwo := hwo.mono hle7
      replace hw3 := hw3.mono hle7
      replace hw4 := hw4.mono hle7
      replace hw5 := hw5.mono hle7
      replace hw6 := hw6.mono hle7
      obtain ⟨gw5, rfl, hw7⟩ := hRw13
      refine wla 16 17 rfl rfl rfl rfl rfl rfl rfl ?_
      refine wl_end rfl ?_
      refine nm_blk ?_
      refine nm_sub [(0, _), (4, _), (5, _), (7, _), (34, _), (35, _), (36, _)] ⟨rfl, rfl, rfl, rfl, rfl, rfl, rfl, trivial⟩ ?_
      refine nm_thn ?_
      refine ws_region rfl ?_
      refine wlo 0 1 rfl rfl rfl (wo_run rfl rfl (run_add rfl rfl rfl (by first | omega | (simp only [lens]; omega))) ?_)
      refine wlm 1 2 rfl rfl rfl rfl rfl rfl rfl ?_
      refine wl_end rfl ?_
      refine nm_lp ?_
      intro ax_ hax_
      refine ⟨_, ?hq4m, ⟨k + 1, gw5, p + (((mm r k) * (dS mm n (clr t k))) * mono 0 (1 - (2 * ((pcN (t / 2 ^ (k + 1)) 12 : Int) % 2)))), _, (((hle4.trans hle5).trans hle6).trans hle7), rfl, hax_.sub ⟨rfl, rfl, rfl, rfl, rfl, rfl, rfl, trivial⟩, S15.pick [0] [_] (by decide) ⟨rfl, trivial⟩, ?hq4f0, ?hq4f1, ?hq4f2⟩⟩
      case hq4f0 => omega
      case hq4f1 => exact hw7.up (by omega)
      case hq4f2 => (rw [sm, ← hp]; unfold dTerm; rw [if_pos hbit, ← hab]; exact congrArg (p + ·) (sg_mono _ _ rfl))
      case hq4m => omega
    ·have hb37 := of_decide_eq_false hb37
     refine ws_exit rfl rfl ?_
     refine nm_sub [(0, _), (4, _), (5, _), (7, _)] ⟨rfl, rfl, rfl, rfl, trivial⟩ ?_
     refine nm_thn ?_
     refine ws_region rfl ?_
     refine wlm 0 1 rfl rfl rfl rfl rfl rfl rfl ?_
     refine wlm 1 2 rfl rfl rfl rfl rfl rfl rfl ?_
     refine wlm 2 3 rfl rfl rfl rfl rfl rfl rfl ?_
     refine wlo 3 4 rfl rfl rfl (wo_run rfl rfl (run_indexR (C := (cdMap 87)) (i := 0) t rfl rfl rfl sl94 S11 rfl (by first | rfl | omega) (by first | omega | (simp only [lens]; omega))) ?_)
     have hw8 : Wk M4 go (pcN t 12 * B) (dS mm n t) := by rw [show (dS mm n t) = p from (by rw [hp, show k = n by omega]; exact dS_step (by omega) (by omega) hr)]; exact hwo
     refine wlo 4 5 rfl rfl rfl (wo_storeR (C := (cdMap 87)) (i := 0) (e := t) (j := 0) (us := [_]) (H' := [_]) (some go) rfl rfl S11 rfl (by first | omega | (simp only [lens]; omega)) rfl rfl rfl sz87 rfl rfl rfl rfl ?_)
     intro w15 S17; clear S11
     have hd3 := hws.set_ (i := t) (hw8.up (by exact Nat.le_refl _)) (by first | omega | (simp only [lens]; omega))
     refine wl_end rfl ?_
     refine nm_blk ?_
     refine nm_sub [(0, _), (4, _), (5, _)] ⟨rfl, rfl, rfl, trivial⟩ ?_
     refine nm_thn ?_
     refine ws_region rfl ?_
     refine wlm 0 1 rfl rfl rfl rfl rfl rfl rfl ?_
     refine wlo 1 2 rfl rfl rfl (wo_run rfl rfl (run_add rfl rfl rfl (by first | omega | (simp only [lens]; omega))) ?_)
     refine wla 2 3 rfl rfl rfl rfl rfl rfl rfl ?_
     refine wl_end rfl ?_
     refine nm_lp ?_
     intro ax_ hax_
     refine ⟨_, ?hq5m, ⟨t + 1, _, (ps.set t (some (dS mm n t))), _, _, ((hle2.trans hle3).trans hle4), rfl, hax_.sub ⟨rfl, rfl, rfl, trivial⟩, S17.pick [0] [_] (by decide) ⟨rfl, trivial⟩, ?hq5f0, ?hq5f1, ?hq5f2, ?hq5f3⟩⟩
     case hq5f0 => omega
     case hq5f1 => simpa using hgl
     case hq5f2 => (intro j hj; rw [ga_set _ _ _ _ (by omega)]; split; (rename_i e; subst e; rfl); exact hps j (by omega))
     case hq5f3 => exact hd3
     case hq5m => omega
  ·have hb23 := of_decide_eq_false hb23
   refine ws_exit rfl rfl ?_
   refine nm_sub [(4, _)] ⟨rfl, trivial⟩ ?_
   refine nm_thn ?_
   refine ws_seqN Determinant_n53 Determinant_n54 rfl rfl rfl ?_
   refine ws_region rfl ?_
   refine wlm 0 1 rfl rfl rfl rfl rfl rfl rfl ?_
   refine wlm 1 2 rfl rfl rfl rfl rfl rfl rfl ?_
   refine wlo 2 3 rfl rfl rfl (wo_run rfl rfl (run_lenR (C := (cdMap 87)) (i := 0) rfl rfl rfl rfl rfl rfl sl94 S7 rfl) ?_)
   refine wlo 3 4 rfl rfl rfl (wo_run rfl rfl (run_sub rfl rfl rfl (by first | omega | (simp only [lens]; omega))) ?_)
   refine wlo 4 5 rfl rfl rfl (wo_run rfl rfl (run_indexR (C := (cdMap 87)) (i := 0) (((gs.length : Int) - 1).toNat) rfl rfl rfl sl94 S7 rfl (by first | rfl | omega) (by first | omega | (simp only [lens]; omega))) ?_)
   obtain ⟨gw6, eg3, hw9⟩ := hws.get (i := ((gs.length : Int) - 1).toNat) (p := detP mm n) (by first | omega | (simp only [lens]; omega)) (by rw [show (((gs.length : Int) - 1).toNat) = 2 ^ n - 1 by omega, hps _ (by omega)]; exact congrArg some (dS_full mm (by omega)))
   replace hw9 : Wk _ gw6 (pcN (((gs.length : Int) - 1).toNat) 12 * B) (detP mm n) := hw9
   refine wlo 5 6 rfl rfl rfl (wo_run rfl rfl (run_load1 rfl rfl Try.underlying87 rfl (S7.rowc (i := 0) (e := ((gs.length : Int) - 1).toNat) (j := 0) rfl (by first | omega | (simp only [lens]; omega)) rfl (congrArg (fun n => some (Value.map n)) eg3))) ?_)
   refine wla 6 7 rfl rfl rfl rfl rfl rfl rfl ?_
   refine wl_end rfl ?_
   refine nm_sub [(2, _)] ⟨rfl, trivial⟩ ?_
   refine nm_thn ?_
   refine ws_ret hC [_] rfl rfl ⟨rfl, trivial⟩ ?_
   refine ⟨_, rfl, _, hle1.trans hle2, (S7.pick [] [] (by decide) trivial), ?_⟩
   exact ⟨_, rfl, hw9.up (pc_mul _ _)⟩
end Go.Proofs.Ytkcighnochjlgaa
namespace Go.Proofs.Ytkcighnochjlgaa
open Go.ChangeShapes Go.WideShapes Go.ChangeAt Go.RowKit
def mkM (nn : List (List (List Tm))) : List (List Pol) := nn.map fun r => r.map fun l => mk (pr l)
def sgI (c : Nat) : Int := if c % 2 = 1 then -1 else 1
theorem sgI_zero : sgI 0 = 1 := rfl
theorem sgI_succ (c : Nat) : sgI (c + 1) = -sgI c := by unfold sgI; split <;> split <;> omega
theorem sgI_bd (c : Nat) : -1 ≤ sgI c ∧ sgI c ≤ 1 := by unfold sgI; split <;> omega
theorem sg_sgI (c : Nat) (y : Pol) : y * mono 0 (sgI c) = sg c y := sg_mono c y (by unfold sgI; split <;> omega)
theorem mkM_less (nn : List (List (List Tm))) (c : Nat) : mkM ((nn.drop 1).map fun r => r.eraseIdx c) = ((mkM nn).drop 1).map fun r => r.eraseIdx c := by
 unfold mkM
 rw [← List.map_drop, List.map_map, List.map_map]
 refine List.map_congr_left fun r _ => ?_
 exact (map_eraseIdx _ r c).symm
theorem mkM_at {nn : List (List (List Tm))} {i k : Nat} (hi : i < nn.length) (hk : k < (ga nn i).length) : ga (ga (mkM nn) i) k = mk (pr (ga (ga nn i) k)) := by
 unfold mkM
 rw [ga_map _ _ _ hi, ga_map _ _ _ hk]
/-- What the determinant asks of a table. -/
def SqT (nn : List (List (List Tm))) (n B : Nat) : Prop := nn.length = n ∧ (∀ i, i < n → (ga nn i).length = n) ∧ ∀ i, i < n → ∀ k, k < n → Bd (ga (ga nn i) k) B
theorem ga_erase {β : Type} [Inhabited β] (l : List β) (c k : Nat) : ga (l.eraseIdx c) k = if k < c then ga l k else ga l (k + 1) := by
 unfold ga
 rw [List.getD_eq_getElem?_getD, List.getElem?_eraseIdx]
 split <;> simp [List.getD_eq_getElem?_getD]
theorem SqT.less {nn : List (List (List Tm))} {q B : Nat} (h : SqT nn (q + 1) B) {c : Nat} (hc : c < q + 1) : SqT ((nn.drop 1).map fun r => r.eraseIdx c) q B := by
 obtain ⟨h1, h2, h3⟩ := h
 have hg : ∀ i, i < q → ga ((nn.drop 1).map fun r => r.eraseIdx c) i = (ga nn (i + 1)).eraseIdx c := fun i hi => by
  rw [ga_map _ _ _ (by rw [List.length_drop]; omega), ga_drop, Nat.add_comm]
 refine ⟨by simp [h1], fun i hi => ?_, fun i hi k hk => ?_⟩
 ·rw [hg i hi, List.length_eraseIdx, h2 _ (by omega), if_pos hc]; rfl
 ·rw [hg i hi, ga_erase]
  split
  ·exact h3 _ (by omega) _ (by omega)
  ·exact h3 _ (by omega) _ (by omega)
noncomputable def RDet_n0 : Code := Try.f32.body.getD .skip
noncomputable def RDet_n1 : Code := cL RDet_n0
noncomputable def RDet_n2 : Code := cR RDet_n0
noncomputable def RDet_n3 : Code := cL RDet_n2
noncomputable def RDet_n4 : Code := cR RDet_n2
noncomputable def RDet_n5 : Code := cL RDet_n3
noncomputable def RDet_n6 : Code := cR RDet_n3
noncomputable def RDet_n7 : Code := cL RDet_n6
noncomputable def RDet_n8 : Code := cR RDet_n6
noncomputable def RDet_n9 : Code := cL RDet_n7
noncomputable def RDet_n10 : Code := cR RDet_n7
noncomputable def RDet_n11 : Code := cL RDet_n4
noncomputable def RDet_n12 : Code := cR RDet_n4
noncomputable def RDet_n13 : Code := cL RDet_n12
noncomputable def RDet_n14 : Code := cR RDet_n12
noncomputable def RDet_n15 : Code := cL RDet_n14
noncomputable def RDet_n16 : Code := cR RDet_n14
noncomputable def RDet_n17 : Code := cL RDet_n15
noncomputable def RDet_n18 : Code := cR RDet_n15
noncomputable def RDet_n19 : Code := cL RDet_n18
noncomputable def RDet_n20 : Code := cL RDet_n19
noncomputable def RDet_n21 : Code := cL RDet_n20
noncomputable def RDet_n22 : Code := cR RDet_n20
noncomputable def RDet_n23 : Code := cL RDet_n21
noncomputable def RDet_n24 : Code := cR RDet_n21
noncomputable def RDet_n25 : Code := cL RDet_n24
noncomputable def RDet_n26 : Code := cR RDet_n24
noncomputable def RDet_n27 : Code := cL RDet_n22
noncomputable def RDet_n28 : Code := cR RDet_n22
noncomputable def RDet_n29 : Code := cL RDet_n27
noncomputable def RDet_n30 : Code := cL RDet_n29
noncomputable def RDet_n31 : Code := cR RDet_n29
noncomputable def RDet_n32 : Code := cL RDet_n30
noncomputable def RDet_n33 : Code := cR RDet_n30
noncomputable def RDet_n34 : Code := cL RDet_n33
noncomputable def RDet_n35 : Code := cR RDet_n33
noncomputable def RDet_n36 : Code := cL RDet_n34
noncomputable def RDet_n37 : Code := cR RDet_n34
noncomputable def RDet_n38 : Code := cL RDet_n37
noncomputable def RDet_n39 : Code := cR RDet_n37
noncomputable def RDet_n40 : Code := cL RDet_n38
noncomputable def RDet_n41 : Code := cR RDet_n38
noncomputable def RDet_n42 : Code := cL RDet_n41
noncomputable def RDet_n43 : Code := cL RDet_n42
noncomputable def RDet_n44 : Code := cL RDet_n43
noncomputable def RDet_n45 : Code := cR RDet_n43
noncomputable def RDet_n46 : Code := cL RDet_n44
noncomputable def RDet_n47 : Code := cR RDet_n44
noncomputable def RDet_n48 : Code := cL RDet_n47
noncomputable def RDet_n49 : Code := cR RDet_n47
noncomputable def RDet_n50 : Code := cL RDet_n45
noncomputable def RDet_n51 : Code := cR RDet_n45
noncomputable def RDet_n52 : Code := cL RDet_n50
noncomputable def RDet_n53 : Code := cL RDet_n52
noncomputable def RDet_n54 : Code := cR RDet_n52
noncomputable def RDet_n55 : Code := cL RDet_n54
noncomputable def RDet_n56 : Code := cR RDet_n54
noncomputable def RDet_n57 : Code := cL RDet_n56
noncomputable def RDet_n58 : Code := cR RDet_n56
noncomputable def RDet_n59 : Code := cL RDet_n16
noncomputable def RDet_n60 : Code := cR RDet_n16
set_option maxHeartbeats 1000000 in
set_option maxRecDepth 10000 in
theorem RDet_step {w : World} {M : Hp} {X : Fr} (nn : List (List (List Tm))) {nnA : Option Addr} {nnc : Nat} {nnv : List SlV} {nns : List (List SlV)} (hnn : RdA (cdV 43) M nnA nnc nnv) (hdnn : Rd2 (cdV 22) M nnv nns) (h3nn : RdD cdTm M nns nn) (n B : Nat) (ih : ∀ (n' : Nat), n' < n → ∀ (w : World) (M : Hp) (X : Fr) (nn : List (List (List Tm))) (A : Option Addr) (c : Nat) (v : List SlV) (s : List (List SlV)), RdA (cdV 43) M A c v → Rd2 (cdV 22) M v s → RdD cdTm M s nn → SqT nn n' B → SH w M X [] → Ct Try.prog 32 [.slice A v.length c] w M X (PT (n' * B) (dT n' (mkM nn)))) (hsq : SqT nn n B) (hn : n ≤ 10) (hB : 10 * B ≤ 1099511627776) (S : SH w M X []) : Ct Try.prog 32 [.slice nnA nnv.length nnc] w M X (PT (n * B) (dT n (mkM nn))) := by
 unfold Ct
 have rmhnn : nnv.length * 24 ≤ 140737488355328 := hnn.room
 have hnl := hdnn.1
 have hn3 := h3nn.1
 obtain ⟨hnn1, hlen, hbd⟩ := hsq
 have hsq : SqT nn n B := ⟨hnn1, hlen, hbd⟩
 refine calls_in (b := RDet_n0) Try.func32 rfl Try.ntmps32 rfl (fun C hC => ?_)
 refine ws_sub [(0, _)] ⟨rfl, trivial⟩ ?_
 refine ws_seqN RDet_n1 RDet_n2 rfl rfl rfl ?_
 refine ws_region rfl ?_
 refine wla 0 1 rfl rfl rfl rfl rfl rfl rfl ?_
 refine wl_end rfl ?_
 refine nm_sub [(0, _)] ⟨rfl, trivial⟩ ?_
 refine nm_thn ?_
 refine ws_seqN RDet_n3 RDet_n4 rfl rfl rfl ?_
 refine ws_seqN RDet_n5 RDet_n6 rfl rfl rfl ?_
 refine ws_region rfl ?_
 refine wlm 0 1 rfl rfl rfl rfl rfl rfl rfl ?_
 refine wlo 1 2 rfl rfl rfl (wo_run rfl rfl (run_len rfl rfl rfl rfl rfl rfl Try.underlying37) ?_)
 refine wlo 2 3 rfl rfl rfl (wo_run rfl rfl (run_eql rfl rfl rfl) ?_)
 refine wl_end rfl ?_
 refine nm_sub [(0, _), (11, _)] ⟨rfl, rfl, trivial⟩ ?_
 refine nm_thn ?_
 refine ws_condN RDet_n7 RDet_n8 rfl rfl rfl rfl (fun hb11 => ?_) (fun hb11 => ?_)
 ·have hb11 := of_decide_eq_true hb11
  refine ws_seqN RDet_n9 RDet_n10 rfl rfl rfl ?_
  refine ws_region rfl ?_
  refine wlo 0 1 rfl rfl rfl (wo_run rfl rfl (run_build (l := [_, _]) rfl rfl st89 rfl rfl) ?_)
  refine wlo 1 2 rfl rfl rfl (wo_buildSlice1 (C := cdTm) (l := [_, _]) rfl rfl rfl rfl sl22 rfl rfl rfl rfl S ?_)
  intro gb1 w1 S1; clear S
  refine wla 2 3 rfl rfl rfl rfl rfl rfl rfl ?_
  refine wl_end rfl ?_
  refine nm_sub [(2, _)] ⟨rfl, trivial⟩ ?_
  refine nm_thn ?_
  obtain ⟨M1, hle1, S2, hr1⟩ := S1.pubbox (C := cdTm) (z := (⟨0, 1⟩ : Tm)) (i := 0) (H' := [_]) rfl rfl rfl (by decide)
  clear S1
  replace hnn := hnn.mono hle1
  replace hdnn := hdnn.mono hle1
  replace h3nn := h3nn.mono hle1
  refine ws_ret hC [_] rfl rfl ⟨rfl, trivial⟩ ?_
  refine ⟨_, rfl, _, hle1, (S2.pick [] [] (by decide) trivial), ?_⟩
  obtain rfl : n = 0 := by omega
  exact ⟨_, _, [⟨0, 1⟩], rfl, hr1, ⟨List.pairwise_singleton _ _, fun t ht => by simp at ht; subst ht; exact ⟨by decide, wr_id (by decide), wr_id (by decide)⟩⟩, fun t ht => by simp at ht; subst ht; constructor <;> (dsimp only; omega), rfl⟩
 ·have hb11 := of_decide_eq_false hb11
  obtain ⟨q, rfl⟩ : ∃ q, n = q + 1 := ⟨n - 1, by omega⟩
  have hqB : (q + 1) * B = q * B + B := Nat.succ_mul q B
  have hqB2 : (q + 1) * B ≤ 10 * B := Nat.mul_le_mul_right _ hn
  refine ws_skip rfl ?_
  refine nm_sub [(0, _)] ⟨rfl, trivial⟩ ?_
  refine nm_thn ?_
  refine ws_seqN RDet_n11 RDet_n12 rfl rfl rfl ?_
  refine ws_region rfl ?_
  refine wla 0 1 rfl rfl rfl rfl rfl rfl rfl ?_
  refine wl_end rfl ?_
  refine nm_thn ?_
  refine ws_seqN RDet_n13 RDet_n14 rfl rfl rfl ?_
  refine ws_region rfl ?_
  refine wla 0 1 rfl rfl rfl rfl rfl rfl rfl ?_
  refine wl_end rfl ?_
  refine nm_thn ?_
  refine ws_seqN RDet_n15 RDet_n16 rfl rfl rfl ?_
  refine ws_seqN RDet_n17 RDet_n18 rfl rfl rfl ?_
  refine ws_eq 4 (.int .i64 (sgI 0)) rfl (int_eq sgI_zero.symm) ?_
  refine ws_region rfl ?_
  refine wla 0 1 rfl rfl rfl rfl rfl rfl rfl ?_
  refine wl_end rfl ?_
  refine nm_sub [(0, _), (3, _), (4, _), (5, _)] ⟨rfl, rfl, rfl, rfl, trivial⟩ ?_
  refine nm_thn ?_
  refine ws_blockN RDet_n19 0 rfl rfl rfl ?_
  refine ws_loopE (fun mx_ ax_ wx_ => ∃ (c : Nat) (acc : List Tm) (Ao : Option Addr) (co : Nat) (M2 : Hp), M.le M2 ∧ mx_ = q + 1 - c ∧ Env 70 [(0, .slice nnA nnv.length nnc), (3, .slice Ao acc.length co), (4, .int .i64 (sgI c)), (5, .int .i64 (c : Int))] ax_ ∧ SH wx_ M2 X [] ∧ RdA cdTm M2 Ao co acc ∧ c ≤ q + 1 ∧ Can acc ∧ Bd acc ((q + 1) * B) ∧ mk (pr acc) = sm c (fun c => sg c (ga (ga (mkM nn) 0) c * dT q (((mkM nn).drop 1).map fun r => r.eraseIdx c)))) rfl ?_ ?_
  ·intro ax_ hax_
   refine ⟨_, ⟨0, [], none, 0, _, Hp.le_refl _, rfl, hax_.sub ⟨rfl, rfl, rfl, rfl, trivial⟩, S.pick [] [] (by decide) trivial, ?hq1f0, ?hq1f1, ?hq1f2, ?hq1f3, ?hq1f4⟩⟩
   case hq1f0 => exact RdA.nil_
   case hq1f1 => omega
   case hq1f2 => exact Can.nil_
   case hq1f3 => (intro t ht; simp at ht)
   case hq1f4 => rfl
  ·rintro m1 a1 w2 ⟨c, acc, Ao, co, M2, hle2, rfl, he1, S3, hacc, hc, hcc, hbc, hmc⟩
   clear S
   refine ws_in he1 (c := RDet_n20) rfl ?_
   clear he1 a1
   replace hnn := hnn.mono hle2
   replace hdnn := hdnn.mono hle2
   replace h3nn := h3nn.mono hle2
   have hl0 := hlen 0 (by omega)
   have hsb := sgI_bd c
   refine ws_seqN RDet_n21 RDet_n22 rfl rfl rfl ?_
   refine ws_seqN RDet_n23 RDet_n24 rfl rfl rfl ?_
   refine ws_region rfl ?_
   refine wlm 0 1 rfl rfl rfl rfl rfl rfl rfl ?_
   refine wlm 1 2 rfl rfl rfl rfl rfl rfl rfl ?_
   refine wlo 2 3 rfl rfl rfl (wo_run rfl rfl (run_len rfl rfl rfl rfl rfl rfl Try.underlying37) ?_)
   refine wlo 3 4 rfl rfl rfl (wo_run rfl rfl (run_lss rfl rfl rfl) ?_)
   refine wl_end rfl ?_
   refine nm_sub [(0, _), (3, _), (4, _), (5, _), (17, _)] ⟨rfl, rfl, rfl, rfl, rfl, trivial⟩ ?_
   refine nm_thn ?_
   refine ws_condN RDet_n25 RDet_n26 rfl rfl rfl rfl (fun hb17 => ?_) (fun hb17 => ?_)
   ·have hb17 := of_decide_eq_true hb17
    refine ws_skip rfl ?_
    refine nm_sub [(0, _), (3, _), (4, _), (5, _)] ⟨rfl, rfl, rfl, rfl, trivial⟩ ?_
    refine nm_thn ?_
    refine ws_seqN RDet_n27 RDet_n28 rfl rfl rfl ?_
    refine ws_blockN RDet_n29 1 rfl rfl rfl ?_
    refine ws_seqN RDet_n30 RDet_n31 rfl rfl rfl ?_
    refine ws_seqN RDet_n32 RDet_n33 rfl rfl rfl ?_
    refine ws_region rfl ?_
    refine wlm 0 1 rfl rfl rfl rfl rfl rfl rfl ?_
    refine wlo 1 2 rfl rfl rfl (wo_run rfl rfl (run_indexM (C := (cdV 43)) 0 rfl rfl rfl sl37 (by first | rfl | omega) hnn (by first | omega | (simp only [lens]; omega))) ?_)
    obtain ⟨hn1, hr2⟩ := hdnn.2 0 (by first | omega | (simp only [lens]; omega))
    have rmhr2 : (ga nns 0).length * 24 ≤ 140737488355328 := hr2.room
    have hW1 := h3nn.2 0 (by have := h3nn.1; have := hdnn.1; first | omega | (simp_all; omega))
    have hW1l := hW1.1
    refine wlo 2 3 rfl rfl rfl (wo_run rfl rfl (run_load1 rfl rfl Try.underlying43 rfl (hnn.cell S3.m (i := 0) (by first | omega | (simp only [lens]; omega)) 0 rfl (congrArg (fun n => some (Value.slice _ n _)) hn1))) ?_)
    refine wlm 3 4 rfl rfl rfl rfl rfl rfl rfl ?_
    refine wlo 4 5 rfl rfl rfl (wo_run rfl rfl (run_indexM (C := (cdV 22)) c rfl rfl rfl sl43 (by first | rfl | omega) hr2 (by first | omega | (simp only [lens]; omega))) ?_)
    obtain ⟨hn2, hr3⟩ := hW1.2 c (by first | omega | (simp only [lens]; omega))
    have rmhr3 : (ga (ga nn 0) c).length * 16 ≤ 140737488355328 := hr3.room
    refine wlo 5 6 rfl rfl rfl (wo_run rfl rfl (run_load1 rfl rfl Try.underlying22 rfl (hr2.cell S3.m (i := c) (by first | omega | (simp only [lens]; omega)) 0 rfl (congrArg (fun n => some (Value.slice _ n _)) hn2))) ?_)
    refine wlo 6 7 rfl rfl rfl (wo_run rfl rfl (run_len rfl rfl rfl rfl rfl rfl Try.underlying22) ?_)
    refine wlo 7 8 rfl rfl rfl (wo_run rfl rfl (run_gtr rfl rfl rfl) ?_)
    refine wl_end rfl ?_
    refine nm_sub [(0, _), (3, _), (4, _), (5, _), (27, _)] ⟨rfl, rfl, rfl, rfl, rfl, trivial⟩ ?_
    refine nm_thn ?_
    refine ws_condN RDet_n34 RDet_n35 rfl rfl rfl rfl (fun hb27 => ?_) (fun hb27 => ?_)
    ·have hb27 := of_decide_eq_true hb27
     refine ws_seqN RDet_n36 RDet_n37 rfl rfl rfl ?_
     refine ws_region rfl ?_
     refine wla 0 1 rfl rfl rfl rfl rfl rfl rfl ?_
     refine wl_end rfl ?_
     refine nm_sub [(0, _), (3, _), (4, _), (5, _), (6, _)] ⟨rfl, rfl, rfl, rfl, rfl, trivial⟩ ?_
     refine nm_thn ?_
     refine ws_seqN RDet_n38 RDet_n39 rfl rfl rfl ?_
     refine ws_seqN RDet_n40 RDet_n41 rfl rfl rfl ?_
     refine ws_region rfl ?_
     refine wla 0 1 rfl rfl rfl rfl rfl rfl rfl ?_
     refine wl_end rfl ?_
     refine nm_thn ?_
     refine ws_blockN RDet_n42 2 rfl rfl rfl ?_
     have S4 := S3.nilrow (cdV 43); clear S3
     refine ws_loopE (fun mx_ ax_ wx_ => ∃ (r : Nat) (lv : List SlV) (ls : List (List SlV)) (lm : List (List (List Tm))) (vrl : Value) (M3 : Hp), M2.le M3 ∧ mx_ = q - r ∧ Env 70 [(0, .slice nnA nnv.length nnc), (3, .slice Ao acc.length co), (4, .int .i64 (sgI c)), (5, .int .i64 (c : Int)), (6, vrl), (7, .int .i64 ((r + 1 : Nat) : Int))] ax_ ∧ SH wx_ M3 X [Rs.row (cdV 43) vrl lv] ∧ r ≤ q ∧ lm = ((nn.drop 1).take r).map (fun z => z.eraseIdx c) ∧ Rd2 (cdV 22) M3 lv ls ∧ RdD cdTm M3 ls lm) rfl ?_ ?_
     ·intro ax_ hax_
      refine ⟨_, ⟨0, _, ([]), ([]), _, _, Hp.le_refl _, rfl, hax_.sub ⟨rfl, rfl, rfl, rfl, rfl, rfl, trivial⟩, S4.pick [0] [_] (by decide) ⟨rfl, trivial⟩, ?hq2f0, ?hq2f1, ?hq2f2, ?hq2f3⟩⟩
      case hq2f0 => omega
      case hq2f1 => rfl
      case hq2f2 => exact Rd2.nil_
      case hq2f3 => exact RdD.nil_
     ·rintro m2 a2 w3 ⟨r, lv, ls, lm, vrl, M3, hle3, rfl, he2, S5, hr, hlm, hl2, hl3⟩
      clear S4
      refine ws_in he2 (c := RDet_n43) rfl ?_
      clear he2 a2
      replace hnn := hnn.mono hle3
      replace hdnn := hdnn.mono hle3
      replace h3nn := h3nn.mono hle3
      replace hacc := hacc.mono hle3
      replace hr2 := hr2.mono hle3
      replace hW1 := hW1.mono hle3
      replace hr3 := hr3.mono hle3
      have hl1 := hl2.1
      have hl4 := hl3.1
      have hll : lm.length = r := by rw [hlm, List.length_map, List.length_take, List.length_drop]; omega
      have hlr : r < q → (ga nn (r + 1)).length = q + 1 := fun _ => hlen (r + 1) (by omega)
      refine ws_seqN RDet_n44 RDet_n45 rfl rfl rfl ?_
      refine ws_seqN RDet_n46 RDet_n47 rfl rfl rfl ?_
      refine ws_region rfl ?_
      refine wlm 0 1 rfl rfl rfl rfl rfl rfl rfl ?_
      refine wlm 1 2 rfl rfl rfl rfl rfl rfl rfl ?_
      refine wlo 2 3 rfl rfl rfl (wo_run rfl rfl (run_len rfl rfl rfl rfl rfl rfl Try.underlying37) ?_)
      refine wlo 3 4 rfl rfl rfl (wo_run rfl rfl (run_lss rfl rfl rfl) ?_)
      refine wl_end rfl ?_
      refine nm_sub [(0, _), (3, _), (4, _), (5, _), (6, _), (7, _), (31, _)] ⟨rfl, rfl, rfl, rfl, rfl, rfl, rfl, trivial⟩ ?_
      refine nm_thn ?_
      refine ws_condN RDet_n48 RDet_n49 rfl rfl rfl rfl (fun hb31 => ?_) (fun hb31 => ?_)
      ·have hb31 := of_decide_eq_true hb31
       refine ws_skip rfl ?_
       refine nm_sub [(0, _), (3, _), (4, _), (5, _), (6, _), (7, _)] ⟨rfl, rfl, rfl, rfl, rfl, rfl, trivial⟩ ?_
       refine nm_thn ?_
       refine ws_seqN RDet_n50 RDet_n51 rfl rfl rfl ?_
       refine ws_blockN RDet_n52 3 rfl rfl rfl ?_
       refine ws_seqN RDet_n53 RDet_n54 rfl rfl rfl ?_
       refine ws_region rfl ?_
       refine wla 0 1 rfl rfl rfl rfl rfl rfl rfl ?_
       refine wl_end rfl ?_
       refine nm_thn ?_
       refine ws_seqN RDet_n55 RDet_n56 rfl rfl rfl ?_
       refine ws_region rfl ?_
       refine wlm 0 1 rfl rfl rfl rfl rfl rfl rfl ?_
       refine wlm 1 2 rfl rfl rfl rfl rfl rfl rfl ?_
       refine wlm 2 3 rfl rfl rfl rfl rfl rfl rfl ?_
       refine wlo 3 4 rfl rfl rfl (wo_run rfl rfl (run_indexM (C := (cdV 43)) (r + 1) rfl rfl rfl sl37 (by first | rfl | omega) hnn (by first | omega | (simp only [lens]; omega))) ?_)
       obtain ⟨hn3, hr4⟩ := hdnn.2 (r + 1) (by first | omega | (simp only [lens]; omega))
       have rmhr4 : (ga nns (r + 1)).length * 24 ≤ 140737488355328 := hr4.room
       have hW2 := h3nn.2 (r + 1) (by have := h3nn.1; have := hdnn.1; first | omega | (simp_all; omega))
       have hW2l := hW2.1
       refine wlo 4 5 rfl rfl rfl (wo_run rfl rfl (run_load1 rfl rfl Try.underlying43 rfl (hnn.cell S5.m (i := r + 1) (by first | omega | (simp only [lens]; omega)) 0 rfl (congrArg (fun n => some (Value.slice _ n _)) hn3))) ?_)
       refine wlm 5 6 rfl rfl rfl rfl rfl rfl rfl ?_
       refine wlo 6 7 rfl rfl rfl (wo_sliceT (C := (cdV 22)) c rfl rfl rfl rfl rfl sl43 (by first | rfl | omega) (by first | omega | (simp only [lens]; omega)) hr4 ?_)
       intro A1 c1 hr5
       have hd1 := hW2.take_ c
       have S6 := S5.nilrow (cdV 22); clear S5
       refine wlo 7 8 rfl rfl rfl (wo_appendM (C := (cdV 22)) (i := 0) rfl rfl rfl rfl rfl rfl rfl rfl sl43 S6 rfl hr5 S6.m (by show (0 + _) * 24 ≤ _; rw [List.length_take]; omega) ?_)
       intro vr3 w4 S7; clear S6
       change SH _ _ _ [Rs.row (cdV 22) vr3 ((ga nns (r + 1)).take c), _] at S7
       have hd2 := hd1
       refine wla 8 9 rfl rfl rfl rfl rfl rfl rfl ?_
       refine wl_end rfl ?_
       refine nm_sub [(0, _), (3, _), (4, _), (5, _), (6, _), (7, _), (8, _)] ⟨rfl, rfl, rfl, rfl, rfl, rfl, rfl, trivial⟩ ?_
       refine nm_thn ?_
       refine ws_seqN RDet_n57 RDet_n58 rfl rfl rfl ?_
       refine ws_region rfl ?_
       refine wlm 0 1 rfl rfl rfl rfl rfl rfl rfl ?_
       refine wlm 1 2 rfl rfl rfl rfl rfl rfl rfl ?_
       refine wlm 2 3 rfl rfl rfl rfl rfl rfl rfl ?_
       refine wlo 3 4 rfl rfl rfl (wo_run rfl rfl (run_indexM (C := (cdV 43)) (r + 1) rfl rfl rfl sl37 (by first | rfl | omega) hnn (by first | omega | (simp only [lens]; omega))) ?_)
       obtain ⟨hn4, hr6⟩ := hdnn.2 (r + 1) (by first | omega | (simp only [lens]; omega))
       have rmhr6 : (ga nns (r + 1)).length * 24 ≤ 140737488355328 := hr6.room
       have hW3 := h3nn.2 (r + 1) (by have := h3nn.1; have := hdnn.1; first | omega | (simp_all; omega))
       have hW3l := hW3.1
       refine wlo 4 5 rfl rfl rfl (wo_run rfl rfl (run_load1 rfl rfl Try.underlying43 rfl (hnn.cell S7.m (i := r + 1) (by first | omega | (simp only [lens]; omega)) 0 rfl (congrArg (fun n => some (Value.slice _ n _)) hn4))) ?_)
       refine wlm 5 6 rfl rfl rfl rfl rfl rfl rfl ?_
       refine wlo 6 7 rfl rfl rfl (wo_run rfl rfl (run_add rfl rfl rfl (by first | omega | (simp only [lens]; omega))) ?_)
       refine wlo 7 8 rfl rfl rfl (wo_sliceD (C := (cdV 22)) (c + 1) rfl rfl rfl rfl rfl sl43 (by first | rfl | omega) (by first | omega | (simp only [lens]; omega)) hr6 ?_)
       intro A2 c2 hr7
       have hd3 := hW3.drop_ (c + 1)
       refine wlo 8 9 rfl rfl rfl (wo_appendM (C := (cdV 22)) (i := 0) rfl rfl rfl rfl rfl rfl rfl rfl sl43 S7 rfl hr7 S7.m (by have e1 := @List.length_take SlV c (ga nns (r + 1)); have e2 := @List.length_drop SlV (c + 1) (ga nns (r + 1)); show (_ + _) * 24 ≤ _; omega) ?_)
       intro vr4 w5 S8; clear S7
       change SH _ _ _ [Rs.row (cdV 22) vr4 (((ga nns (r + 1)).take c) ++ ((ga nns (r + 1)).drop (c + 1))), _] at S8
       have hd4 := hd2.app hd3
       refine wla 9 10 rfl rfl rfl rfl rfl rfl rfl ?_
       refine wl_end rfl ?_
       refine nm_sub [(0, _), (3, _), (4, _), (5, _), (6, _), (7, _), (8, _)] ⟨rfl, rfl, rfl, rfl, rfl, rfl, rfl, trivial⟩ ?_
       refine nm_thn ?_
       refine ws_region rfl ?_
       refine wlm 0 1 rfl rfl rfl rfl rfl rfl rfl ?_
       refine wlm 1 2 rfl rfl rfl rfl rfl rfl rfl ?_
       obtain ⟨M4, hle4, S9, ⟨A3, c3, e1, hr8⟩⟩ := S8.pubrow (i := 0) (H' := [_, _]) rfl rfl (by have e1 := @List.length_take SlV c (ga nns (r + 1)); have e2 := @List.length_drop SlV (c + 1) (ga nns (r + 1)); show _ * 24 ≤ _; simp only [List.length_append]; first | omega | (simp only [lens]; omega))
       clear S8; subst e1
       replace hnn := hnn.mono hle4
       replace hdnn := hdnn.mono hle4
       replace h3nn := h3nn.mono hle4
       replace hacc := hacc.mono hle4
       replace hr2 := hr2.mono hle4
       replace hW1 := hW1.mono hle4
       replace hr3 := hr3.mono hle4
       replace hl2 := hl2.mono hle4
       replace hl3 := hl3.mono hle4
       replace hr4 := hr4.mono hle4
       replace hW2 := hW2.mono hle4
       replace hr5 := hr5.mono hle4
       replace hd1 := hd1.mono hle4
       replace hd2 := hd2.mono hle4
       replace hr6 := hr6.mono hle4
       replace hW3 := hW3.mono hle4
       replace hr7 := hr7.mono hle4
       replace hd3 := hd3.mono hle4
       replace hd4 := hd4.mono hle4
       refine wlo 2 3 rfl rfl rfl (wo_buildSlice1 (C := (cdV 43)) (l := [_]) rfl rfl rfl rfl sl37 rfl rfl rfl rfl S9 ?_)
       intro gb2 w6 S10; clear S9
       refine wlo 3 4 rfl rfl rfl (wo_append1 (C := (cdV 43)) (i := 2) (q := 0) (⟨A3, (((ga nns (r + 1)).take c) ++ ((ga nns (r + 1)).drop (c + 1))).length, c3⟩ : SlV) rfl rfl rfl rfl rfl rfl rfl rfl sl37 S10 rfl rfl rfl (by show (_ + 1) * 24 ≤ _; omega) ?_)
       intro vrl1 w7 S11; clear S10
       have S12 := S11.pick [1, 2] [_, _] (by decide) ⟨rfl, rfl, trivial⟩; clear S11
       have hd5 := hl2.snoc (c := c3) hr8
       have hd6 := hl3.snoc hd4
       refine wla 4 5 rfl rfl rfl rfl rfl rfl rfl ?_
       refine wl_end rfl ?_
       refine nm_blk ?_
       refine nm_sub [(0, _), (3, _), (4, _), (5, _), (6, _), (7, _)] ⟨rfl, rfl, rfl, rfl, rfl, rfl, trivial⟩ ?_
       refine nm_thn ?_
       refine ws_region rfl ?_
       refine wlm 0 1 rfl rfl rfl rfl rfl rfl rfl ?_
       refine wlo 1 2 rfl rfl rfl (wo_run rfl rfl (run_add rfl rfl rfl (by first | omega | (simp only [lens]; omega))) ?_)
       refine wla 2 3 rfl rfl rfl rfl rfl rfl rfl ?_
       refine wl_end rfl ?_
       refine nm_lp ?_
       intro ax_ hax_
       refine ⟨_, ?hq3m, ⟨r + 1, _, (ls ++ [((ga nns (r + 1)).take c) ++ ((ga nns (r + 1)).drop (c + 1))]), (lm ++ [((ga nn (r + 1)).take c) ++ ((ga nn (r + 1)).drop (c + 1))]), _, _, (hle3.trans hle4), rfl, hax_.sub ⟨rfl, rfl, rfl, rfl, rfl, rfl, trivial⟩, S12.pick [1] [_] (by decide) ⟨rfl, trivial⟩, ?hq3f0, ?hq3f1, ?hq3f2, ?hq3f3⟩⟩
       case hq3f0 => omega
       case hq3f1 => (rw [take_ga _ r (by rw [List.length_drop]; omega), List.map_append, ← hlm]; show _ = lm ++ [(ga (nn.drop 1) r).eraseIdx c]; rw [ga_drop, Nat.add_comm 1 r, List.eraseIdx_eq_take_drop_succ])
       case hq3f2 => exact hd5
       case hq3f3 => exact hd6
       case hq3m => omega
      ·have hb31 := of_decide_eq_false hb31
       refine ws_exit rfl rfl ?_
       refine nm_sub [(0, _), (3, _), (4, _), (5, _), (6, _)] ⟨rfl, rfl, rfl, rfl, rfl, trivial⟩ ?_
       refine nm_thn ?_
       obtain ⟨M5, hle5, S13, ⟨A4, c4, e2, hr9⟩⟩ := S5.pubrow (i := 0) (H' := [_]) rfl rfl (by show _ * 24 ≤ _; first | omega | (simp only [lens]; omega))
       clear S5; subst e2
       replace hnn := hnn.mono hle5
       replace hdnn := hdnn.mono hle5
       replace h3nn := h3nn.mono hle5
       replace hacc := hacc.mono hle5
       replace hr2 := hr2.mono hle5
       replace hW1 := hW1.mono hle5
       replace hr3 := hr3.mono hle5
       replace hl2 := hl2.mono hle5
       replace hl3 := hl3.mono hle5
       have hqm := hsq.1
       refine ws_draw rfl (by kernel_rfl) S13 13 rfl ?_
       clear S13
       refine wa_takeP (i := 0) (d := 55) 12 rfl (by kernel_rfl) (by kernel_rfl) (by kernel_rfl) rfl rfl rfl (fun w8 => run_move rfl rfl) ?_
       refine wa_takeP (i := 1) (d := 56) 11 rfl (by kernel_rfl) (by kernel_rfl) (by kernel_rfl) rfl rfl rfl (fun w9 => run_move rfl rfl) ?_
       refine wa_take (i := 2) (d := 57) 10 rfl (by kernel_rfl) (by kernel_rfl) (by kernel_rfl) rfl rfl rfl (fun M8 N3 w10 hle8 S16 => .inl (run_indexM (C := (cdV 43)) 0 rfl rfl rfl sl37 (by first | rfl | omega) (hnn.mono hle8) (by first | omega | (simp only [lens]; omega)))) ?_
       obtain ⟨hn5, hr10⟩ := hdnn.2 0 (by first | omega | (simp only [lens]; omega))
       have rmhr10 : (ga nns 0).length * 24 ≤ 140737488355328 := hr10.room
       have hW4 := h3nn.2 0 (by have := h3nn.1; have := hdnn.1; first | omega | (simp_all; omega))
       have hW4l := hW4.1
       refine wa_take (i := 3) (d := 58) 9 rfl (by kernel_rfl) (by kernel_rfl) (by kernel_rfl) rfl rfl rfl (fun M9 N4 w11 hle9 S17 => .inl (run_load1 rfl rfl Try.underlying43 rfl ((hnn.mono hle9).cell S17.m (i := 0) (by first | omega | (simp only [lens]; omega)) 0 rfl (congrArg (fun n => some (Value.slice _ n _)) hn5)))) ?_
       refine wa_takeP (i := 4) (d := 59) 8 rfl (by kernel_rfl) (by kernel_rfl) (by kernel_rfl) rfl rfl rfl (fun w12 => run_move rfl rfl) ?_
       refine wa_take (i := 5) (d := 60) 7 rfl (by kernel_rfl) (by kernel_rfl) (by kernel_rfl) rfl rfl rfl (fun M11 N6 w13 hle11 S19 => .inl (run_indexM (C := (cdV 22)) c rfl rfl rfl sl43 (by first | rfl | omega) (hr10.mono hle11) (by first | omega | (simp only [lens]; omega)))) ?_
       obtain ⟨hn6, hr11⟩ := hW4.2 c (by first | omega | (simp only [lens]; omega))
       have rmhr11 : (ga (ga nn 0) c).length * 16 ≤ 140737488355328 := hr11.room
       refine wa_take (i := 6) (d := 61) 6 rfl (by kernel_rfl) (by kernel_rfl) (by kernel_rfl) rfl rfl rfl (fun M12 N7 w14 hle12 S20 => .inl (run_load1 rfl rfl Try.underlying22 rfl ((hr10.mono hle12).cell S20.m (i := c) (by first | omega | (simp only [lens]; omega)) 0 rfl (congrArg (fun n => some (Value.slice _ n _)) hn6)))) ?_
       refine wa_takeP (i := 7) (d := 62) 5 rfl (by kernel_rfl) (by kernel_rfl) (by kernel_rfl) rfl rfl rfl (fun w15 => run_move rfl rfl) ?_
       refine wa_takeP (i := 10) (d := 65) 4 rfl (by kernel_rfl) (by kernel_rfl) (by kernel_rfl) rfl rfl rfl (fun w17 => run_move rfl rfl) ?_
       refine wa_only (i := 8) 3 rfl (by kernel_rfl) rfl rfl (fun w19 S25 => ?_)
       refine (wo_ct rfl rfl rfl rfl rfl rfl rfl cf32 S25 (ih q (by omega) _ _ _ lm _ _ _ _ hr9 hl2 hl3 (by rw [hlm, show r = q by omega, show (nn.drop 1).take q = nn.drop 1 by rw [← show (nn.drop 1).length = q by rw [List.length_drop]; omega, List.take_length]]; exact hsq.less (by omega)) S25.lend) ?_)
       intro vw20 w20 M17 hle17 S26 hRw20; clear S25
       replace hnn := hnn.mono hle17
       replace hdnn := hdnn.mono hle17
       replace h3nn := h3nn.mono hle17
       replace hacc := hacc.mono hle17
       replace hr2 := hr2.mono hle17
       replace hW1 := hW1.mono hle17
       replace hr3 := hr3.mono hle17
       replace hl2 := hl2.mono hle17
       replace hl3 := hl3.mono hle17
       replace hr9 := hr9.mono hle17
       replace hr10 := hr10.mono hle17
       replace hW4 := hW4.mono hle17
       replace hr11 := hr11.mono hle17
       obtain ⟨A5, c5, l1, rfl, hr12, hcan1, hbd1, hmk1⟩ := hRw20
       refine LeftW.grow [] (hle17) S26 ?_; clear S26
       change WA _ _ _ _ _ _ _ _ _ _ _ _ [_]
       refine wa_base ?_
       refine wa_only (i := 9) 2 rfl (by kernel_rfl) rfl rfl (fun w22 S28 => ?_)
       refine (wo_ct rfl rfl rfl rfl rfl rfl rfl cf19 S28 (Product_t (ga (ga nn 0) c) l1 hr11 hr12 (B) ((q * B)) ((hbd 0 (by omega) c (by omega))) (hbd1) ((by omega)) S28.lend) ?_)
       intro vw23 w23 M19 hle19 S29 hRw23; clear S28
       replace hnn := hnn.mono hle19
       replace hdnn := hdnn.mono hle19
       replace h3nn := h3nn.mono hle19
       replace hacc := hacc.mono hle19
       replace hr2 := hr2.mono hle19
       replace hW1 := hW1.mono hle19
       replace hr3 := hr3.mono hle19
       replace hl2 := hl2.mono hle19
       replace hl3 := hl3.mono hle19
       replace hr9 := hr9.mono hle19
       replace hr10 := hr10.mono hle19
       replace hW4 := hW4.mono hle19
       replace hr11 := hr11.mono hle19
       replace hr12 := hr12.mono hle19
       obtain ⟨A6, c6, l2, rfl, hr13, hcan2, hbd2, hmk2⟩ := hRw23
       refine LeftW.grow [] (hle19) S29 ?_; clear S29
       change WA _ _ _ _ _ _ _ _ _ _ _ _ [_]
       refine wa_base ?_
       refine wa_only (i := 11) 1 rfl (by kernel_rfl) rfl rfl (fun w25 S31 => ?_)
       refine (wo_ct rfl rfl rfl rfl rfl rfl rfl cf18 S31 (Sum_t acc l2 (sgI c) hacc hr13 (((q + 1) * B)) (hcc) (hbc) ((hbd2.mono (by omega))) ((by omega)) S31.lend) ?_)
       intro vw26 w26 M21 hle21 S32 hRw26; clear S31
       replace hnn := hnn.mono hle21
       replace hdnn := hdnn.mono hle21
       replace h3nn := h3nn.mono hle21
       replace hacc := hacc.mono hle21
       replace hr2 := hr2.mono hle21
       replace hW1 := hW1.mono hle21
       replace hr3 := hr3.mono hle21
       replace hl2 := hl2.mono hle21
       replace hl3 := hl3.mono hle21
       replace hr9 := hr9.mono hle21
       replace hr10 := hr10.mono hle21
       replace hW4 := hW4.mono hle21
       replace hr11 := hr11.mono hle21
       replace hr12 := hr12.mono hle21
       replace hr13 := hr13.mono hle21
       obtain ⟨A7, c7, l3, rfl, hr14, hcan3, hbd3, hmk3⟩ := hRw26
       refine LeftW.grow [] (hle21) S32 ?_; clear S32
       change WA _ _ _ _ _ _ _ _ _ _ _ _ [_]
       refine wa_base ?_
       refine wa_takeP (i := 12) (d := 3) 0 rfl (by kernel_rfl) (by kernel_rfl) (by kernel_rfl) rfl rfl rfl (fun w27 => run_assign rfl rfl) ?_
       refine wa_end (by kernel_rfl) (fun w28 S34 => ?_)
       refine nm_sub [(0, _), (3, _), (4, _), (5, _)] ⟨rfl, rfl, rfl, rfl, trivial⟩ ?_
       refine nm_thn ?_
       refine ws_region rfl ?_
       refine wlm 0 1 rfl rfl rfl rfl rfl rfl rfl ?_
       refine wlo 1 2 rfl rfl rfl (wo_run rfl rfl (run_neg rfl rfl (by omega)) ?_)
       refine wla 2 3 rfl rfl rfl rfl rfl rfl rfl ?_
       refine wl_end rfl ?_
       refine nm_blk ?_
       refine nm_sub [(0, _), (3, _), (4, _), (5, _)] ⟨rfl, rfl, rfl, rfl, trivial⟩ ?_
       refine nm_thn ?_
       refine ws_eq 4 (.int .i64 (sgI (c + 1))) rfl (int_eq (sgI_succ c).symm) ?_
       refine ws_region rfl ?_
       refine wlm 0 1 rfl rfl rfl rfl rfl rfl rfl ?_
       refine wlo 1 2 rfl rfl rfl (wo_run rfl rfl (run_add rfl rfl rfl (by first | omega | (simp only [lens]; omega))) ?_)
       refine wla 2 3 rfl rfl rfl rfl rfl rfl rfl ?_
       refine wl_end rfl ?_
       refine nm_lp ?_
       intro ax_ hax_
       refine ⟨_, ?hq4m, ⟨c + 1, l3, A7, c7, _, (((((hle2.trans hle3).trans hle5).trans hle17).trans hle19).trans hle21), rfl, hax_.sub ⟨rfl, rfl, rfl, rfl, trivial⟩, S34.pick [] [] (by decide) trivial, ?hq4f0, ?hq4f1, ?hq4f2, ?hq4f3, ?hq4f4⟩⟩
       case hq4f0 => exact hr14
       case hq4f1 => omega
       case hq4f2 => exact hcan3
       case hq4f3 => exact hbd3
       case hq4f4 => (rw [hmk3, hmc, sg_sgI, sm, mkM_at (by omega) (by omega), hmk2, hmk1, hlm, show r = q by omega, show (nn.drop 1).take q = nn.drop 1 by rw [← show (nn.drop 1).length = q by rw [List.length_drop]; omega, List.take_length], mkM_less])
       case hq4m => omega
    ·have hb27 := of_decide_eq_false hb27
     refine ws_skip rfl ?_
     refine nm_sub [(0, _), (3, _), (4, _), (5, _)] ⟨rfl, rfl, rfl, rfl, trivial⟩ ?_
     refine nm_thn ?_
     refine ws_region rfl ?_
     refine wlm 0 1 rfl rfl rfl rfl rfl rfl rfl ?_
     refine wlo 1 2 rfl rfl rfl (wo_run rfl rfl (run_neg rfl rfl (by omega)) ?_)
     refine wla 2 3 rfl rfl rfl rfl rfl rfl rfl ?_
     refine wl_end rfl ?_
     refine nm_blk ?_
     refine nm_sub [(0, _), (3, _), (4, _), (5, _)] ⟨rfl, rfl, rfl, rfl, trivial⟩ ?_
     refine nm_thn ?_
     refine ws_eq 4 (.int .i64 (sgI (c + 1))) rfl (int_eq (sgI_succ c).symm) ?_
     refine ws_region rfl ?_
     refine wlm 0 1 rfl rfl rfl rfl rfl rfl rfl ?_
     refine wlo 1 2 rfl rfl rfl (wo_run rfl rfl (run_add rfl rfl rfl (by first | omega | (simp only [lens]; omega))) ?_)
     refine wla 2 3 rfl rfl rfl rfl rfl rfl rfl ?_
     refine wl_end rfl ?_
     refine nm_lp ?_
     intro ax_ hax_
     refine ⟨_, ?hq5m, ⟨c + 1, acc, Ao, co, _, (hle2), rfl, hax_.sub ⟨rfl, rfl, rfl, rfl, trivial⟩, S3.pick [] [] (by decide) trivial, ?hq5f0, ?hq5f1, ?hq5f2, ?hq5f3, ?hq5f4⟩⟩
     case hq5f0 => exact hacc
     case hq5f1 => omega
     case hq5f2 => exact hcc
     case hq5f3 => exact hbc
     case hq5f4 => (rw [sm, ← hmc, mkM_at (by omega) (by omega), List.eq_nil_of_length_eq_zero (show (ga (ga nn 0) c).length = 0 by omega)]; show _ = _ + sg c (Pol.o * _); rw [Pol.zero_mul, sg_o, Pol.add_zero])
     case hq5m => omega
   ·have hb17 := of_decide_eq_false hb17
    refine ws_exit rfl rfl ?_
    refine nm_sub [(3, _)] ⟨rfl, trivial⟩ ?_
    refine nm_thn ?_
    refine ws_seqN RDet_n59 RDet_n60 rfl rfl rfl ?_
    refine ws_region rfl ?_
    refine wlm 0 1 rfl rfl rfl rfl rfl rfl rfl ?_
    refine wla 1 2 rfl rfl rfl rfl rfl rfl rfl ?_
    refine wl_end rfl ?_
    refine nm_sub [(2, _)] ⟨rfl, trivial⟩ ?_
    refine nm_thn ?_
    refine ws_ret hC [_] rfl rfl ⟨rfl, trivial⟩ ?_
    refine ⟨_, rfl, _, hle2, (S3.pick [] [] (by decide) trivial), ?_⟩
    obtain rfl : c = q + 1 := by omega
    exact ⟨_, _, _, rfl, hacc, hcc, hbc, hmc⟩
end Go.Proofs.Ytkcighnochjlgaa
namespace Go.Proofs.Ytkcighnochjlgaa
open Go.ChangeShapes Go.WideShapes Go.ChangeAt Go.RowKit
theorem RDet_t : ∀ (n : Nat) (B : Nat) (_ : n ≤ 10) (_ : 10 * B ≤ 1099511627776) (w : World) (M : Hp) (X : Fr) (nn : List (List (List Tm))) (A : Option Addr) (c : Nat) (v : List SlV) (s : List (List SlV)), RdA (cdV 43) M A c v → Rd2 (cdV 22) M v s → RdD cdTm M s nn → SqT nn n B → SH w M X [] → Ct Try.prog 32 [.slice A v.length c] w M X (PT (n * B) (dT n (mkM nn))) := by
 intro n
 induction n using Nat.strongRecOn with
 | _ n ih =>
  intro B hn hB w M X nn A c v s h1 h2 h3 h4 S
  exact RDet_step nn h1 h2 h3 n B (fun n' hlt w M X nn A c v s h1 h2 h3 h4 S => ih n' hlt B (by omega) hB w M X nn A c v s h1 h2 h3 h4 S) h4 hn hB S
def mmP (nn : List (List (List Tm))) (i k : Nat) : Pol := mk (pr (ga (ga nn i) k))
theorem dT_mkM {nn : List (List (List Tm))} {n B : Nat} (h : SqT nn n B) : dT n (mkM nn) = detP (mmP nn) n := by
 obtain ⟨h1, h2, _⟩ := h
 rw [← dT_detP]
 refine congrArg _ (ga_ext (by simp [mkM, h1]) fun i hi => ?_)
 have hi' : i < n := by simpa [mkM, h1] using hi
 unfold mkM
 rw [ga_map _ _ _ (by omega), ga_map _ _ _ (by simpa using hi')]
 have e : ga (List.range n) i = i := by rw [ga_eq (by simpa using hi')]; simp
 rw [e]
 refine ga_ext (by simp [h2 i hi']) fun k hk => ?_
 have hk' : k < n := by simpa [h2 i hi'] using hk
 rw [ga_map _ _ _ (by rw [h2 i hi']; exact hk'), ga_map _ _ _ (by simpa using hk')]
 have e : ga (List.range n) k = k := by rw [ga_eq (by simpa using hk')]; simp
 rw [e]; rfl
end Go.Proofs.Ytkcighnochjlgaa
namespace Go.Proofs.Ytkcighnochjlgaa
open Go.ChangeShapes Go.WideShapes Go.ChangeAt Go.RowKit
def Rok (L : List (List Tm)) : Prop := ∀ k, k < L.length → Can (ga L k) ∧ Bd (ga L k) 1
theorem rok_rep (m : Nat) : Rok (List.replicate m []) := fun k hk => by
 rw [List.length_replicate] at hk
 rw [ga_rep _ _ _ hk]
 exact ⟨Can.nil_, fun t ht => by cases ht⟩
theorem rok_put {L : List (List Tm)} (h : Rok L) (k : Nat) {e c : Int} (he : 0 ≤ e ∧ e ≤ 1) (hc : -1 ≤ c ∧ c ≤ 1) : Rok (putA L k e c) := fun j hj => by
 rw [putA_len] at hj
 unfold putA
 by_cases hk : k < L.length
 ·rw [ga_set _ _ _ _ hk]
  split
  ·exact ⟨put_can (h k hk).1 (wr_id (by omega)) (wr_id (by omega)), put_bd (h k hk).2 (by omega)⟩
  ·exact h j hj
 ·rw [List.set_eq_of_length_le (by omega)]
  exact h j hj
theorem rok1 (d : Dg) (i : Nat) : Rok (row1 d i) := rok_put (rok_rep _) _ (by omega) (by omega)
theorem rok2 (d : Dg) (i : Nat) : Rok (row2 d i) := rok_put (rok1 d i) _ (by omega) (by omega)
theorem rokL (d : Dg) (i : Nat) : Rok (rowL d i) := rok_put (rok_put (rok2 d i) _ (by omega) (by omega)) _ (by omega) (by omega)
theorem rok_len {L : List (List Tm)} (h : Rok L) {k : Nat} (hk : k < L.length) : (ga L k).length ≤ 3 := can_len (h k hk).1 (h k hk).2
theorem tblA_len (d : Dg) : (tblA d).length = d.crs.length := by simp [tblA]
theorem tblA_ga (d : Dg) {i : Nat} (h : i < d.crs.length) : ga (tblA d) i = rowL d i := by
 unfold tblA
 rw [ga_map _ _ _ (by rw [List.length_range]; exact h), ga_eq (by rw [List.length_range]; exact h), List.getElem_range]
theorem kO_tail {d : Dg} (h : arcsB d = true) {a : Int} (ha : 1 ≤ a ∧ a ≤ 2 * (d.crs.length : Int)) : 0 ≤ a - 1 ∧ (a - 1).toNat < (ovTail d).length ∧ ga (ovTail d) (a - 1).toNat = (kO d a : Int) := by
 have h1 := ov_lt h (a := a.toNat) (by omega) (by omega)
 have hl : (ovTail d).length = 2 * d.crs.length := by simp [ovTail]
 refine ⟨by omega, by omega, ?_⟩
 rw [ga_eq (by omega)]
 simp only [ovTail, List.getElem_map, List.getElem_range]
 rw [show (a - 1).toNat + 1 = a.toNat by omega]
 unfold kO
 omega
theorem ovTail_bd {d : Dg} (h : arcsB d = true) (hn : d.crs.length ≤ 16) : ∀ i, i < (ovTail d).length → 0 ≤ ga (ovTail d) i ∧ ga (ovTail d) i ≤ 100 := fun i hi => by
 have hl : (ovTail d).length = 2 * d.crs.length := by simp [ovTail]
 have h1 := ov_lt h (a := i + 1) (by omega) (by omega)
 have h2 := rk_bd d (2 * d.crs.length + 1)
 rw [ga_eq hi]
 simp only [ovTail, List.getElem_map, List.getElem_range]
 omega
noncomputable def TableOf_n0 : Code := Try.f36.body.getD .skip
noncomputable def TableOf_n1 : Code := cL TableOf_n0
noncomputable def TableOf_n2 : Code := cR TableOf_n0
noncomputable def TableOf_n3 : Code := cL TableOf_n2
noncomputable def TableOf_n4 : Code := cR TableOf_n2
noncomputable def TableOf_n5 : Code := cL TableOf_n4
noncomputable def TableOf_n6 : Code := cR TableOf_n4
noncomputable def TableOf_n7 : Code := cL TableOf_n6
noncomputable def TableOf_n8 : Code := cR TableOf_n6
noncomputable def TableOf_n9 : Code := cL TableOf_n8
noncomputable def TableOf_n10 : Code := cR TableOf_n8
noncomputable def TableOf_n11 : Code := cL TableOf_n9
noncomputable def TableOf_n12 : Code := cR TableOf_n9
noncomputable def TableOf_n13 : Code := cL TableOf_n12
noncomputable def TableOf_n14 : Code := cL TableOf_n13
noncomputable def TableOf_n15 : Code := cL TableOf_n14
noncomputable def TableOf_n16 : Code := cR TableOf_n14
noncomputable def TableOf_n17 : Code := cL TableOf_n15
noncomputable def TableOf_n18 : Code := cR TableOf_n15
noncomputable def TableOf_n19 : Code := cL TableOf_n18
noncomputable def TableOf_n20 : Code := cR TableOf_n18
noncomputable def TableOf_n21 : Code := cL TableOf_n16
noncomputable def TableOf_n22 : Code := cR TableOf_n16
noncomputable def TableOf_n23 : Code := cL TableOf_n21
noncomputable def TableOf_n24 : Code := cL TableOf_n23
noncomputable def TableOf_n25 : Code := cR TableOf_n23
noncomputable def TableOf_n26 : Code := cL TableOf_n25
noncomputable def TableOf_n27 : Code := cR TableOf_n25
noncomputable def TableOf_n28 : Code := cL TableOf_n27
noncomputable def TableOf_n29 : Code := cR TableOf_n27
noncomputable def TableOf_n30 : Code := cL TableOf_n29
noncomputable def TableOf_n31 : Code := cR TableOf_n29
noncomputable def TableOf_n32 : Code := cL TableOf_n30
noncomputable def TableOf_n33 : Code := cR TableOf_n30
noncomputable def TableOf_n34 : Code := cL TableOf_n33
noncomputable def TableOf_n35 : Code := cR TableOf_n33
noncomputable def TableOf_n36 : Code := cL TableOf_n31
noncomputable def TableOf_n37 : Code := cR TableOf_n31
noncomputable def TableOf_n38 : Code := cL TableOf_n37
noncomputable def TableOf_n39 : Code := cR TableOf_n37
noncomputable def TableOf_n40 : Code := cL TableOf_n39
noncomputable def TableOf_n41 : Code := cR TableOf_n39
noncomputable def TableOf_n42 : Code := cL TableOf_n41
noncomputable def TableOf_n43 : Code := cR TableOf_n41
noncomputable def TableOf_n44 : Code := cL TableOf_n10
noncomputable def TableOf_n45 : Code := cR TableOf_n10
set_option maxHeartbeats 1000000 in
set_option maxRecDepth 10000 in
theorem TableOf_t {w : World} {M : Hp} {X : Fr} (d : Dg) {dcrsA : Option Addr} {dcrsc : Nat} (hdcrs : RdA cdCr (M.un X.h) dcrsA dcrsc d.crs) (hn : d.crs.length ≤ 16) (hab : arcsB d = true) (S : SH w M X []) : Ct Try.prog 36 [.agg [.slice dcrsA d.crs.length dcrsc, .int .i64 d.loops].toArray] w M X (fun u N => ∃ A c vs ss, u = .slice A vs.length c ∧ RdA (cdV 43) N A c vs ∧ Rd2 (cdV 22) N vs ss ∧ RdD cdTm N ss (tblA d)) := by
 unfold Ct
 have rmhdcrs : d.crs.length * 40 ≤ 140737488355328 := hdcrs.room
 refine calls_in (b := TableOf_n0) Try.func36 rfl Try.ntmps36 rfl (fun C hC => ?_)
 refine ws_sub [(0, _)] ⟨rfl, trivial⟩ ?_
 refine ws_seqN TableOf_n1 TableOf_n2 rfl rfl rfl ?_
 refine ws_region rfl ?_
 refine wlo 0 1 rfl rfl rfl (wo_box (l := [_, _]) rfl rfl rfl rfl rfl S ?_)
 intro gb1 w1 S1; clear S
 refine wla 1 2 rfl rfl rfl rfl rfl rfl rfl ?_
 refine wl_end rfl ?_
 refine nm_sub [(1, _)] ⟨rfl, trivial⟩ ?_
 refine nm_thn ?_
 refine ws_seqN TableOf_n3 TableOf_n4 rfl rfl rfl ?_
 refine ws_region rfl ?_
 refine wlo 0 1 rfl rfl rfl (wo_run rfl rfl (run_loadN (us := [_, _]) rfl rfl Try.underlying51 rfl sz51 (S1.boxcs (i := 0) rfl ⟨rfl, rfl, trivial⟩)) ?_)
 refine wlo 1 2 rfl rfl rfl (wo_ct rfl rfl rfl rfl rfl rfl rfl cf79 S1 (OversOf_t d (hdcrs.mono S1.un_XH) (hn) (hab) S1.lend) ?_)
 intro vw2 w2 M1 hle1 S2 hRw2; clear S1
 replace hdcrs := hdcrs.mono (Hp.un_mono hle1 S2.mx)
 obtain ⟨A1, c1, rfl, hr1⟩ := hRw2
 have hovl : (ovTail d).length = 2 * d.crs.length := by simp [ovTail]
 refine wla 2 3 rfl rfl rfl rfl rfl rfl rfl ?_
 refine wl_end rfl ?_
 refine nm_sub [(1, _), (3, _)] ⟨rfl, rfl, trivial⟩ ?_
 refine nm_thn ?_
 refine ws_seqN TableOf_n5 TableOf_n6 rfl rfl rfl ?_
 refine ws_region rfl ?_
 refine wlm 0 1 rfl rfl rfl rfl rfl rfl rfl ?_
 refine wlo 1 2 rfl rfl rfl (wo_cq rfl rfl rfl rfl rfl rfl rfl cf80 S2 (mostOf_q (ovTail d) (hr1.mono (Hp.le_un _ _)) ((ovTail_bd hab hn)) S2.lend) ?_)
 rintro _ w3 S3 rfl; clear S2
 refine wla 2 3 rfl rfl rfl rfl rfl rfl rfl ?_
 refine wl_end rfl ?_
 refine nm_sub [(1, _), (3, _), (4, _)] ⟨rfl, rfl, rfl, trivial⟩ ?_
 refine nm_thn ?_
 refine ws_seqN TableOf_n7 TableOf_n8 rfl rfl rfl ?_
 have hmb := rk_bd d (2 * d.crs.length + 1)
 have hmn : mostN (ovTail d) (ovTail d).length = (mny d : Int) := by rw [hovl, most_ov hab _ (Nat.le_refl _)]; unfold mny; omega
 have hmn2 : mny d ≤ 33 := by unfold mny; omega
 refine ws_eq 4 (.int .i64 (mny d : Int)) rfl (int_eq hmn) ?_
 refine ws_region rfl ?_
 refine wla 0 1 rfl rfl rfl rfl rfl rfl rfl ?_
 refine wl_end rfl ?_
 refine nm_sub [(1, _), (3, _), (4, _), (5, _)] ⟨rfl, rfl, rfl, rfl, trivial⟩ ?_
 refine nm_thn ?_
 refine ws_seqN TableOf_n9 TableOf_n10 rfl rfl rfl ?_
 refine ws_seqN TableOf_n11 TableOf_n12 rfl rfl rfl ?_
 refine ws_region rfl ?_
 refine wla 0 1 rfl rfl rfl rfl rfl rfl rfl ?_
 refine wl_end rfl ?_
 refine nm_thn ?_
 refine ws_blockN TableOf_n13 0 rfl rfl rfl ?_
 have S4 := S3.nilrow (cdV 43); clear S3
 refine ws_loopE (fun mx_ ax_ wx_ => ∃ (i : Nat) (tv : List SlV) (tss : List (List SlV)) (tm : List (List (List Tm))) (vrt : Value) (M2 : Hp), M1.le M2 ∧ mx_ = d.crs.length - i ∧ Env 83 [(1, .pointer (some ⟨gb1, 0, none⟩)), (3, .slice A1 (ovTail d).length c1), (4, .int .i64 (mny d : Int)), (5, vrt), (6, .int .i64 (i : Int))] ax_ ∧ SH wx_ M2 X [Rs.row (cdV 43) vrt tv, Rs.box gb1 51 [.slice dcrsA d.crs.length dcrsc, .int .i64 d.loops]] ∧ i ≤ d.crs.length ∧ tm = (tblA d).take i ∧ Rd2 (cdV 22) M2 tv tss ∧ RdD cdTm M2 tss tm) rfl ?_ ?_
 ·intro ax_ hax_
  refine ⟨_, ⟨0, _, ([]), ([]), _, _, Hp.le_refl _, rfl, hax_.sub ⟨rfl, rfl, rfl, rfl, rfl, trivial⟩, S4.pick [0, 1] [_, _] (by decide) ⟨rfl, rfl, trivial⟩, ?hq1f0, ?hq1f1, ?hq1f2, ?hq1f3⟩⟩
  case hq1f0 => omega
  case hq1f1 => rfl
  case hq1f2 => exact Rd2.nil_
  case hq1f3 => exact RdD.nil_
 ·rintro m1 a1 w4 ⟨i, tv, tss, tm, vrt, M2, hle2, rfl, he1, S5, hi, htm, ht2, ht3⟩
  clear S4
  refine ws_in he1 (c := TableOf_n14) rfl ?_
  clear he1 a1
  replace hdcrs := hdcrs.mono (Hp.un_mono hle2 S5.mx)
  replace hr1 := hr1.mono hle2
  have ht21 := ht2.1
  have ht31 := ht3.1
  have htl : tm.length = i := by rw [htm, List.length_take, tblA_len]; omega
  have hba := fun h => arcAt_bd hab (i := i) h (k := 0) (by omega)
  have hbb := fun h => arcAt_bd hab (i := i) h (k := 1) (by omega)
  have hbc := fun h => arcAt_bd hab (i := i) h (k := 2) (by omega)
  refine ws_seqN TableOf_n15 TableOf_n16 rfl rfl rfl ?_
  refine ws_seqN TableOf_n17 TableOf_n18 rfl rfl rfl ?_
  refine ws_region rfl ?_
  refine wlm 0 1 rfl rfl rfl rfl rfl rfl rfl ?_
  refine wlo 1 2 rfl rfl rfl (wo_run rfl rfl (run_fieldAddr rfl rfl Try.underlying51 rfl (ce49) (nf49)) ?_)
  refine wlo 2 3 rfl rfl rfl (wo_run rfl rfl (run_load1 rfl rfl Try.underlying49 rfl (S5.boxc (i := 1) rfl rfl)) ?_)
  refine wlo 3 4 rfl rfl rfl (wo_run rfl rfl (run_len rfl rfl rfl rfl rfl rfl Try.underlying49) ?_)
  refine wlo 4 5 rfl rfl rfl (wo_run rfl rfl (run_lss rfl rfl rfl) ?_)
  refine wl_end rfl ?_
  refine nm_sub [(1, _), (3, _), (4, _), (5, _), (6, _), (20, _)] ⟨rfl, rfl, rfl, rfl, rfl, rfl, trivial⟩ ?_
  refine nm_thn ?_
  refine ws_condN TableOf_n19 TableOf_n20 rfl rfl rfl rfl (fun hb20 => ?_) (fun hb20 => ?_)
  ·have hb20 := of_decide_eq_true hb20
   have hl1 := row1_len d i
   have hl2 := row2_len d i
   have hl3 := rowL_len d i
   obtain ⟨ka1, ka2, ka3⟩ := kO_tail hab (hba (by omega))
   obtain ⟨kb1, kb2, kb3⟩ := kO_tail hab (hbb (by omega))
   obtain ⟨kc1, kc2, kc3⟩ := kO_tail hab (hbc (by omega))
   obtain ⟨-, -, -, -, la⟩ := kO_ok hab (hba (by omega))
   obtain ⟨-, -, -, -, lb⟩ := kO_ok hab (hbb (by omega))
   obtain ⟨-, -, -, -, lc⟩ := kO_ok hab (hbc (by omega))
   change 0 ≤ (ga d.crs i).a - 1 at ka1
   change 0 ≤ (ga d.crs i).b - 1 at kb1
   change 0 ≤ (ga d.crs i).c - 1 at kc1
   change ((ga d.crs i).a - 1).toNat < _ at ka2
   change ((ga d.crs i).b - 1).toNat < _ at kb2
   change ((ga d.crs i).c - 1).toNat < _ at kc2
   change ga (ovTail d) ((ga d.crs i).a - 1).toNat = (kO d (ga d.crs i).a : Int) at ka3
   change ga (ovTail d) ((ga d.crs i).b - 1).toNat = (kO d (ga d.crs i).b : Int) at kb3
   change ga (ovTail d) ((ga d.crs i).c - 1).toNat = (kO d (ga d.crs i).c : Int) at kc3
   change kO d (ga d.crs i).a < mny d at la
   change kO d (ga d.crs i).b < mny d at lb
   change kO d (ga d.crs i).c < mny d at lc
   refine ws_skip rfl ?_
   refine nm_sub [(1, _), (3, _), (4, _), (5, _), (6, _)] ⟨rfl, rfl, rfl, rfl, rfl, trivial⟩ ?_
   refine nm_thn ?_
   refine ws_seqN TableOf_n21 TableOf_n22 rfl rfl rfl ?_
   refine ws_blockN TableOf_n23 1 rfl rfl rfl ?_
   refine ws_seqN TableOf_n24 TableOf_n25 rfl rfl rfl ?_
   refine ws_region rfl ?_
   refine wlo 0 1 rfl rfl rfl (wo_run rfl rfl (run_fieldAddr rfl rfl Try.underlying51 rfl (ce49) (nf49)) ?_)
   refine wlo 1 2 rfl rfl rfl (wo_run rfl rfl (run_load1 rfl rfl Try.underlying49 rfl (S5.boxc (i := 1) rfl rfl)) ?_)
   refine wlm 2 3 rfl rfl rfl rfl rfl rfl rfl ?_
   refine wlo 3 4 rfl rfl rfl (wo_run rfl rfl (run_indexM (C := cdCr) i rfl rfl rfl sl49 (by first | rfl | omega) hdcrs (by first | omega | (simp only [lens]; omega))) ?_)
   refine wlo 4 5 rfl rfl rfl (wo_run rfl rfl (run_loadN (us := [_, _, _, _, _]) rfl rfl Try.underlying111 rfl sz111 (hdcrs.cellsAt S5.um (e := i) (by first | omega | (simp only [lens]; omega)) (j := 0) ⟨rfl, rfl, rfl, rfl, rfl, trivial⟩)) ?_)
   refine wlo 5 6 rfl rfl rfl (wo_alloc (l := [_, _, _, _, _]) rfl rfl rfl zr111 rfl S5 ?_)
   intro gb2 w5 S6; clear S5
   refine wlo 6 7 rfl rfl rfl (wo_storeB (i := 0) (us := [_, _, _, _, _]) (l' := [_, _, _, _, _]) (H' := [_, _, _]) rfl rfl S6 rfl rfl rfl rfl sz111 rfl rfl rfl rfl ?_)
   intro w6 S7; clear S6
   refine wl_end rfl ?_
   refine nm_sub [(1, _), (3, _), (4, _), (5, _), (6, _), (7, _)] ⟨rfl, rfl, rfl, rfl, rfl, rfl, trivial⟩ ?_
   refine nm_thn ?_
   refine ws_seqN TableOf_n26 TableOf_n27 rfl rfl rfl ?_
   refine ws_region rfl ?_
   refine wlm 0 1 rfl rfl rfl rfl rfl rfl rfl ?_
   refine wlo 1 2 rfl rfl rfl (wo_make (C := (cdV 22)) (mny d) rfl rfl rfl rfl rfl sl43 (by first | rfl | omega) (by show _ * 24 ≤ _; first | omega | (simp only [lens]; omega)) S7 ?_)
   intro vr2 w7 S8; clear S7
   have hd1 : Rd2 cdTm M2 (List.replicate (mny d) ((cdV 22)).z) (List.replicate (mny d) []) := Rd2.rep _
   refine wla 2 3 rfl rfl rfl rfl rfl rfl rfl ?_
   refine wl_end rfl ?_
   refine nm_sub [(1, _), (3, _), (4, _), (5, _), (6, _), (7, _), (8, _)] ⟨rfl, rfl, rfl, rfl, rfl, rfl, rfl, trivial⟩ ?_
   refine nm_thn ?_
   refine ws_seqN TableOf_n28 TableOf_n29 rfl rfl rfl ?_
   refine ws_draw rfl (by kernel_rfl) S8 14 rfl ?_
   clear S8
   refine wa_takeP (i := 0) (d := 30) 13 rfl (by kernel_rfl) (by kernel_rfl) (by kernel_rfl) rfl rfl rfl (fun w8 => run_move rfl rfl) ?_
   refine wa_takeP (i := 1) (d := 31) 12 rfl (by kernel_rfl) (by kernel_rfl) (by kernel_rfl) rfl rfl rfl (fun w9 => run_fieldAddr rfl rfl Try.underlying111 rfl (ce3) (nf3)) ?_
   refine wa_take (i := 2) (d := 32) 11 rfl (by kernel_rfl) (by kernel_rfl) (by kernel_rfl) rfl rfl rfl (fun M5 N3 w10 hle5 S11 => .inl (run_load1 rfl rfl Try.underlying3 rfl (S11.suf.boxc (i := 1) rfl rfl))) ?_
   refine wa_takeP (i := 3) (d := 33) 10 rfl (by kernel_rfl) (by kernel_rfl) (by kernel_rfl) rfl rfl rfl (fun w11 => run_sub rfl rfl rfl (by first | omega | (simp only [lens]; omega))) ?_
   refine wa_take (i := 4) (d := 34) 9 rfl (by kernel_rfl) (by kernel_rfl) (by kernel_rfl) rfl rfl rfl (fun M7 N5 w12 hle7 S13 => .inl (run_indexM (C := cdInt) ((((ga d.crs i).a) - 1).toNat) rfl rfl rfl sl36 (by first | rfl | omega) (hr1.mono hle7) (by first | omega | (simp only [lens]; omega)))) ?_
   refine wa_take (i := 5) (d := 35) 8 rfl (by kernel_rfl) (by kernel_rfl) (by kernel_rfl) rfl rfl rfl (fun M8 N6 w13 hle8 S14 => .inl (run_load1 rfl rfl Try.underlying3 rfl ((hr1.mono hle8).cell S14.m (i := (((ga d.crs i).a) - 1).toNat) (by first | omega | (simp only [lens]; omega)) 0 rfl rfl))) ?_
   refine wa_takeP (i := 6) (d := 36) 7 rfl (by kernel_rfl) (by kernel_rfl) (by kernel_rfl) rfl rfl rfl (fun w14 => run_move rfl rfl) ?_
   refine wa_takeP (i := 7) (d := 37) 6 rfl (by kernel_rfl) (by kernel_rfl) (by kernel_rfl) rfl rfl rfl (fun w15 => run_fieldAddr rfl rfl Try.underlying111 rfl (ce3) (nf3)) ?_
   refine wa_take (i := 8) (d := 38) 5 rfl (by kernel_rfl) (by kernel_rfl) (by kernel_rfl) rfl rfl rfl (fun M11 N9 w16 hle11 S17 => .inl (run_load1 rfl rfl Try.underlying3 rfl (S17.suf.boxc (i := 1) rfl rfl))) ?_
   refine wa_takeP (i := 9) (d := 39) 4 rfl (by kernel_rfl) (by kernel_rfl) (by kernel_rfl) rfl rfl rfl (fun w17 => run_sub rfl rfl rfl (by first | omega | (simp only [lens]; omega))) ?_
   refine wa_take (i := 10) (d := 40) 3 rfl (by kernel_rfl) (by kernel_rfl) (by kernel_rfl) rfl rfl rfl (fun M13 N11 w18 hle13 S19 => .inl (run_indexM (C := cdInt) ((((ga d.crs i).c) - 1).toNat) rfl rfl rfl sl36 (by first | rfl | omega) (hr1.mono hle13) (by first | omega | (simp only [lens]; omega)))) ?_
   refine wa_take (i := 11) (d := 41) 2 rfl (by kernel_rfl) (by kernel_rfl) (by kernel_rfl) rfl rfl rfl (fun M14 N12 w19 hle14 S20 => .inl (run_load1 rfl rfl Try.underlying3 rfl ((hr1.mono hle14).cell S20.m (i := (((ga d.crs i).c) - 1).toNat) (by first | omega | (simp only [lens]; omega)) 0 rfl rfl))) ?_
   refine wa_takeP (i := 12) (d := 9) 1 rfl (by kernel_rfl) (by kernel_rfl) (by kernel_rfl) rfl rfl rfl (fun w20 => run_assign rfl rfl) ?_
   refine wa_takeP (i := 13) (d := 10) 0 rfl (by kernel_rfl) (by kernel_rfl) (by kernel_rfl) rfl rfl rfl (fun w21 => run_assign rfl rfl) ?_
   refine wa_end (by kernel_rfl) (fun w22 S23 => ?_)
   refine nm_sub [(1, _), (3, _), (4, _), (5, _), (6, _), (7, _), (8, _), (9, _), (10, _)] ⟨rfl, rfl, rfl, rfl, rfl, rfl, rfl, rfl, rfl, trivial⟩ ?_
   refine nm_thn ?_
   refine ws_seqN TableOf_n30 TableOf_n31 rfl rfl rfl ?_
   refine ws_seqN TableOf_n32 TableOf_n33 rfl rfl rfl ?_
   refine ws_eq 9 (.int .i64 (kO d (ga d.crs i).a : Int)) rfl (int_eq ka3) ?_
   refine ws_eq 10 (.int .i64 (kO d (ga d.crs i).c : Int)) rfl (int_eq kc3) ?_
   refine ws_region rfl ?_
   refine wlo 0 1 rfl rfl rfl (wo_run rfl rfl (run_fieldAddr rfl rfl Try.underlying111 rfl (ce4) (nf4)) ?_)
   refine wlo 1 2 rfl rfl rfl (wo_run rfl rfl (run_load1 rfl rfl Try.underlying4 rfl (S23.boxc (i := 1) rfl rfl)) ?_)
   refine wlo 2 3 rfl rfl rfl (wo_run rfl rfl (run_not rfl rfl) ?_)
   refine wl_end rfl ?_
   refine nm_sub [(1, _), (3, _), (4, _), (5, _), (6, _), (7, _), (8, _), (9, _), (10, _), (44, _)] ⟨rfl, rfl, rfl, rfl, rfl, rfl, rfl, rfl, rfl, rfl, trivial⟩ ?_
   refine nm_thn ?_
   refine ws_condN TableOf_n34 TableOf_n35 rfl rfl rfl rfl (fun hb44 => ?_) (fun hb44 => ?_)
   ·simp only [Bool.and_eq_true, Bool.or_eq_true, Bool.and_eq_false_iff, Bool.or_eq_false_iff, decide_eq_true_eq, decide_eq_false_iff_not, Bool.not_eq_true', Bool.not_eq_false'] at hb44
    have hin : inA (ga d.crs i) = (ga d.crs i).c := by unfold inA; simp [*]
    have hto : toA (ga d.crs i) = (ga d.crs i).a := by unfold toA; simp [*]
    refine ws_region rfl ?_
    refine wlm 0 1 rfl rfl rfl rfl rfl rfl rfl ?_
    refine wlm 1 2 rfl rfl rfl rfl rfl rfl rfl ?_
    refine wla 2 3 rfl rfl rfl rfl rfl rfl rfl ?_
    refine wla 3 4 rfl rfl rfl rfl rfl rfl rfl ?_
    refine wl_end rfl ?_
    refine nm_sub [(1, _), (3, _), (4, _), (5, _), (6, _), (7, _), (8, _), (9, _), (10, _)] ⟨rfl, rfl, rfl, rfl, rfl, rfl, rfl, rfl, rfl, trivial⟩ ?_
    refine nm_thn ?_
    refine ws_seqN TableOf_n36 TableOf_n37 rfl rfl rfl ?_
    refine ws_region rfl ?_
    refine wlm 0 1 rfl rfl rfl rfl rfl rfl rfl ?_
    refine wlo 1 2 rfl rfl rfl (wo_run rfl rfl (run_fieldAddr rfl rfl Try.underlying111 rfl (ce3) (nf3)) ?_)
    refine wlo 2 3 rfl rfl rfl (wo_run rfl rfl (run_load1 rfl rfl Try.underlying3 rfl (S23.boxc (i := 1) rfl rfl)) ?_)
    refine wlo 3 4 rfl rfl rfl (wo_run rfl rfl (run_sub rfl rfl rfl (by first | omega | (simp only [lens]; omega))) ?_)
    refine wlo 4 5 rfl rfl rfl (wo_run rfl rfl (run_indexM (C := cdInt) ((((ga d.crs i).b) - 1).toNat) rfl rfl rfl sl36 (by first | rfl | omega) hr1 (by first | omega | (simp only [lens]; omega))) ?_)
    refine wlo 5 6 rfl rfl rfl (wo_run rfl rfl (run_load1 rfl rfl Try.underlying3 rfl (hr1.cell S23.m (i := (((ga d.crs i).b) - 1).toNat) (by first | omega | (simp only [lens]; omega)) 0 rfl rfl)) ?_)
    refine wla 6 7 rfl rfl rfl rfl rfl rfl rfl ?_
    refine wl_end rfl ?_
    refine nm_sub [(1, _), (3, _), (4, _), (5, _), (6, _), (8, _), (9, _), (10, _), (11, _)] ⟨rfl, rfl, rfl, rfl, rfl, rfl, rfl, rfl, rfl, trivial⟩ ?_
    refine nm_thn ?_
    refine ws_seqN TableOf_n38 TableOf_n39 rfl rfl rfl ?_
    refine ws_eq 11 (.int .i64 (kO d (ga d.crs i).b : Int)) rfl (int_eq kb3) ?_
    refine ws_region rfl ?_
    refine wlm 0 1 rfl rfl rfl rfl rfl rfl rfl ?_
    refine wlm 1 2 rfl rfl rfl rfl rfl rfl rfl ?_
    refine wlm 2 3 rfl rfl rfl rfl rfl rfl rfl ?_
    refine wlm 3 4 rfl rfl rfl rfl rfl rfl rfl ?_
    refine wlo 4 5 rfl rfl rfl (wo_run rfl rfl (run_indexR (C := (cdV 22)) (i := 0) (kO d (ga d.crs i).a) rfl rfl rfl sl43 S23 rfl (by first | rfl | omega) (by first | omega | (simp only [lens]; omega))) ?_)
    obtain ⟨hn1, hr2⟩ := hd1.2 (kO d (ga d.crs i).a) (by first | omega | (simp only [lens]; omega))
    refine wlo 5 6 rfl rfl rfl (wo_run rfl rfl (run_load1 rfl rfl Try.underlying22 rfl (S23.rowc (i := 0) (e := kO d (ga d.crs i).a) (j := 0) rfl (by first | omega | (simp only [lens]; omega)) rfl (congrArg (fun n => some (Value.slice _ n _)) hn1))) ?_)
    refine wlo 6 7 rfl rfl rfl (wo_ct rfl rfl rfl rfl rfl rfl rfl cf62 S23 (Put_t (ga (List.replicate (mny d) []) (kO d (ga d.crs i).a)) 0 1 hr2 ((by first | (have := rok_len (rok_rep (mny d)) (k := (kO d (ga d.crs i).a)) (by rw [List.length_replicate]; omega); omega) | (have := rok_len (rok1 d i) (k := (kO d (ga d.crs i).a)) (by rw [row1_len]; omega); omega) | (have := rok_len (rok2 d i) (k := (kO d (ga d.crs i).a)) (by rw [row2_len]; omega); omega))) S23.lend) ?_)
    intro vw23 w23 M17 hle17 S24 hRw23; clear S23
    replace hdcrs := hdcrs.mono (Hp.un_mono hle17 S24.mx)
    replace hr1 := hr1.mono hle17
    replace ht2 := ht2.mono hle17
    replace ht3 := ht3.mono hle17
    replace hd1 := hd1.mono hle17
    replace hr2 := hr2.mono hle17
    obtain ⟨A2, c2, rfl, hr3⟩ := hRw23
    refine wlo 7 8 rfl rfl rfl (wo_run rfl rfl (run_indexR (C := (cdV 22)) (i := 0) (kO d (ga d.crs i).a) rfl rfl rfl sl43 S24 rfl (by first | rfl | omega) (by first | omega | (simp only [lens]; omega))) ?_)
    refine wlo 8 9 rfl rfl rfl (wo_storeR (C := (cdV 22)) (i := 0) (e := kO d (ga d.crs i).a) (j := 0) (us := [_]) (H' := [_, _, _, _]) (⟨A2, (put (ga (List.replicate (mny d) []) (kO d (ga d.crs i).a)) 0 1).length, c2⟩ : SlV) rfl rfl S24 rfl (by first | omega | (simp only [lens]; omega)) rfl rfl rfl sz22 rfl rfl rfl rfl ?_)
    intro w24 S25; clear S24
    have hd2 := hd1.set_ hr3 (kO d (ga d.crs i).a) (by first | omega | (simp only [lens]; omega))
    refine wl_end rfl ?_
    refine nm_sub [(1, _), (3, _), (4, _), (5, _), (6, _), (8, _), (9, _), (11, _)] ⟨rfl, rfl, rfl, rfl, rfl, rfl, rfl, rfl, trivial⟩ ?_
    refine nm_thn ?_
    refine ws_seqN TableOf_n40 TableOf_n41 rfl rfl rfl ?_
    replace hd2 : Rd2 cdTm M17 ((List.replicate (mny d) (cdV 22).z).set (kO d (ga d.crs i).a) (⟨A2, (put (ga (List.replicate (mny d) []) (kO d (ga d.crs i).a)) 0 1).length, c2⟩ : SlV)) (row1 d i) := by (have e9 : row1 d i = (List.replicate (mny d) []).set (kO d (ga d.crs i).a) (put (ga (List.replicate (mny d) []) (kO d (ga d.crs i).a)) 0 1) := by (unfold row1 putA; rw [hto])); rw [e9]; exact hd2
    have hrlhd2 := hd2.1
    simp only [row1_len, row2_len, rowL_len] at hrlhd2
    refine ws_region rfl ?_
    refine wlm 0 1 rfl rfl rfl rfl rfl rfl rfl ?_
    refine wlm 1 2 rfl rfl rfl rfl rfl rfl rfl ?_
    refine wlm 2 3 rfl rfl rfl rfl rfl rfl rfl ?_
    refine wlm 3 4 rfl rfl rfl rfl rfl rfl rfl ?_
    refine wlo 4 5 rfl rfl rfl (wo_run rfl rfl (run_indexR (C := (cdV 22)) (i := 0) (kO d (ga d.crs i).c) rfl rfl rfl sl43 S25 rfl (by first | rfl | omega) (by first | omega | (simp only [lens]; omega))) ?_)
    obtain ⟨hn2, hr4⟩ := hd2.2 (kO d (ga d.crs i).c) (by first | omega | (simp only [lens]; omega))
    refine wlo 5 6 rfl rfl rfl (wo_run rfl rfl (run_load1 rfl rfl Try.underlying22 rfl (S25.rowc (i := 0) (e := kO d (ga d.crs i).c) (j := 0) rfl (by first | omega | (simp only [lens]; omega)) rfl (congrArg (fun n => some (Value.slice _ n _)) hn2))) ?_)
    refine wlo 6 7 rfl rfl rfl (wo_ct rfl rfl rfl rfl rfl rfl rfl cf62 S25 (Put_t (ga (row1 d i) (kO d (ga d.crs i).c)) 1 (-1) hr4 ((by first | (have := rok_len (rok_rep (mny d)) (k := (kO d (ga d.crs i).c)) (by rw [List.length_replicate]; omega); omega) | (have := rok_len (rok1 d i) (k := (kO d (ga d.crs i).c)) (by rw [row1_len]; omega); omega) | (have := rok_len (rok2 d i) (k := (kO d (ga d.crs i).c)) (by rw [row2_len]; omega); omega))) S25.lend) ?_)
    intro vw25 w25 M18 hle18 S26 hRw25; clear S25
    replace hdcrs := hdcrs.mono (Hp.un_mono hle18 S26.mx)
    replace hr1 := hr1.mono hle18
    replace ht2 := ht2.mono hle18
    replace ht3 := ht3.mono hle18
    replace hd1 := hd1.mono hle18
    replace hr2 := hr2.mono hle18
    replace hr3 := hr3.mono hle18
    replace hd2 := hd2.mono hle18
    replace hr4 := hr4.mono hle18
    obtain ⟨A3, c3, rfl, hr5⟩ := hRw25
    refine wlo 7 8 rfl rfl rfl (wo_run rfl rfl (run_indexR (C := (cdV 22)) (i := 0) (kO d (ga d.crs i).c) rfl rfl rfl sl43 S26 rfl (by first | rfl | omega) (by first | omega | (simp only [lens]; omega))) ?_)
    refine wlo 8 9 rfl rfl rfl (wo_storeR (C := (cdV 22)) (i := 0) (e := kO d (ga d.crs i).c) (j := 0) (us := [_]) (H' := [_, _, _, _]) (⟨A3, (put (ga (row1 d i) (kO d (ga d.crs i).c)) 1 (-1)).length, c3⟩ : SlV) rfl rfl S26 rfl (by first | omega | (simp only [lens]; omega)) rfl rfl rfl sz22 rfl rfl rfl rfl ?_)
    intro w26 S27; clear S26
    have hd3 := hd2.set_ hr5 (kO d (ga d.crs i).c) (by first | omega | (simp only [lens]; omega))
    refine wl_end rfl ?_
    refine nm_sub [(1, _), (3, _), (4, _), (5, _), (6, _), (8, _), (11, _)] ⟨rfl, rfl, rfl, rfl, rfl, rfl, rfl, trivial⟩ ?_
    refine nm_thn ?_
    refine ws_seqN TableOf_n42 TableOf_n43 rfl rfl rfl ?_
    replace hd3 : Rd2 cdTm M18 (((List.replicate (mny d) (cdV 22).z).set (kO d (ga d.crs i).a) (⟨A2, (put (ga (List.replicate (mny d) []) (kO d (ga d.crs i).a)) 0 1).length, c2⟩ : SlV)).set (kO d (ga d.crs i).c) (⟨A3, (put (ga (row1 d i) (kO d (ga d.crs i).c)) 1 (-1)).length, c3⟩ : SlV)) (row2 d i) := by (have e9 : row2 d i = (row1 d i).set (kO d (ga d.crs i).c) (put (ga (row1 d i) (kO d (ga d.crs i).c)) 1 (-1)) := by (unfold row2 putA; rw [hin])); rw [e9]; exact hd3
    have hrlhd3 := hd3.1
    simp only [row1_len, row2_len, rowL_len] at hrlhd3
    refine ws_region rfl ?_
    refine wlm 0 1 rfl rfl rfl rfl rfl rfl rfl ?_
    refine wlm 1 2 rfl rfl rfl rfl rfl rfl rfl ?_
    refine wlm 2 3 rfl rfl rfl rfl rfl rfl rfl ?_
    refine wlm 3 4 rfl rfl rfl rfl rfl rfl rfl ?_
    refine wlo 4 5 rfl rfl rfl (wo_run rfl rfl (run_indexR (C := (cdV 22)) (i := 0) (kO d (ga d.crs i).b) rfl rfl rfl sl43 S27 rfl (by first | rfl | omega) (by first | omega | (simp only [lens]; omega))) ?_)
    obtain ⟨hn3, hr6⟩ := hd3.2 (kO d (ga d.crs i).b) (by first | omega | (simp only [lens]; omega))
    refine wlo 5 6 rfl rfl rfl (wo_run rfl rfl (run_load1 rfl rfl Try.underlying22 rfl (S27.rowc (i := 0) (e := kO d (ga d.crs i).b) (j := 0) rfl (by first | omega | (simp only [lens]; omega)) rfl (congrArg (fun n => some (Value.slice _ n _)) hn3))) ?_)
    refine wlo 6 7 rfl rfl rfl (wo_ct rfl rfl rfl rfl rfl rfl rfl cf62 S27 (Put_t (ga (row2 d i) (kO d (ga d.crs i).b)) 1 1 hr6 ((by first | (have := rok_len (rok_rep (mny d)) (k := (kO d (ga d.crs i).b)) (by rw [List.length_replicate]; omega); omega) | (have := rok_len (rok1 d i) (k := (kO d (ga d.crs i).b)) (by rw [row1_len]; omega); omega) | (have := rok_len (rok2 d i) (k := (kO d (ga d.crs i).b)) (by rw [row2_len]; omega); omega))) S27.lend) ?_)
    intro vw27 w27 M19 hle19 S28 hRw27; clear S27
    replace hdcrs := hdcrs.mono (Hp.un_mono hle19 S28.mx)
    replace hr1 := hr1.mono hle19
    replace ht2 := ht2.mono hle19
    replace ht3 := ht3.mono hle19
    replace hd1 := hd1.mono hle19
    replace hr2 := hr2.mono hle19
    replace hr3 := hr3.mono hle19
    replace hd2 := hd2.mono hle19
    replace hr4 := hr4.mono hle19
    replace hr5 := hr5.mono hle19
    replace hd3 := hd3.mono hle19
    replace hr6 := hr6.mono hle19
    obtain ⟨A4, c4, rfl, hr7⟩ := hRw27
    refine wlo 7 8 rfl rfl rfl (wo_ct rfl rfl rfl rfl rfl rfl rfl cf62 S28 (Put_t (put (ga (row2 d i) (kO d (ga d.crs i).b)) 1 1) 0 (-1) hr7 ((by have h9 := rok_put (rok2 d i) (kO d (ga d.crs i).b) (e := 1) (c := 1) (by omega) (by omega) (kO d (ga d.crs i).b) (by rw [putA_len, row2_len]; omega); unfold putA at h9; rw [ga_set _ _ _ _ (by rw [row2_len]; omega), if_pos rfl] at h9; have := can_len h9.1 h9.2; omega)) S28.lend) ?_)
    intro vw28 w28 M20 hle20 S29 hRw28; clear S28
    replace hdcrs := hdcrs.mono (Hp.un_mono hle20 S29.mx)
    replace hr1 := hr1.mono hle20
    replace ht2 := ht2.mono hle20
    replace ht3 := ht3.mono hle20
    replace hd1 := hd1.mono hle20
    replace hr2 := hr2.mono hle20
    replace hr3 := hr3.mono hle20
    replace hd2 := hd2.mono hle20
    replace hr4 := hr4.mono hle20
    replace hr5 := hr5.mono hle20
    replace hd3 := hd3.mono hle20
    replace hr6 := hr6.mono hle20
    replace hr7 := hr7.mono hle20
    obtain ⟨A5, c5, rfl, hr8⟩ := hRw28
    refine wlo 8 9 rfl rfl rfl (wo_run rfl rfl (run_indexR (C := (cdV 22)) (i := 0) (kO d (ga d.crs i).b) rfl rfl rfl sl43 S29 rfl (by first | rfl | omega) (by first | omega | (simp only [lens]; omega))) ?_)
    refine wlo 9 10 rfl rfl rfl (wo_storeR (C := (cdV 22)) (i := 0) (e := kO d (ga d.crs i).b) (j := 0) (us := [_]) (H' := [_, _, _, _]) (⟨A5, (put (put (ga (row2 d i) (kO d (ga d.crs i).b)) 1 1) 0 (-1)).length, c5⟩ : SlV) rfl rfl S29 rfl (by first | omega | (simp only [lens]; omega)) rfl rfl rfl sz22 rfl rfl rfl rfl ?_)
    intro w29 S30; clear S29
    have hd4 := hd3.set_ hr8 (kO d (ga d.crs i).b) (by first | omega | (simp only [lens]; omega))
    refine wl_end rfl ?_
    refine nm_sub [(1, _), (3, _), (4, _), (5, _), (6, _), (8, _)] ⟨rfl, rfl, rfl, rfl, rfl, rfl, trivial⟩ ?_
    refine nm_thn ?_
    replace hd4 : Rd2 cdTm M20 ((((List.replicate (mny d) (cdV 22).z).set (kO d (ga d.crs i).a) (⟨A2, (put (ga (List.replicate (mny d) []) (kO d (ga d.crs i).a)) 0 1).length, c2⟩ : SlV)).set (kO d (ga d.crs i).c) (⟨A3, (put (ga (row1 d i) (kO d (ga d.crs i).c)) 1 (-1)).length, c3⟩ : SlV)).set (kO d (ga d.crs i).b) (⟨A5, (put (put (ga (row2 d i) (kO d (ga d.crs i).b)) 1 1) 0 (-1)).length, c5⟩ : SlV)) (rowL d i) := by (have e9 : rowL d i = (row2 d i).set (kO d (ga d.crs i).b) (put (put (ga (row2 d i) (kO d (ga d.crs i).b)) 1 1) 0 (-1)) := by (unfold rowL putA; rw [ga_set _ _ _ _ (by rw [row2_len]; omega), if_pos rfl, List.set_set])); rw [e9]; exact hd4
    have hrlhd4 := hd4.1
    simp only [row1_len, row2_len, rowL_len] at hrlhd4
    refine ws_region rfl ?_
    refine wlm 0 1 rfl rfl rfl rfl rfl rfl rfl ?_
    refine wlm 1 2 rfl rfl rfl rfl rfl rfl rfl ?_
    obtain ⟨M21, hle21, S31, ⟨A6, c6, e1, hr9⟩⟩ := S30.pubrow (i := 0) (H' := [_, _, _, _]) rfl rfl (by show _ * 24 ≤ _; first | omega | (simp only [lens]; omega))
    clear S30; subst e1
    replace hdcrs := hdcrs.mono (Hp.un_mono hle21 S31.mx)
    replace hr1 := hr1.mono hle21
    replace ht2 := ht2.mono hle21
    replace ht3 := ht3.mono hle21
    replace hd1 := hd1.mono hle21
    replace hr2 := hr2.mono hle21
    replace hr3 := hr3.mono hle21
    replace hd2 := hd2.mono hle21
    replace hr4 := hr4.mono hle21
    replace hr5 := hr5.mono hle21
    replace hd3 := hd3.mono hle21
    replace hr6 := hr6.mono hle21
    replace hr7 := hr7.mono hle21
    replace hr8 := hr8.mono hle21
    replace hd4 := hd4.mono hle21
    refine wlo 2 3 rfl rfl rfl (wo_buildSlice1 (C := (cdV 43)) (l := [_]) rfl rfl rfl rfl sl37 rfl rfl rfl rfl S31 ?_)
    intro gb3 w30 S32; clear S31
    refine wlo 3 4 rfl rfl rfl (wo_append1 (C := (cdV 43)) (i := 3) (q := 0) (⟨A6, ((((List.replicate (mny d) (cdV 22).z).set (kO d (ga d.crs i).a) (⟨A2, (put (ga (List.replicate (mny d) []) (kO d (ga d.crs i).a)) 0 1).length, c2⟩ : SlV)).set (kO d (ga d.crs i).c) (⟨A3, (put (ga (row1 d i) (kO d (ga d.crs i).c)) 1 (-1)).length, c3⟩ : SlV)).set (kO d (ga d.crs i).b) (⟨A5, (put (put (ga (row2 d i) (kO d (ga d.crs i).b)) 1 1) 0 (-1)).length, c5⟩ : SlV)).length, c6⟩ : SlV) rfl rfl rfl rfl rfl rfl rfl rfl sl37 S32 rfl rfl rfl (by show (_ + 1) * 24 ≤ _; first | omega | (simp only [lens]; omega)) ?_)
    intro vrt1 w31 S33; clear S32
    have S34 := S33.pick [1, 2, 3, 4] [_, _, _, _] (by decide) ⟨rfl, rfl, rfl, rfl, trivial⟩; clear S33
    have hd5 := ht2.snoc (c := c6) hr9
    have hd6 := ht3.snoc hd4
    refine wla 4 5 rfl rfl rfl rfl rfl rfl rfl ?_
    refine wl_end rfl ?_
    refine nm_blk ?_
    refine nm_sub [(1, _), (3, _), (4, _), (5, _), (6, _)] ⟨rfl, rfl, rfl, rfl, rfl, trivial⟩ ?_
    refine nm_thn ?_
    refine ws_region rfl ?_
    refine wlm 0 1 rfl rfl rfl rfl rfl rfl rfl ?_
    refine wlo 1 2 rfl rfl rfl (wo_run rfl rfl (run_add rfl rfl rfl (by first | omega | (simp only [lens]; omega))) ?_)
    refine wla 2 3 rfl rfl rfl rfl rfl rfl rfl ?_
    refine wl_end rfl ?_
    refine nm_lp ?_
    intro ax_ hax_
    refine ⟨_, ?hq2m, ⟨i + 1, _, (tss ++ [(((List.replicate (mny d) (cdV 22).z).set (kO d (ga d.crs i).a) (⟨A2, (put (ga (List.replicate (mny d) []) (kO d (ga d.crs i).a)) 0 1).length, c2⟩ : SlV)).set (kO d (ga d.crs i).c) (⟨A3, (put (ga (row1 d i) (kO d (ga d.crs i).c)) 1 (-1)).length, c3⟩ : SlV)).set (kO d (ga d.crs i).b) (⟨A5, (put (put (ga (row2 d i) (kO d (ga d.crs i).b)) 1 1) 0 (-1)).length, c5⟩ : SlV)]), (tm ++ [(rowL d i)]), _, _, (((((hle2.trans hle17).trans hle18).trans hle19).trans hle20).trans hle21), rfl, hax_.sub ⟨rfl, rfl, rfl, rfl, rfl, trivial⟩, S34.pick [2, 3] [_, _] (by decide) ⟨rfl, rfl, trivial⟩, ?hq2f0, ?hq2f1, ?hq2f2, ?hq2f3⟩⟩
    case hq2f0 => omega
    case hq2f1 => (rw [take_ga _ i (by rw [tblA_len]; omega), ← htm, tblA_ga d (by omega)])
    case hq2f2 => exact hd5
    case hq2f3 => exact hd6
    case hq2m => omega
   ·simp only [Bool.and_eq_true, Bool.or_eq_true, Bool.and_eq_false_iff, Bool.or_eq_false_iff, decide_eq_true_eq, decide_eq_false_iff_not, Bool.not_eq_true', Bool.not_eq_false'] at hb44
    have hin : inA (ga d.crs i) = (ga d.crs i).a := by unfold inA; simp [*]
    have hto : toA (ga d.crs i) = (ga d.crs i).c := by unfold toA; simp [*]
    refine ws_skip rfl ?_
    refine nm_sub [(1, _), (3, _), (4, _), (5, _), (6, _), (7, _), (8, _), (9, _), (10, _)] ⟨rfl, rfl, rfl, rfl, rfl, rfl, rfl, rfl, rfl, trivial⟩ ?_
    refine nm_thn ?_
    refine ws_seqN TableOf_n36 TableOf_n37 rfl rfl rfl ?_
    refine ws_region rfl ?_
    refine wlm 0 1 rfl rfl rfl rfl rfl rfl rfl ?_
    refine wlo 1 2 rfl rfl rfl (wo_run rfl rfl (run_fieldAddr rfl rfl Try.underlying111 rfl (ce3) (nf3)) ?_)
    refine wlo 2 3 rfl rfl rfl (wo_run rfl rfl (run_load1 rfl rfl Try.underlying3 rfl (S23.boxc (i := 1) rfl rfl)) ?_)
    refine wlo 3 4 rfl rfl rfl (wo_run rfl rfl (run_sub rfl rfl rfl (by first | omega | (simp only [lens]; omega))) ?_)
    refine wlo 4 5 rfl rfl rfl (wo_run rfl rfl (run_indexM (C := cdInt) ((((ga d.crs i).b) - 1).toNat) rfl rfl rfl sl36 (by first | rfl | omega) hr1 (by first | omega | (simp only [lens]; omega))) ?_)
    refine wlo 5 6 rfl rfl rfl (wo_run rfl rfl (run_load1 rfl rfl Try.underlying3 rfl (hr1.cell S23.m (i := (((ga d.crs i).b) - 1).toNat) (by first | omega | (simp only [lens]; omega)) 0 rfl rfl)) ?_)
    refine wla 6 7 rfl rfl rfl rfl rfl rfl rfl ?_
    refine wl_end rfl ?_
    refine nm_sub [(1, _), (3, _), (4, _), (5, _), (6, _), (8, _), (9, _), (10, _), (11, _)] ⟨rfl, rfl, rfl, rfl, rfl, rfl, rfl, rfl, rfl, trivial⟩ ?_
    refine nm_thn ?_
    refine ws_seqN TableOf_n38 TableOf_n39 rfl rfl rfl ?_
    refine ws_eq 11 (.int .i64 (kO d (ga d.crs i).b : Int)) rfl (int_eq kb3) ?_
    refine ws_region rfl ?_
    refine wlm 0 1 rfl rfl rfl rfl rfl rfl rfl ?_
    refine wlm 1 2 rfl rfl rfl rfl rfl rfl rfl ?_
    refine wlm 2 3 rfl rfl rfl rfl rfl rfl rfl ?_
    refine wlm 3 4 rfl rfl rfl rfl rfl rfl rfl ?_
    refine wlo 4 5 rfl rfl rfl (wo_run rfl rfl (run_indexR (C := (cdV 22)) (i := 0) (kO d (ga d.crs i).c) rfl rfl rfl sl43 S23 rfl (by first | rfl | omega) (by first | omega | (simp only [lens]; omega))) ?_)
    obtain ⟨hn4, hr10⟩ := hd1.2 (kO d (ga d.crs i).c) (by first | omega | (simp only [lens]; omega))
    refine wlo 5 6 rfl rfl rfl (wo_run rfl rfl (run_load1 rfl rfl Try.underlying22 rfl (S23.rowc (i := 0) (e := kO d (ga d.crs i).c) (j := 0) rfl (by first | omega | (simp only [lens]; omega)) rfl (congrArg (fun n => some (Value.slice _ n _)) hn4))) ?_)
    refine wlo 6 7 rfl rfl rfl (wo_ct rfl rfl rfl rfl rfl rfl rfl cf62 S23 (Put_t (ga (List.replicate (mny d) []) (kO d (ga d.crs i).c)) 0 1 hr10 ((by first | (have := rok_len (rok_rep (mny d)) (k := (kO d (ga d.crs i).c)) (by rw [List.length_replicate]; omega); omega) | (have := rok_len (rok1 d i) (k := (kO d (ga d.crs i).c)) (by rw [row1_len]; omega); omega) | (have := rok_len (rok2 d i) (k := (kO d (ga d.crs i).c)) (by rw [row2_len]; omega); omega))) S23.lend) ?_)
    intro vw32 w32 M22 hle22 S35 hRw32; clear S23
    replace hdcrs := hdcrs.mono (Hp.un_mono hle22 S35.mx)
    replace hr1 := hr1.mono hle22
    replace ht2 := ht2.mono hle22
    replace ht3 := ht3.mono hle22
    replace hd1 := hd1.mono hle22
    replace hr10 := hr10.mono hle22
    obtain ⟨A7, c7, rfl, hr11⟩ := hRw32
    refine wlo 7 8 rfl rfl rfl (wo_run rfl rfl (run_indexR (C := (cdV 22)) (i := 0) (kO d (ga d.crs i).c) rfl rfl rfl sl43 S35 rfl (by first | rfl | omega) (by first | omega | (simp only [lens]; omega))) ?_)
    refine wlo 8 9 rfl rfl rfl (wo_storeR (C := (cdV 22)) (i := 0) (e := kO d (ga d.crs i).c) (j := 0) (us := [_]) (H' := [_, _, _, _]) (⟨A7, (put (ga (List.replicate (mny d) []) (kO d (ga d.crs i).c)) 0 1).length, c7⟩ : SlV) rfl rfl S35 rfl (by first | omega | (simp only [lens]; omega)) rfl rfl rfl sz22 rfl rfl rfl rfl ?_)
    intro w33 S36; clear S35
    have hd7 := hd1.set_ hr11 (kO d (ga d.crs i).c) (by first | omega | (simp only [lens]; omega))
    refine wl_end rfl ?_
    refine nm_sub [(1, _), (3, _), (4, _), (5, _), (6, _), (8, _), (9, _), (11, _)] ⟨rfl, rfl, rfl, rfl, rfl, rfl, rfl, rfl, trivial⟩ ?_
    refine nm_thn ?_
    refine ws_seqN TableOf_n40 TableOf_n41 rfl rfl rfl ?_
    replace hd7 : Rd2 cdTm M22 ((List.replicate (mny d) (cdV 22).z).set (kO d (ga d.crs i).c) (⟨A7, (put (ga (List.replicate (mny d) []) (kO d (ga d.crs i).c)) 0 1).length, c7⟩ : SlV)) (row1 d i) := by (have e9 : row1 d i = (List.replicate (mny d) []).set (kO d (ga d.crs i).c) (put (ga (List.replicate (mny d) []) (kO d (ga d.crs i).c)) 0 1) := by (unfold row1 putA; rw [hto])); rw [e9]; exact hd7
    have hrlhd7 := hd7.1
    simp only [row1_len, row2_len, rowL_len] at hrlhd7
    refine ws_region rfl ?_
    refine wlm 0 1 rfl rfl rfl rfl rfl rfl rfl ?_
    refine wlm 1 2 rfl rfl rfl rfl rfl rfl rfl ?_
    refine wlm 2 3 rfl rfl rfl rfl rfl rfl rfl ?_
    refine wlm 3 4 rfl rfl rfl rfl rfl rfl rfl ?_
    refine wlo 4 5 rfl rfl rfl (wo_run rfl rfl (run_indexR (C := (cdV 22)) (i := 0) (kO d (ga d.crs i).a) rfl rfl rfl sl43 S36 rfl (by first | rfl | omega) (by first | omega | (simp only [lens]; omega))) ?_)
    obtain ⟨hn5, hr12⟩ := hd7.2 (kO d (ga d.crs i).a) (by first | omega | (simp only [lens]; omega))
    refine wlo 5 6 rfl rfl rfl (wo_run rfl rfl (run_load1 rfl rfl Try.underlying22 rfl (S36.rowc (i := 0) (e := kO d (ga d.crs i).a) (j := 0) rfl (by first | omega | (simp only [lens]; omega)) rfl (congrArg (fun n => some (Value.slice _ n _)) hn5))) ?_)
    refine wlo 6 7 rfl rfl rfl (wo_ct rfl rfl rfl rfl rfl rfl rfl cf62 S36 (Put_t (ga (row1 d i) (kO d (ga d.crs i).a)) 1 (-1) hr12 ((by first | (have := rok_len (rok_rep (mny d)) (k := (kO d (ga d.crs i).a)) (by rw [List.length_replicate]; omega); omega) | (have := rok_len (rok1 d i) (k := (kO d (ga d.crs i).a)) (by rw [row1_len]; omega); omega) | (have := rok_len (rok2 d i) (k := (kO d (ga d.crs i).a)) (by rw [row2_len]; omega); omega))) S36.lend) ?_)
    intro vw34 w34 M23 hle23 S37 hRw34; clear S36
    replace hdcrs := hdcrs.mono (Hp.un_mono hle23 S37.mx)
    replace hr1 := hr1.mono hle23
    replace ht2 := ht2.mono hle23
    replace ht3 := ht3.mono hle23
    replace hd1 := hd1.mono hle23
    replace hr10 := hr10.mono hle23
    replace hr11 := hr11.mono hle23
    replace hd7 := hd7.mono hle23
    replace hr12 := hr12.mono hle23
    obtain ⟨A8, c8, rfl, hr13⟩ := hRw34
    refine wlo 7 8 rfl rfl rfl (wo_run rfl rfl (run_indexR (C := (cdV 22)) (i := 0) (kO d (ga d.crs i).a) rfl rfl rfl sl43 S37 rfl (by first | rfl | omega) (by first | omega | (simp only [lens]; omega))) ?_)
    refine wlo 8 9 rfl rfl rfl (wo_storeR (C := (cdV 22)) (i := 0) (e := kO d (ga d.crs i).a) (j := 0) (us := [_]) (H' := [_, _, _, _]) (⟨A8, (put (ga (row1 d i) (kO d (ga d.crs i).a)) 1 (-1)).length, c8⟩ : SlV) rfl rfl S37 rfl (by first | omega | (simp only [lens]; omega)) rfl rfl rfl sz22 rfl rfl rfl rfl ?_)
    intro w35 S38; clear S37
    have hd8 := hd7.set_ hr13 (kO d (ga d.crs i).a) (by first | omega | (simp only [lens]; omega))
    refine wl_end rfl ?_
    refine nm_sub [(1, _), (3, _), (4, _), (5, _), (6, _), (8, _), (11, _)] ⟨rfl, rfl, rfl, rfl, rfl, rfl, rfl, trivial⟩ ?_
    refine nm_thn ?_
    refine ws_seqN TableOf_n42 TableOf_n43 rfl rfl rfl ?_
    replace hd8 : Rd2 cdTm M23 (((List.replicate (mny d) (cdV 22).z).set (kO d (ga d.crs i).c) (⟨A7, (put (ga (List.replicate (mny d) []) (kO d (ga d.crs i).c)) 0 1).length, c7⟩ : SlV)).set (kO d (ga d.crs i).a) (⟨A8, (put (ga (row1 d i) (kO d (ga d.crs i).a)) 1 (-1)).length, c8⟩ : SlV)) (row2 d i) := by (have e9 : row2 d i = (row1 d i).set (kO d (ga d.crs i).a) (put (ga (row1 d i) (kO d (ga d.crs i).a)) 1 (-1)) := by (unfold row2 putA; rw [hin])); rw [e9]; exact hd8
    have hrlhd8 := hd8.1
    simp only [row1_len, row2_len, rowL_len] at hrlhd8
    refine ws_region rfl ?_
    refine wlm 0 1 rfl rfl rfl rfl rfl rfl rfl ?_
    refine wlm 1 2 rfl rfl rfl rfl rfl rfl rfl ?_
    refine wlm 2 3 rfl rfl rfl rfl rfl rfl rfl ?_
    refine wlm 3 4 rfl rfl rfl rfl rfl rfl rfl ?_
    refine wlo 4 5 rfl rfl rfl (wo_run rfl rfl (run_indexR (C := (cdV 22)) (i := 0) (kO d (ga d.crs i).b) rfl rfl rfl sl43 S38 rfl (by first | rfl | omega) (by first | omega | (simp only [lens]; omega))) ?_)
    obtain ⟨hn6, hr14⟩ := hd8.2 (kO d (ga d.crs i).b) (by first | omega | (simp only [lens]; omega))
    refine wlo 5 6 rfl rfl rfl (wo_run rfl rfl (run_load1 rfl rfl Try.underlying22 rfl (S38.rowc (i := 0) (e := kO d (ga d.crs i).b) (j := 0) rfl (by first | omega | (simp only [lens]; omega)) rfl (congrArg (fun n => some (Value.slice _ n _)) hn6))) ?_)
    refine wlo 6 7 rfl rfl rfl (wo_ct rfl rfl rfl rfl rfl rfl rfl cf62 S38 (Put_t (ga (row2 d i) (kO d (ga d.crs i).b)) 1 1 hr14 ((by first | (have := rok_len (rok_rep (mny d)) (k := (kO d (ga d.crs i).b)) (by rw [List.length_replicate]; omega); omega) | (have := rok_len (rok1 d i) (k := (kO d (ga d.crs i).b)) (by rw [row1_len]; omega); omega) | (have := rok_len (rok2 d i) (k := (kO d (ga d.crs i).b)) (by rw [row2_len]; omega); omega))) S38.lend) ?_)
    intro vw36 w36 M24 hle24 S39 hRw36; clear S38
    replace hdcrs := hdcrs.mono (Hp.un_mono hle24 S39.mx)
    replace hr1 := hr1.mono hle24
    replace ht2 := ht2.mono hle24
    replace ht3 := ht3.mono hle24
    replace hd1 := hd1.mono hle24
    replace hr10 := hr10.mono hle24
    replace hr11 := hr11.mono hle24
    replace hd7 := hd7.mono hle24
    replace hr12 := hr12.mono hle24
    replace hr13 := hr13.mono hle24
    replace hd8 := hd8.mono hle24
    replace hr14 := hr14.mono hle24
    obtain ⟨A9, c9, rfl, hr15⟩ := hRw36
    refine wlo 7 8 rfl rfl rfl (wo_ct rfl rfl rfl rfl rfl rfl rfl cf62 S39 (Put_t (put (ga (row2 d i) (kO d (ga d.crs i).b)) 1 1) 0 (-1) hr15 ((by have h9 := rok_put (rok2 d i) (kO d (ga d.crs i).b) (e := 1) (c := 1) (by omega) (by omega) (kO d (ga d.crs i).b) (by rw [putA_len, row2_len]; omega); unfold putA at h9; rw [ga_set _ _ _ _ (by rw [row2_len]; omega), if_pos rfl] at h9; have := can_len h9.1 h9.2; omega)) S39.lend) ?_)
    intro vw37 w37 M25 hle25 S40 hRw37; clear S39
    replace hdcrs := hdcrs.mono (Hp.un_mono hle25 S40.mx)
    replace hr1 := hr1.mono hle25
    replace ht2 := ht2.mono hle25
    replace ht3 := ht3.mono hle25
    replace hd1 := hd1.mono hle25
    replace hr10 := hr10.mono hle25
    replace hr11 := hr11.mono hle25
    replace hd7 := hd7.mono hle25
    replace hr12 := hr12.mono hle25
    replace hr13 := hr13.mono hle25
    replace hd8 := hd8.mono hle25
    replace hr14 := hr14.mono hle25
    replace hr15 := hr15.mono hle25
    obtain ⟨A10, c10, rfl, hr16⟩ := hRw37
    refine wlo 8 9 rfl rfl rfl (wo_run rfl rfl (run_indexR (C := (cdV 22)) (i := 0) (kO d (ga d.crs i).b) rfl rfl rfl sl43 S40 rfl (by first | rfl | omega) (by first | omega | (simp only [lens]; omega))) ?_)
    refine wlo 9 10 rfl rfl rfl (wo_storeR (C := (cdV 22)) (i := 0) (e := kO d (ga d.crs i).b) (j := 0) (us := [_]) (H' := [_, _, _, _]) (⟨A10, (put (put (ga (row2 d i) (kO d (ga d.crs i).b)) 1 1) 0 (-1)).length, c10⟩ : SlV) rfl rfl S40 rfl (by first | omega | (simp only [lens]; omega)) rfl rfl rfl sz22 rfl rfl rfl rfl ?_)
    intro w38 S41; clear S40
    have hd9 := hd8.set_ hr16 (kO d (ga d.crs i).b) (by first | omega | (simp only [lens]; omega))
    refine wl_end rfl ?_
    refine nm_sub [(1, _), (3, _), (4, _), (5, _), (6, _), (8, _)] ⟨rfl, rfl, rfl, rfl, rfl, rfl, trivial⟩ ?_
    refine nm_thn ?_
    replace hd9 : Rd2 cdTm M25 ((((List.replicate (mny d) (cdV 22).z).set (kO d (ga d.crs i).c) (⟨A7, (put (ga (List.replicate (mny d) []) (kO d (ga d.crs i).c)) 0 1).length, c7⟩ : SlV)).set (kO d (ga d.crs i).a) (⟨A8, (put (ga (row1 d i) (kO d (ga d.crs i).a)) 1 (-1)).length, c8⟩ : SlV)).set (kO d (ga d.crs i).b) (⟨A10, (put (put (ga (row2 d i) (kO d (ga d.crs i).b)) 1 1) 0 (-1)).length, c10⟩ : SlV)) (rowL d i) := by (have e9 : rowL d i = (row2 d i).set (kO d (ga d.crs i).b) (put (put (ga (row2 d i) (kO d (ga d.crs i).b)) 1 1) 0 (-1)) := by (unfold rowL putA; rw [ga_set _ _ _ _ (by rw [row2_len]; omega), if_pos rfl, List.set_set])); rw [e9]; exact hd9
    have hrlhd9 := hd9.1
    simp only [row1_len, row2_len, rowL_len] at hrlhd9
    refine ws_region rfl ?_
    refine wlm 0 1 rfl rfl rfl rfl rfl rfl rfl ?_
    refine wlm 1 2 rfl rfl rfl rfl rfl rfl rfl ?_
    obtain ⟨M26, hle26, S42, ⟨A11, c11, e2, hr17⟩⟩ := S41.pubrow (i := 0) (H' := [_, _, _, _]) rfl rfl (by show _ * 24 ≤ _; first | omega | (simp only [lens]; omega))
    clear S41; subst e2
    replace hdcrs := hdcrs.mono (Hp.un_mono hle26 S42.mx)
    replace hr1 := hr1.mono hle26
    replace ht2 := ht2.mono hle26
    replace ht3 := ht3.mono hle26
    replace hd1 := hd1.mono hle26
    replace hr10 := hr10.mono hle26
    replace hr11 := hr11.mono hle26
    replace hd7 := hd7.mono hle26
    replace hr12 := hr12.mono hle26
    replace hr13 := hr13.mono hle26
    replace hd8 := hd8.mono hle26
    replace hr14 := hr14.mono hle26
    replace hr15 := hr15.mono hle26
    replace hr16 := hr16.mono hle26
    replace hd9 := hd9.mono hle26
    refine wlo 2 3 rfl rfl rfl (wo_buildSlice1 (C := (cdV 43)) (l := [_]) rfl rfl rfl rfl sl37 rfl rfl rfl rfl S42 ?_)
    intro gb4 w39 S43; clear S42
    refine wlo 3 4 rfl rfl rfl (wo_append1 (C := (cdV 43)) (i := 3) (q := 0) (⟨A11, ((((List.replicate (mny d) (cdV 22).z).set (kO d (ga d.crs i).c) (⟨A7, (put (ga (List.replicate (mny d) []) (kO d (ga d.crs i).c)) 0 1).length, c7⟩ : SlV)).set (kO d (ga d.crs i).a) (⟨A8, (put (ga (row1 d i) (kO d (ga d.crs i).a)) 1 (-1)).length, c8⟩ : SlV)).set (kO d (ga d.crs i).b) (⟨A10, (put (put (ga (row2 d i) (kO d (ga d.crs i).b)) 1 1) 0 (-1)).length, c10⟩ : SlV)).length, c11⟩ : SlV) rfl rfl rfl rfl rfl rfl rfl rfl sl37 S43 rfl rfl rfl (by show (_ + 1) * 24 ≤ _; first | omega | (simp only [lens]; omega)) ?_)
    intro vrt2 w40 S44; clear S43
    have S45 := S44.pick [1, 2, 3, 4] [_, _, _, _] (by decide) ⟨rfl, rfl, rfl, rfl, trivial⟩; clear S44
    have hd10 := ht2.snoc (c := c11) hr17
    have hd11 := ht3.snoc hd9
    refine wla 4 5 rfl rfl rfl rfl rfl rfl rfl ?_
    refine wl_end rfl ?_
    refine nm_blk ?_
    refine nm_sub [(1, _), (3, _), (4, _), (5, _), (6, _)] ⟨rfl, rfl, rfl, rfl, rfl, trivial⟩ ?_
    refine nm_thn ?_
    refine ws_region rfl ?_
    refine wlm 0 1 rfl rfl rfl rfl rfl rfl rfl ?_
    refine wlo 1 2 rfl rfl rfl (wo_run rfl rfl (run_add rfl rfl rfl (by first | omega | (simp only [lens]; omega))) ?_)
    refine wla 2 3 rfl rfl rfl rfl rfl rfl rfl ?_
    refine wl_end rfl ?_
    refine nm_lp ?_
    intro ax_ hax_
    refine ⟨_, ?hq3m, ⟨i + 1, _, (tss ++ [(((List.replicate (mny d) (cdV 22).z).set (kO d (ga d.crs i).c) (⟨A7, (put (ga (List.replicate (mny d) []) (kO d (ga d.crs i).c)) 0 1).length, c7⟩ : SlV)).set (kO d (ga d.crs i).a) (⟨A8, (put (ga (row1 d i) (kO d (ga d.crs i).a)) 1 (-1)).length, c8⟩ : SlV)).set (kO d (ga d.crs i).b) (⟨A10, (put (put (ga (row2 d i) (kO d (ga d.crs i).b)) 1 1) 0 (-1)).length, c10⟩ : SlV)]), (tm ++ [(rowL d i)]), _, _, (((((hle2.trans hle22).trans hle23).trans hle24).trans hle25).trans hle26), rfl, hax_.sub ⟨rfl, rfl, rfl, rfl, rfl, trivial⟩, S45.pick [2, 3] [_, _] (by decide) ⟨rfl, rfl, trivial⟩, ?hq3f0, ?hq3f1, ?hq3f2, ?hq3f3⟩⟩
    case hq3f0 => omega
    case hq3f1 => (rw [take_ga _ i (by rw [tblA_len]; omega), ← htm, tblA_ga d (by omega)])
    case hq3f2 => exact hd10
    case hq3f3 => exact hd11
    case hq3m => omega
  ·have hb20 := of_decide_eq_false hb20
   refine ws_exit rfl rfl ?_
   refine nm_sub [(5, _)] ⟨rfl, trivial⟩ ?_
   refine nm_thn ?_
   refine ws_seqN TableOf_n44 TableOf_n45 rfl rfl rfl ?_
   refine ws_region rfl ?_
   refine wlm 0 1 rfl rfl rfl rfl rfl rfl rfl ?_
   refine wla 1 2 rfl rfl rfl rfl rfl rfl rfl ?_
   refine wl_end rfl ?_
   refine nm_sub [(2, _)] ⟨rfl, trivial⟩ ?_
   refine nm_thn ?_
   obtain ⟨M27, hle27, S46, ⟨A12, c12, e3, hr18⟩⟩ := S5.pubrow (i := 0) (H' := [_, _]) rfl rfl (by show _ * 24 ≤ _; first | omega | (simp only [lens]; omega))
   clear S5; subst e3
   replace hdcrs := hdcrs.mono (Hp.un_mono hle27 S46.mx)
   replace hr1 := hr1.mono hle27
   replace ht2 := ht2.mono hle27
   replace ht3 := ht3.mono hle27
   refine ws_ret hC [_] rfl rfl ⟨rfl, trivial⟩ ?_
   refine ⟨_, rfl, _, (hle1.trans hle2).trans hle27, (S46.pick [] [] (by decide) trivial), ?_⟩
   obtain rfl : i = d.crs.length := by omega
   have e2 : tm = tblA d := by rw [htm, List.take_of_length_le (by rw [tblA_len]; omega)]
   rw [e2] at ht3
   exact ⟨_, _, _, _, rfl, hr18, ht2, ht3⟩
end Go.Proofs.Ytkcighnochjlgaa
namespace Go.Proofs.Ytkcighnochjlgaa
open Go.ChangeShapes Go.WideShapes Go.ChangeAt Go.RowKit
/-- A call that hands over things to own, and makes others that last. -/
def Cto (P : Program) (f : FuncId) (vs : List Value) (w : World) (M : Hp) (X : Fr) (R : Value → Hp → List Rs → Prop) : Prop :=
  Calls P f vs.toArray w fun e w' => ∃ v, e = .returned v ∧ ∃ M' N, M.le M' ∧ SH w' M' X N ∧ R v M' N
section
variable {P : Program} {o : Oper} {L : List (Nat × Value)} {w : World} {n d : Nat} {Kt : List (Nat × Value) → World → Prop} {M : Hp} {X : Fr} {H : List Rs}
theorem wo_cto {f : FuncId} {vs : List Value} {ca : Call} {fo : Operand} {xs : List Operand} (hd : o.dst = some d) (hop : o.op = .call ca) (hca : ca.callee = .value fo) (hfo : oev L fo = some (.func (.func f) #[] #[]))
    (hxs : ca.args = xs.toArray) (hvs : oevs L xs = some vs) (hn : Nat.blt d n = true) (hen : ∀ args w, (callFunc f args).run P w = .ok (.enter f args) w) (S : SH w M X H)
    {R : Value → Hp → List Rs → Prop} (hcall : Cto P f vs w M (XH w X H) R) (h : ∀ v w' M' N, M.le M' → SH w' M' X (N ++ H) → R v M' N → Kt ((d, v) :: L) w') : WO P n o L w Kt :=
  wo_call (R := fun v w' => ∃ M' N, M.le M' ∧ SH w' M' (XH w X H) N ∧ R v M' N) hd hop hca hfo hxs hvs hn hen hcall fun v w' ⟨M', N, h1, h2, h4⟩ => h v w' M' N h1 (S.backN h2) h4
end
section
variable {bf : Nat → Nat} {N : Hp} {gs : List (Option Nat)} {ps : List (Option Pol)} {gss : List (List (Option Nat))} {pss : List (List (Option Pol))} {α : Type} {C : Cd α} {svs : List (List SlV)} {mm : List (List (List α))}
theorem Wks.take_ (h : Wks bf N gs ps) (k : Nat) : Wks bf N (gs.take k) (ps.take k) := ⟨by rw [List.length_take, List.length_take, h.1], fun i hi => by
  rw [List.length_take] at hi
  have := h.2 i (by omega)
  rw [ga_take _ _ _ (by omega), ga_take _ _ _ (by omega)]
  exact this⟩
theorem WksA.take_ (h : WksA bf N gss pss) (k : Nat) : WksA bf N (gss.take k) (pss.take k) := ⟨by rw [List.length_take, List.length_take, h.1], fun i hi => by
  rw [List.length_take] at hi
  have := h.2 i (by omega)
  rw [ga_take _ _ _ (by omega), ga_take _ _ _ (by omega)]
  exact this⟩
theorem RdD.take_ (h : RdD C N svs mm) (k : Nat) : RdD C N (svs.take k) (mm.take k) := ⟨by rw [List.length_take, List.length_take, h.1], fun i hi => by
  rw [List.length_take] at hi
  have := h.2 i (by omega)
  rw [ga_take _ _ _ (by omega), ga_take _ _ _ (by omega)]
  exact this⟩
end
end Go.Proofs.Ytkcighnochjlgaa
