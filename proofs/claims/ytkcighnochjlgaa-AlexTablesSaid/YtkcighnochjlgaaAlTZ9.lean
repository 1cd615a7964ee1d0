/- Part 9 of the proof of the law AlexTables: the walks through its functions and the plain laws that they need. -/
import Derived.Test.YtkcighnochjlgaaAlTZ8
set_option linter.unusedSimpArgs false
set_option linter.unusedVariables false
namespace Go.Proofs.Ytkcighnochjlgaa
open Go.ChangeShapes Go.WideShapes Go.ChangeAt Go.RowKit
/-- Few crossings: what forbids it. -/
def errK (d : Dg) (m : Nat) : Int := if errO d = 0 then (if m < d.crs.length then 2 else 0) else errO d
theorem errK_ok {d : Dg} {m : Nat} (h : errK d m = 0) : errO d = 0 ∧ d.crs.length ≤ m := by
  unfold errK at h
  split at h
  · split at h
    · cases h
    · exact ⟨by assumption, by omega⟩
  · exact absurd h (by assumption)
def OpenF (m : Nat) (d : Dg) (v : Value) (N : Hp) : Prop :=
  (errK d m ≠ 0 ∧ v = .tuple [.pointer none, .int .i64 (errK d m)].toArray) ∨
  (errK d m = 0 ∧ ∃ g cA iA oA cc ic oc, v = .tuple [.pointer (some ⟨g, 0, none⟩), .int .i64 0].toArray ∧ ShM N d g cA iA oA cc ic oc)
def mostN (l : List Int) : Nat → Int
  | 0 => 0
  | k + 1 => if mostN l k < ga l k + 1 then ga l k + 1 else mostN l k
theorem cn_up {p : Nat → Bool} {a b : Nat} (h : a ≤ b) : cn p a ≤ cn p b := by
  induction b with
  | zero => obtain rfl : a = 0 := (by omega); exact Nat.le_refl _
  | succ b ih =>
    by_cases e : a = b + 1
    · subst e; exact Nat.le_refl _
    · have := ih (by omega)
      rw [cn]; omega
theorem cls_pos {d : Dg} (h : arcsB d = true) {a : Nat} (h1 : 1 ≤ a) (h2 : a < 2 * d.crs.length + 1) : 1 ≤ (ga (clsL d) a).toNat := by
  obtain ⟨o1, o2, o3⟩ := (clsN_ok h d.crs.length (Nat.le_refl _)).2 a h2
  have hc := cls_con h (fun x => x = 0) (fun k hk => by
    have hb := arcAt_bd h (i := k) hk (k := 1) (by omega)
    have hd := arcAt_bd h (i := k) hk (k := 3) (by omega)
    obtain ⟨⟨b1, b2⟩, ⟨b3, b4⟩⟩ := cls_bd h hk
    have e1 : arcAt d k 1 = (ga d.crs k).b := rfl
    have e2 : arcAt d k 3 = (ga d.crs k).d := rfl
    constructor <;> intro h9 <;> exfalso <;> omega) d.crs.length (Nat.le_refl _) a (ga (clsL d) a).toNat h2 (by unfold clsL; omega) (by unfold clsL; rw [o3])
  rcases Nat.eq_zero_or_pos (ga (clsL d) a).toNat with h9 | h9
  · have := hc.2 h9; omega
  · exact h9
theorem most_ov {d : Dg} (h : arcsB d = true) (k : Nat) (hk : k ≤ 2 * d.crs.length) : mostN (ovTail d) k = rk d (k + 1) := by
  induction k with
  | zero => rfl
  | succ k ih =>
    rw [mostN, ih (by omega)]
    have e1 : ga (ovTail d) k = ovA d (k + 1) := by
      rw [ga_eq (by simp [ovTail]; omega)]; simp [ovTail]
    rw [e1]
    obtain ⟨o1, o2, o3⟩ := (clsN_ok h d.crs.length (Nat.le_refl _)).2 (k + 1) (by omega)
    have hp := cls_pos h (a := k + 1) (by omega) (by omega)
    by_cases e : ga (clsL d) (k + 1) = ((k + 1 : Nat) : Int)
    · have e2 : ovA d (k + 1) = rk d (k + 1) := by unfold ovA; rw [e]; rfl
      rw [rk_root (by omega) e, e2, if_pos (by omega)]
    · rw [rk_skip e]
      have e3 : ga (clsL d) (ga (clsL d) (k + 1)).toNat = (((ga (clsL d) (k + 1)).toNat : Nat) : Int) := by
        unfold clsL at *; rw [o3]; omega
      have e4 := rk_root hp e3
      have e5 : rk d ((ga (clsL d) (k + 1)).toNat + 1) ≤ rk d (k + 1) := by
        unfold rk; exact_mod_cast cn_up (by unfold clsL at *; omega)
      have e6 : ovA d (k + 1) = rk d (ga (clsL d) (k + 1)).toNat := rfl
      rw [if_neg (by omega)]
theorem ov_lt {d : Dg} (h : arcsB d = true) {a : Nat} (h1 : 1 ≤ a) (h2 : a ≤ 2 * d.crs.length) : 0 ≤ ovA d a ∧ ovA d a < rk d (2 * d.crs.length + 1) := by
  obtain ⟨o1, o2, o3⟩ := (clsN_ok h d.crs.length (Nat.le_refl _)).2 a (by omega)
  have hp := cls_pos h h1 (by omega)
  have e3 : ga (clsL d) (ga (clsL d) a).toNat = (((ga (clsL d) a).toNat : Nat) : Int) := by
    unfold clsL at *; rw [o3]; omega
  have e4 := rk_root hp e3
  have e5 : rk d ((ga (clsL d) a).toNat + 1) ≤ rk d (2 * d.crs.length + 1) := by
    unfold rk; exact_mod_cast cn_up (by unfold clsL at *; omega)
  have e6 : ovA d a = rk d (ga (clsL d) a).toNat := rfl
  have := rk_bd d (ga (clsL d) a).toNat
  omega
noncomputable def AOpen_n0 : Code := Try.f77.body.getD .skip
noncomputable def AOpen_n1 : Code := cL AOpen_n0
noncomputable def AOpen_n2 : Code := cR AOpen_n0
noncomputable def AOpen_n3 : Code := cL AOpen_n2
noncomputable def AOpen_n4 : Code := cR AOpen_n2
noncomputable def AOpen_n5 : Code := cL AOpen_n4
noncomputable def AOpen_n6 : Code := cR AOpen_n4
noncomputable def AOpen_n7 : Code := cL AOpen_n5
noncomputable def AOpen_n8 : Code := cL AOpen_n7
noncomputable def AOpen_n9 : Code := cR AOpen_n7
noncomputable def AOpen_n10 : Code := cL AOpen_n9
noncomputable def AOpen_n11 : Code := cR AOpen_n9
noncomputable def AOpen_n12 : Code := cL AOpen_n10
noncomputable def AOpen_n13 : Code := cR AOpen_n10
noncomputable def AOpen_n14 : Code := cL AOpen_n11
noncomputable def AOpen_n15 : Code := cR AOpen_n11
noncomputable def AOpen_n16 : Code := cL AOpen_n15
noncomputable def AOpen_n17 : Code := cR AOpen_n15
noncomputable def AOpen_n18 : Code := cL AOpen_n16
noncomputable def AOpen_n19 : Code := cR AOpen_n16
noncomputable def AOpen_n20 : Code := cL AOpen_n6
noncomputable def AOpen_n21 : Code := cR AOpen_n6
set_option maxRecDepth 10000 in
theorem AOpen_t {w : World} {M : Hp} {X : Fr} (d : Dg) {dcrsA : Option Addr} {dcrsc : Nat} (hdcrs : RdA cdCr (M.un X.h) dcrsA dcrsc d.crs) (S : SH w M X []) : Ct Try.prog 77 [.agg [.slice dcrsA d.crs.length dcrsc, .int .i64 d.loops].toArray] w M X (OpenF 10 d) := by
  unfold Ct
  have rmhdcrs : d.crs.length * 40 ≤ 140737488355328 := hdcrs.room
  refine calls_in (b := AOpen_n0) Try.func77 rfl Try.ntmps77 rfl (fun C hC => ?_)
  refine ws_sub [(0, _)] ⟨rfl, trivial⟩ ?_
  refine ws_seqN AOpen_n1 AOpen_n2 rfl rfl rfl ?_
  refine ws_region rfl ?_
  refine wl_op (k := 0) (k' := 1) rfl rfl rfl (wo_box (l := [_, _]) rfl rfl rfl rfl rfl S ?_)
  intro gb1 w1 S1; clear S
  refine wl_op (k := 1) (k' := 2) rfl rfl rfl (wo_run rfl rfl (run_assign rfl rfl) ?_)
  refine wl_op (k := 2) (k' := 3) rfl rfl rfl (wo_run rfl rfl (run_assign rfl rfl) ?_)
  refine wl_end rfl ?_
  refine nm_sub [(1, _)] ⟨rfl, trivial⟩ ?_
  refine nm_thn ?_
  refine ws_seqN AOpen_n3 AOpen_n4 rfl rfl rfl ?_
  refine ws_region rfl ?_
  refine wl_op (k := 0) (k' := 1) rfl rfl rfl (wo_run rfl rfl (run_loadN (us := [_, _]) rfl rfl Try.underlying51 rfl sz51 (S1.boxcs (i := 0) rfl ⟨rfl, rfl, trivial⟩)) ?_)
  refine wl_op (k := 1) (k' := 2) rfl rfl rfl (wo_ct rfl rfl rfl rfl rfl rfl rfl cf82 S1 (Open_t d (hdcrs.mono S1.un_XH) S1.lend) ?_)
  intro vw2 w2 M1 hle1 S2 hRw2; clear S1
  replace hdcrs := hdcrs.mono (Hp.un_mono hle1 S2.mx)
  rcases hRw2 with ⟨hopn8, rfl⟩ | ⟨hopn8, g1, cA8, iA8, oA8, cc8, ic8, oc8, rfl, hsb8, hsc8, hsi8, hso8⟩
  · refine wl_op (k := 2) (k' := 3) rfl rfl rfl (wo_run rfl rfl (run_move rfl rfl) ?_)
    refine wl_op (k := 3) (k' := 4) rfl rfl rfl (wo_run rfl rfl (run_extract rfl rfl rfl) ?_)
    refine wl_op (k := 4) (k' := 5) rfl rfl rfl (wo_run rfl rfl (run_extract rfl rfl rfl) ?_)
    refine wl_op (k := 5) (k' := 6) rfl rfl rfl (wo_run rfl rfl (run_assign rfl rfl) ?_)
    refine wl_op (k := 6) (k' := 7) rfl rfl rfl (wo_run rfl rfl (run_assign rfl rfl) ?_)
    refine wl_end rfl ?_
    refine nm_sub [(4, _), (5, _)] ⟨rfl, rfl, trivial⟩ ?_
    refine nm_thn ?_
    refine ws_seqN AOpen_n5 AOpen_n6 rfl rfl rfl ?_
    refine ws_blockN AOpen_n7 0 rfl rfl rfl ?_
    refine ws_seqN AOpen_n8 AOpen_n9 rfl rfl rfl ?_
    refine ws_region rfl ?_
    refine wl_op (k := 0) (k' := 1) rfl rfl rfl (wo_run rfl rfl (run_move rfl rfl) ?_)
    refine wl_op (k := 1) (k' := 2) rfl rfl rfl (wo_run rfl rfl (run_neq rfl rfl rfl) ?_)
    refine wl_op (k := 2) (k' := 3) rfl rfl rfl (wo_run rfl rfl (run_assign rfl rfl) ?_)
    refine wl_end rfl ?_
    refine nm_sub [(4, _), (5, _), (11, _)] ⟨rfl, rfl, rfl, trivial⟩ ?_
    refine nm_thn ?_
    refine ws_condN AOpen_n10 AOpen_n11 rfl rfl rfl rfl (fun hb11 => ?_) (fun hb11 => ?_)
    · have hb11 := of_decide_eq_true hb11
      refine ws_seqN AOpen_n12 AOpen_n13 rfl rfl rfl ?_
      refine ws_region rfl ?_
      refine wl_op (k := 0) (k' := 1) rfl rfl rfl (wo_run rfl rfl (run_move rfl rfl) ?_)
      refine wl_op (k := 1) (k' := 2) rfl rfl rfl (wo_run rfl rfl (run_assign rfl rfl) ?_)
      refine wl_op (k := 2) (k' := 3) rfl rfl rfl (wo_run rfl rfl (run_assign rfl rfl) ?_)
      refine wl_end rfl ?_
      refine nm_sub [(2, _), (3, _)] ⟨rfl, rfl, trivial⟩ ?_
      refine nm_thn ?_
      refine ws_ret hC [_, _] rfl rfl ⟨rfl, rfl, trivial⟩ ?_
      refine ⟨_, rfl, _, hle1, (S2.pick [] [] (by decide) trivial), ?_⟩
      have e0 : errK d 10 = errO d := by unfold errK; rw [if_neg hopn8]
      exact .inl ⟨by rw [e0]; exact hopn8, by rw [e0]; rfl⟩
    · have hb11 := of_decide_eq_false hb11
      exfalso; omega
  · obtain ⟨hmo, hpl⟩ := errO_ok hopn8
    obtain ⟨hn, hab, hlo0, hlo1⟩ := mayO hmo
    refine wl_op (k := 2) (k' := 3) rfl rfl rfl (wo_run rfl rfl (run_move rfl rfl) ?_)
    refine wl_op (k := 3) (k' := 4) rfl rfl rfl (wo_run rfl rfl (run_extract rfl rfl rfl) ?_)
    refine wl_op (k := 4) (k' := 5) rfl rfl rfl (wo_run rfl rfl (run_extract rfl rfl rfl) ?_)
    refine wl_op (k := 5) (k' := 6) rfl rfl rfl (wo_run rfl rfl (run_assign rfl rfl) ?_)
    refine wl_op (k := 6) (k' := 7) rfl rfl rfl (wo_run rfl rfl (run_assign rfl rfl) ?_)
    refine wl_end rfl ?_
    refine nm_sub [(4, _), (5, _)] ⟨rfl, rfl, trivial⟩ ?_
    refine nm_thn ?_
    refine ws_seqN AOpen_n5 AOpen_n6 rfl rfl rfl ?_
    refine ws_blockN AOpen_n7 0 rfl rfl rfl ?_
    refine ws_seqN AOpen_n8 AOpen_n9 rfl rfl rfl ?_
    refine ws_region rfl ?_
    refine wl_op (k := 0) (k' := 1) rfl rfl rfl (wo_run rfl rfl (run_move rfl rfl) ?_)
    refine wl_op (k := 1) (k' := 2) rfl rfl rfl (wo_run rfl rfl (run_neq rfl rfl rfl) ?_)
    refine wl_op (k := 2) (k' := 3) rfl rfl rfl (wo_run rfl rfl (run_assign rfl rfl) ?_)
    refine wl_end rfl ?_
    refine nm_sub [(4, _), (5, _), (11, _)] ⟨rfl, rfl, rfl, trivial⟩ ?_
    refine nm_thn ?_
    refine ws_condN AOpen_n10 AOpen_n11 rfl rfl rfl rfl (fun hb11 => ?_) (fun hb11 => ?_)
    · have hb11 := of_decide_eq_true hb11
      exfalso; omega
    · have hb11 := of_decide_eq_false hb11
      refine ws_seqN AOpen_n14 AOpen_n15 rfl rfl rfl ?_
      refine ws_region rfl ?_
      refine wl_op (k := 0) (k' := 1) rfl rfl rfl (wo_run rfl rfl (run_move rfl rfl) ?_)
      refine wl_op (k := 1) (k' := 2) rfl rfl rfl (wo_run rfl rfl (run_nilCheck rfl rfl) ?_)
      refine wl_op (k := 2) (k' := 3) rfl rfl rfl (wo_run rfl rfl (run_fieldAddr rfl rfl Try.underlying114 rfl (ce51) (nf51)) ?_)
      refine wl_op (k := 3) (k' := 4) rfl rfl rfl (wo_run rfl rfl (run_fieldAddr rfl rfl Try.underlying51 rfl (ce49) (nf49)) ?_)
      refine wl_op (k := 4) (k' := 5) rfl rfl rfl (wo_run rfl rfl (run_load1 rfl rfl Try.underlying49 rfl (hsb8.cell S2.m rfl)) ?_)
      refine wl_op (k := 5) (k' := 6) rfl rfl rfl (wo_run rfl rfl (run_len rfl rfl rfl rfl rfl rfl Try.underlying49) ?_)
      refine wl_op (k := 6) (k' := 7) rfl rfl rfl (wo_run rfl rfl (run_gtr rfl rfl rfl) ?_)
      refine wl_op (k := 7) (k' := 8) rfl rfl rfl (wo_run rfl rfl (run_assign rfl rfl) ?_)
      refine wl_end rfl ?_
      refine nm_sub [(4, _), (15, _)] ⟨rfl, rfl, trivial⟩ ?_
      refine nm_thn ?_
      refine ws_condN AOpen_n16 AOpen_n17 rfl rfl rfl rfl (fun hb15 => ?_) (fun hb15 => ?_)
      · have hb15 := of_decide_eq_true hb15
        refine ws_seqN AOpen_n18 AOpen_n19 rfl rfl rfl ?_
        refine ws_region rfl ?_
        refine wl_op (k := 0) (k' := 1) rfl rfl rfl (wo_run rfl rfl (run_assign rfl rfl) ?_)
        refine wl_op (k := 1) (k' := 2) rfl rfl rfl (wo_run rfl rfl (run_assign rfl rfl) ?_)
        refine wl_end rfl ?_
        refine nm_sub [(2, _), (3, _)] ⟨rfl, rfl, trivial⟩ ?_
        refine nm_thn ?_
        refine ws_ret hC [_, _] rfl rfl ⟨rfl, rfl, trivial⟩ ?_
        refine ⟨_, rfl, _, hle1, (S2.pick [] [] (by decide) trivial), ?_⟩
        have e0 : errK d 10 = 2 := by unfold errK; rw [if_pos hopn8, if_pos (by omega)]
        exact .inl ⟨by rw [e0]; decide, by rw [e0]; rfl⟩
      · have hb15 := of_decide_eq_false hb15
        refine ws_skip rfl ?_
        refine nm_blk ?_
        refine nm_sub [(4, _)] ⟨rfl, trivial⟩ ?_
        refine nm_thn ?_
        refine ws_seqN AOpen_n20 AOpen_n21 rfl rfl rfl ?_
        refine ws_region rfl ?_
        refine wl_op (k := 0) (k' := 1) rfl rfl rfl (wo_run rfl rfl (run_move rfl rfl) ?_)
        refine wl_op (k := 1) (k' := 2) rfl rfl rfl (wo_run rfl rfl (run_assign rfl rfl) ?_)
        refine wl_op (k := 2) (k' := 3) rfl rfl rfl (wo_run rfl rfl (run_assign rfl rfl) ?_)
        refine wl_end rfl ?_
        refine nm_sub [(2, _), (3, _)] ⟨rfl, rfl, trivial⟩ ?_
        refine nm_thn ?_
        refine ws_ret hC [_, _] rfl rfl ⟨rfl, rfl, trivial⟩ ?_
        refine ⟨_, rfl, _, hle1, (S2.pick [] [] (by decide) trivial), ?_⟩
        have e0 : errK d 10 = 0 := by unfold errK; rw [if_pos hopn8, if_neg (by omega)]
        exact .inr ⟨e0, _, _, _, _, _, _, _, rfl, hsb8, hsc8, hsi8, hso8⟩
noncomputable def mostOf_n0 : Code := Try.f80.body.getD .skip
noncomputable def mostOf_n1 : Code := cL mostOf_n0
noncomputable def mostOf_n2 : Code := cR mostOf_n0
noncomputable def mostOf_n3 : Code := cL mostOf_n2
noncomputable def mostOf_n4 : Code := cR mostOf_n2
noncomputable def mostOf_n5 : Code := cL mostOf_n4
noncomputable def mostOf_n6 : Code := cR mostOf_n4
noncomputable def mostOf_n7 : Code := cL mostOf_n5
noncomputable def mostOf_n8 : Code := cR mostOf_n5
noncomputable def mostOf_n9 : Code := cL mostOf_n8
noncomputable def mostOf_n10 : Code := cL mostOf_n9
noncomputable def mostOf_n11 : Code := cL mostOf_n10
noncomputable def mostOf_n12 : Code := cR mostOf_n10
noncomputable def mostOf_n13 : Code := cL mostOf_n11
noncomputable def mostOf_n14 : Code := cR mostOf_n11
noncomputable def mostOf_n15 : Code := cL mostOf_n14
noncomputable def mostOf_n16 : Code := cR mostOf_n14
noncomputable def mostOf_n17 : Code := cL mostOf_n12
noncomputable def mostOf_n18 : Code := cR mostOf_n12
noncomputable def mostOf_n19 : Code := cL mostOf_n17
noncomputable def mostOf_n20 : Code := cL mostOf_n19
noncomputable def mostOf_n21 : Code := cR mostOf_n19
noncomputable def mostOf_n22 : Code := cL mostOf_n21
noncomputable def mostOf_n23 : Code := cR mostOf_n21
noncomputable def mostOf_n24 : Code := cL mostOf_n6
noncomputable def mostOf_n25 : Code := cR mostOf_n6
set_option maxRecDepth 10000 in
theorem mostOf_q {w : World} {M : Hp} {X : Fr} (l : List Int) {lA : Option Addr} {lc : Nat} (hl : RdA cdInt (M.un X.h) lA lc l) (hlb : ∀ i, i < l.length → 0 ≤ ga l i ∧ ga l i ≤ 100) (S : SH w M X []) : Cq Try.prog 80 [.slice lA l.length lc] w M X (fun u => u = .int .i64 (mostN l l.length)) := by
  unfold Cq
  have rmhl : l.length * 8 ≤ 140737488355328 := hl.room
  refine calls_in (b := mostOf_n0) Try.func80 rfl Try.ntmps80 rfl (fun C hC => ?_)
  refine ws_sub [(0, _)] ⟨rfl, trivial⟩ ?_
  refine ws_seqN mostOf_n1 mostOf_n2 rfl rfl rfl ?_
  refine ws_region rfl ?_
  refine wl_op (k := 0) (k' := 1) rfl rfl rfl (wo_run rfl rfl (run_assign rfl rfl) ?_)
  refine wl_end rfl ?_
  refine nm_sub [(0, _)] ⟨rfl, trivial⟩ ?_
  refine nm_thn ?_
  refine ws_seqN mostOf_n3 mostOf_n4 rfl rfl rfl ?_
  refine ws_region rfl ?_
  refine wl_op (k := 0) (k' := 1) rfl rfl rfl (wo_run rfl rfl (run_assign rfl rfl) ?_)
  refine wl_end rfl ?_
  refine nm_thn ?_
  refine ws_seqN mostOf_n5 mostOf_n6 rfl rfl rfl ?_
  refine ws_seqN mostOf_n7 mostOf_n8 rfl rfl rfl ?_
  refine ws_region rfl ?_
  refine wl_op (k := 0) (k' := 1) rfl rfl rfl (wo_run rfl rfl (run_assign rfl rfl) ?_)
  refine wl_end rfl ?_
  refine nm_thn ?_
  refine ws_blockN mostOf_n9 0 rfl rfl rfl ?_
  refine ws_loopE (fun mx_ ax_ wx_ => ∃ (k : Nat) (m : Int), mx_ = l.length - k ∧ Env 24 [(0, .slice lA l.length lc), (3, .int .i64 m), (4, .int .i64 (k : Int))] ax_ ∧ SH wx_ M X [] ∧ k ≤ l.length ∧ m = mostN l k ∧ (0 ≤ m ∧ m ≤ 101)) rfl ?_ ?_
  · intro ax_ hax_
    refine ⟨_, ⟨0, _, rfl, hax_.sub ⟨rfl, rfl, rfl, trivial⟩, S.pick [] [] (by decide) trivial, ?hq1f0, ?hq1f1, ?hq1f2⟩⟩
    case hq1f0 => omega
    case hq1f1 => rfl
    case hq1f2 => omega
  · rintro m1 a1 w1 ⟨k, m, rfl, he1, S1, hk, hm, hm2⟩
    clear S
    refine ws_in he1 (c := mostOf_n10) rfl ?_
    clear he1 a1
    have hlk := fun h => hlb k h
    refine ws_seqN mostOf_n11 mostOf_n12 rfl rfl rfl ?_
    refine ws_seqN mostOf_n13 mostOf_n14 rfl rfl rfl ?_
    refine ws_region rfl ?_
    refine wl_op (k := 0) (k' := 1) rfl rfl rfl (wo_run rfl rfl (run_move rfl rfl) ?_)
    refine wl_op (k := 1) (k' := 2) rfl rfl rfl (wo_run rfl rfl (run_move rfl rfl) ?_)
    refine wl_op (k := 2) (k' := 3) rfl rfl rfl (wo_run rfl rfl (run_len rfl rfl rfl rfl rfl rfl Try.underlying36) ?_)
    refine wl_op (k := 3) (k' := 4) rfl rfl rfl (wo_run rfl rfl (run_lss rfl rfl rfl) ?_)
    refine wl_end rfl ?_
    refine nm_sub [(0, _), (3, _), (4, _), (8, _)] ⟨rfl, rfl, rfl, rfl, trivial⟩ ?_
    refine nm_thn ?_
    refine ws_condN mostOf_n15 mostOf_n16 rfl rfl rfl rfl (fun hb8 => ?_) (fun hb8 => ?_)
    · have hb8 := of_decide_eq_true hb8
      obtain ⟨hl1, hl2⟩ := hlk (by omega)
      refine ws_skip rfl ?_
      refine nm_sub [(0, _), (3, _), (4, _)] ⟨rfl, rfl, rfl, trivial⟩ ?_
      refine nm_thn ?_
      refine ws_seqN mostOf_n17 mostOf_n18 rfl rfl rfl ?_
      refine ws_blockN mostOf_n19 1 rfl rfl rfl ?_
      refine ws_seqN mostOf_n20 mostOf_n21 rfl rfl rfl ?_
      refine ws_region rfl ?_
      refine wl_op (k := 0) (k' := 1) rfl rfl rfl (wo_run rfl rfl (run_move rfl rfl) ?_)
      refine wl_op (k := 1) (k' := 2) rfl rfl rfl (wo_run rfl rfl (run_move rfl rfl) ?_)
      refine wl_op (k := 2) (k' := 3) rfl rfl rfl (wo_run rfl rfl (run_indexM (C := cdInt) k rfl rfl rfl sl36 (by first | rfl | omega) hl (by first | omega | (simp only [List.length_set, List.length_append, List.length_replicate, List.length_singleton, List.length_cons, List.length_nil]; omega))) ?_)
      refine wl_op (k := 3) (k' := 4) rfl rfl rfl (wo_run rfl rfl (run_load1 rfl rfl Try.underlying3 rfl (hl.cell S1.um (i := k) (by first | omega | (simp only [List.length_set, List.length_append, List.length_replicate, List.length_singleton, List.length_cons, List.length_nil]; omega)) 0 rfl rfl)) ?_)
      refine wl_op (k := 4) (k' := 5) rfl rfl rfl (wo_run rfl rfl (run_add rfl rfl rfl (by first | omega | (simp only [List.length_set, List.length_append, List.length_replicate, List.length_singleton, List.length_cons, List.length_nil]; omega))) ?_)
      refine wl_op (k := 5) (k' := 6) rfl rfl rfl (wo_run rfl rfl (run_move rfl rfl) ?_)
      refine wl_op (k := 6) (k' := 7) rfl rfl rfl (wo_run rfl rfl (run_gtr rfl rfl rfl) ?_)
      refine wl_end rfl ?_
      refine nm_sub [(0, _), (3, _), (4, _), (17, _)] ⟨rfl, rfl, rfl, rfl, trivial⟩ ?_
      refine nm_thn ?_
      refine ws_condN mostOf_n22 mostOf_n23 rfl rfl rfl rfl (fun hb17 => ?_) (fun hb17 => ?_)
      · have hb17 := of_decide_eq_true hb17
        refine ws_region rfl ?_
        refine wl_op (k := 0) (k' := 1) rfl rfl rfl (wo_run rfl rfl (run_move rfl rfl) ?_)
        refine wl_op (k := 1) (k' := 2) rfl rfl rfl (wo_run rfl rfl (run_move rfl rfl) ?_)
        refine wl_op (k := 2) (k' := 3) rfl rfl rfl (wo_run rfl rfl (run_indexM (C := cdInt) k rfl rfl rfl sl36 (by first | rfl | omega) hl (by first | omega | (simp only [List.length_set, List.length_append, List.length_replicate, List.length_singleton, List.length_cons, List.length_nil]; omega))) ?_)
        refine wl_op (k := 3) (k' := 4) rfl rfl rfl (wo_run rfl rfl (run_load1 rfl rfl Try.underlying3 rfl (hl.cell S1.um (i := k) (by first | omega | (simp only [List.length_set, List.length_append, List.length_replicate, List.length_singleton, List.length_cons, List.length_nil]; omega)) 0 rfl rfl)) ?_)
        refine wl_op (k := 4) (k' := 5) rfl rfl rfl (wo_run rfl rfl (run_add rfl rfl rfl (by first | omega | (simp only [List.length_set, List.length_append, List.length_replicate, List.length_singleton, List.length_cons, List.length_nil]; omega))) ?_)
        refine wl_op (k := 5) (k' := 6) rfl rfl rfl (wo_run rfl rfl (run_assign rfl rfl) ?_)
        refine wl_end rfl ?_
        refine nm_blk ?_
        refine nm_sub [(0, _), (3, _), (4, _)] ⟨rfl, rfl, rfl, trivial⟩ ?_
        refine nm_thn ?_
        refine ws_region rfl ?_
        refine wl_op (k := 0) (k' := 1) rfl rfl rfl (wo_run rfl rfl (run_move rfl rfl) ?_)
        refine wl_op (k := 1) (k' := 2) rfl rfl rfl (wo_run rfl rfl (run_add rfl rfl rfl (by first | omega | (simp only [List.length_set, List.length_append, List.length_replicate, List.length_singleton, List.length_cons, List.length_nil]; omega))) ?_)
        refine wl_op (k := 2) (k' := 3) rfl rfl rfl (wo_run rfl rfl (run_assign rfl rfl) ?_)
        refine wl_end rfl ?_
        refine nm_lp ?_
        intro ax_ hax_
        refine ⟨_, ?hq2m, ⟨k + 1, _, rfl, hax_.sub ⟨rfl, rfl, rfl, trivial⟩, S1.pick [] [] (by decide) trivial, ?hq2f0, ?hq2f1, ?hq2f2⟩⟩
        case hq2f0 => omega
        case hq2f1 => (rw [mostN, ← hm]; first | rw [if_pos (by omega)] | rw [if_neg (by omega)])
        case hq2f2 => (have := hlk (by omega); omega)
        case hq2m => omega
      · have hb17 := of_decide_eq_false hb17
        refine ws_skip rfl ?_
        refine nm_blk ?_
        refine nm_sub [(0, _), (3, _), (4, _)] ⟨rfl, rfl, rfl, trivial⟩ ?_
        refine nm_thn ?_
        refine ws_region rfl ?_
        refine wl_op (k := 0) (k' := 1) rfl rfl rfl (wo_run rfl rfl (run_move rfl rfl) ?_)
        refine wl_op (k := 1) (k' := 2) rfl rfl rfl (wo_run rfl rfl (run_add rfl rfl rfl (by first | omega | (simp only [List.length_set, List.length_append, List.length_replicate, List.length_singleton, List.length_cons, List.length_nil]; omega))) ?_)
        refine wl_op (k := 2) (k' := 3) rfl rfl rfl (wo_run rfl rfl (run_assign rfl rfl) ?_)
        refine wl_end rfl ?_
        refine nm_lp ?_
        intro ax_ hax_
        refine ⟨_, ?hq3m, ⟨k + 1, _, rfl, hax_.sub ⟨rfl, rfl, rfl, trivial⟩, S1.pick [] [] (by decide) trivial, ?hq3f0, ?hq3f1, ?hq3f2⟩⟩
        case hq3f0 => omega
        case hq3f1 => (rw [mostN, ← hm]; first | rw [if_pos (by omega)] | rw [if_neg (by omega)])
        case hq3f2 => (have := hlk (by omega); omega)
        case hq3m => omega
    · have hb8 := of_decide_eq_false hb8
      refine ws_exit rfl rfl ?_
      refine nm_sub [(3, _)] ⟨rfl, trivial⟩ ?_
      refine nm_thn ?_
      refine ws_seqN mostOf_n24 mostOf_n25 rfl rfl rfl ?_
      refine ws_region rfl ?_
      refine wl_op (k := 0) (k' := 1) rfl rfl rfl (wo_run rfl rfl (run_move rfl rfl) ?_)
      refine wl_op (k := 1) (k' := 2) rfl rfl rfl (wo_run rfl rfl (run_assign rfl rfl) ?_)
      refine wl_end rfl ?_
      refine nm_sub [(2, _)] ⟨rfl, trivial⟩ ?_
      refine nm_thn ?_
      refine ws_ret hC [_] rfl rfl ⟨rfl, trivial⟩ ?_
      exact ⟨_, rfl, (S1.pick [] [] (by decide) trivial), (by obtain rfl : k = l.length := (by omega); rw [hm]; rfl)⟩
noncomputable def few_n0 : Code := Try.f35.body.getD .skip
noncomputable def few_n1 : Code := cL few_n0
noncomputable def few_n2 : Code := cR few_n0
noncomputable def few_n3 : Code := cL few_n2
noncomputable def few_n4 : Code := cR few_n2
noncomputable def few_n5 : Code := cL few_n4
noncomputable def few_n6 : Code := cR few_n4
noncomputable def few_n7 : Code := cL few_n5
noncomputable def few_n8 : Code := cR few_n5
noncomputable def few_n9 : Code := cL few_n8
noncomputable def few_n10 : Code := cR few_n8
noncomputable def few_n11 : Code := cL few_n6
noncomputable def few_n12 : Code := cR few_n6
set_option maxRecDepth 10000 in
theorem few_t {w : World} {M : Hp} {X : Fr} (d : Dg) {dcrsA : Option Addr} {dcrsc : Nat} (m : Nat) (hdcrs : RdA cdCr (M.un X.h) dcrsA dcrsc d.crs) (S : SH w M X []) : Ct Try.prog 35 [.agg [.slice dcrsA d.crs.length dcrsc, .int .i64 d.loops].toArray, .int .i64 (m : Int)] w M X (fun u _ => u = .int .i64 (errK d m)) := by
  unfold Ct
  have rmhdcrs : d.crs.length * 40 ≤ 140737488355328 := hdcrs.room
  refine calls_in (b := few_n0) Try.func35 rfl Try.ntmps35 rfl (fun C hC => ?_)
  refine ws_sub [(0, _), (1, _)] ⟨rfl, rfl, trivial⟩ ?_
  refine ws_seqN few_n1 few_n2 rfl rfl rfl ?_
  refine ws_region rfl ?_
  refine wl_op (k := 0) (k' := 1) rfl rfl rfl (wo_box (l := [_, _]) rfl rfl rfl rfl rfl S ?_)
  intro gb1 w1 S1; clear S
  refine wl_op (k := 1) (k' := 2) rfl rfl rfl (wo_run rfl rfl (run_assign rfl rfl) ?_)
  refine wl_end rfl ?_
  refine nm_sub [(1, _), (2, _)] ⟨rfl, rfl, trivial⟩ ?_
  refine nm_thn ?_
  refine ws_seqN few_n3 few_n4 rfl rfl rfl ?_
  refine ws_region rfl ?_
  refine wl_op (k := 0) (k' := 1) rfl rfl rfl (wo_run rfl rfl (run_loadN (us := [_, _]) rfl rfl Try.underlying51 rfl sz51 (S1.boxcs (i := 0) rfl ⟨rfl, rfl, trivial⟩)) ?_)
  refine wl_op (k := 1) (k' := 2) rfl rfl rfl (wo_ct rfl rfl rfl rfl rfl rfl rfl cf42 S1 (PlanarMay_t d (hdcrs.mono S1.un_XH) S1.lend) ?_)
  intro vw2 w2 M1 hle1 S2 hRw2; clear S1
  replace hdcrs := hdcrs.mono (Hp.un_mono hle1 S2.mx)
  obtain rfl := hRw2
  refine wl_op (k := 2) (k' := 3) rfl rfl rfl (wo_run rfl rfl (run_assign rfl rfl) ?_)
  refine wl_end rfl ?_
  refine nm_sub [(1, _), (2, _), (5, _)] ⟨rfl, rfl, rfl, trivial⟩ ?_
  refine nm_thn ?_
  refine ws_seqN few_n5 few_n6 rfl rfl rfl ?_
  refine ws_seqN few_n7 few_n8 rfl rfl rfl ?_
  refine ws_region rfl ?_
  refine wl_op (k := 0) (k' := 1) rfl rfl rfl (wo_run rfl rfl (run_move rfl rfl) ?_)
  refine wl_op (k := 1) (k' := 2) rfl rfl rfl (wo_run rfl rfl (run_eql rfl rfl rfl) ?_)
  refine wl_op (k := 2) (k' := 3) rfl rfl rfl (wo_run rfl rfl (run_move rfl rfl) ?_)
  refine wl_split (t := 10) rfl (fun hg10 => ?_) (fun hg10 => ?_)
  · have hg10 := of_decide_eq_true hg10
    refine wl_opG (k := 3) (k' := 4) rfl rfl ⟨_, _, _, rfl, rfl, rfl, rfl⟩ rfl (wo_run rfl rfl (run_fieldAddr rfl rfl Try.underlying51 rfl (ce49) (nf49)) ?_)
    refine wl_opG (k := 4) (k' := 5) rfl rfl ⟨_, _, _, rfl, rfl, rfl, rfl⟩ rfl (wo_run rfl rfl (run_load1 rfl rfl Try.underlying49 rfl (S2.boxc (i := 0) rfl rfl)) ?_)
    refine wl_opG (k := 5) (k' := 6) rfl rfl ⟨_, _, _, rfl, rfl, rfl, rfl⟩ rfl (wo_run rfl rfl (run_len rfl rfl rfl rfl rfl rfl Try.underlying49) ?_)
    refine wl_opG (k := 6) (k' := 7) rfl rfl ⟨_, _, _, rfl, rfl, rfl, rfl⟩ rfl (wo_run rfl rfl (run_move rfl rfl) ?_)
    refine wl_opG (k := 7) (k' := 8) rfl rfl ⟨_, _, _, rfl, rfl, rfl, rfl⟩ rfl (wo_run rfl rfl (run_gtr rfl rfl rfl) ?_)
    refine wl_op (k := 8) (k' := 9) rfl rfl rfl (wo_run rfl rfl (run_pickT rfl rfl rfl) ?_)
    refine wl_end rfl ?_
    refine nm_sub [(5, _), (16, _)] ⟨rfl, rfl, trivial⟩ ?_
    refine nm_thn ?_
    refine ws_condN few_n9 few_n10 rfl rfl rfl rfl (fun hb16 => ?_) (fun hb16 => ?_)
    · have hb16 := of_decide_eq_true hb16
      refine ws_region rfl ?_
      refine wl_op (k := 0) (k' := 1) rfl rfl rfl (wo_run rfl rfl (run_assign rfl rfl) ?_)
      refine wl_end rfl ?_
      refine nm_sub [(5, _)] ⟨rfl, trivial⟩ ?_
      refine nm_thn ?_
      refine ws_seqN few_n11 few_n12 rfl rfl rfl ?_
      refine ws_region rfl ?_
      refine wl_op (k := 0) (k' := 1) rfl rfl rfl (wo_run rfl rfl (run_move rfl rfl) ?_)
      refine wl_op (k := 1) (k' := 2) rfl rfl rfl (wo_run rfl rfl (run_assign rfl rfl) ?_)
      refine wl_end rfl ?_
      refine nm_sub [(4, _)] ⟨rfl, trivial⟩ ?_
      refine nm_thn ?_
      refine ws_ret hC [_] rfl rfl ⟨rfl, trivial⟩ ?_
      refine ⟨_, rfl, _, hle1, (S2.pick [] [] (by decide) trivial), ?_⟩
      show Value.int _ _ = _
      refine congrArg (Value.int .i64) ?_
      unfold errK
      first | (rw [if_pos (by first | omega | simp_all), if_pos (by omega)]) | (rw [if_pos (by first | omega | simp_all), if_neg (by omega)]; first | rfl | omega) | (rw [if_neg (by first | omega | simp_all)])
    · have hb16 := of_decide_eq_false hb16
      refine ws_skip rfl ?_
      refine nm_sub [(5, _)] ⟨rfl, trivial⟩ ?_
      refine nm_thn ?_
      refine ws_seqN few_n11 few_n12 rfl rfl rfl ?_
      refine ws_region rfl ?_
      refine wl_op (k := 0) (k' := 1) rfl rfl rfl (wo_run rfl rfl (run_move rfl rfl) ?_)
      refine wl_op (k := 1) (k' := 2) rfl rfl rfl (wo_run rfl rfl (run_assign rfl rfl) ?_)
      refine wl_end rfl ?_
      refine nm_sub [(4, _)] ⟨rfl, trivial⟩ ?_
      refine nm_thn ?_
      refine ws_ret hC [_] rfl rfl ⟨rfl, trivial⟩ ?_
      refine ⟨_, rfl, _, hle1, (S2.pick [] [] (by decide) trivial), ?_⟩
      show Value.int _ _ = _
      refine congrArg (Value.int .i64) ?_
      unfold errK
      first | (rw [if_pos (by first | omega | simp_all), if_pos (by omega)]) | (rw [if_pos (by first | omega | simp_all), if_neg (by omega)]; first | rfl | omega) | (rw [if_neg (by first | omega | simp_all)])
  · have hg10 := of_decide_eq_false hg10
    refine wl_no (k := 3) (k' := 4) (d := 11) rfl rfl ⟨_, _, _, rfl, rfl, rfl, rfl⟩ rfl rfl ?_
    refine wl_no (k := 4) (k' := 5) (d := 12) rfl rfl ⟨_, _, _, rfl, rfl, rfl, rfl⟩ rfl rfl ?_
    refine wl_no (k := 5) (k' := 6) (d := 13) rfl rfl ⟨_, _, _, rfl, rfl, rfl, rfl⟩ rfl rfl ?_
    refine wl_no (k := 6) (k' := 7) (d := 14) rfl rfl ⟨_, _, _, rfl, rfl, rfl, rfl⟩ rfl rfl ?_
    refine wl_no (k := 7) (k' := 8) (d := 15) rfl rfl ⟨_, _, _, rfl, rfl, rfl, rfl⟩ rfl rfl ?_
    refine wl_op (k := 8) (k' := 9) rfl rfl rfl (wo_run rfl rfl (run_pickF rfl rfl rfl) ?_)
    refine wl_end rfl ?_
    refine nm_sub [(5, _), (16, _)] ⟨rfl, rfl, trivial⟩ ?_
    refine nm_thn ?_
    refine ws_condFN few_n10 rfl rfl rfl ?_
    refine ws_skip rfl ?_
    refine nm_sub [(5, _)] ⟨rfl, trivial⟩ ?_
    refine nm_thn ?_
    refine ws_seqN few_n11 few_n12 rfl rfl rfl ?_
    refine ws_region rfl ?_
    refine wl_op (k := 0) (k' := 1) rfl rfl rfl (wo_run rfl rfl (run_move rfl rfl) ?_)
    refine wl_op (k := 1) (k' := 2) rfl rfl rfl (wo_run rfl rfl (run_assign rfl rfl) ?_)
    refine wl_end rfl ?_
    refine nm_sub [(4, _)] ⟨rfl, trivial⟩ ?_
    refine nm_thn ?_
    refine ws_ret hC [_] rfl rfl ⟨rfl, trivial⟩ ?_
    refine ⟨_, rfl, _, hle1, (S2.pick [] [] (by decide) trivial), ?_⟩
    show Value.int _ _ = _
    refine congrArg (Value.int .i64) ?_
    unfold errK
    first | (rw [if_pos (by first | omega | simp_all), if_pos (by omega)]) | (rw [if_pos (by first | omega | simp_all), if_neg (by omega)]; first | rfl | omega) | (rw [if_neg (by first | omega | simp_all)])
end Go.Proofs.Ytkcighnochjlgaa
set_option linter.unusedSimpArgs false
set_option linter.unusedVariables false
namespace Go.Proofs.Ytkcighnochjlgaa
open Go.ChangeShapes Go.WideShapes Go.ChangeAt Go.RowKit
def atX (a : List Tm) (t : Int) (i : Nat) : Prop := Int.tmod (ga a i).e 2 ≠ 0 ∧ t = -1
instance (a : List Tm) (t : Int) (i : Nat) : Decidable (atX a t i) := by unfold atX; infer_instance
end Go.Proofs.Ytkcighnochjlgaa
set_option linter.unusedSimpArgs false
set_option linter.unusedVariables false
namespace Go.Proofs.Ytkcighnochjlgaa
open Go.ChangeShapes Go.WideShapes Go.ChangeAt Go.RowKit
theorem sl94 : SlOf Try.prog 94 (cdMap 87) := ⟨.map none, Try.underlying94, by kernel_rfl, rfl, by decide, by decide⟩
end Go.Proofs.Ytkcighnochjlgaa
set_option linter.unusedSimpArgs false
set_option linter.unusedVariables false
namespace Go.Proofs.Ytkcighnochjlgaa
open Go.ChangeShapes Go.WideShapes Go.ChangeAt Go.RowKit
noncomputable def AAdd_n0 : Code := Try.f113.body.getD .skip
set_option maxHeartbeats 1000000 in
set_option maxRecDepth 10000 in
theorem AAdd_b {w : World} {M : Hp} {X : Fr} (a : Int) (ts : List Tm) {tsA : Option Addr} {tsc : Nat} {gb8 gb3 : Nat} {vr : Value} {gs : List (Option Nat)} (ps : List (Option Pol)) (ov : List Int) {oA : Option Addr} {oc : Nat} (hts : RdA cdTm (M.un X.h) tsA tsc ts) (hps : Wks (fun _ => 1) M gs ps) (hov : RdA cdInt (M.un X.h) oA oc ov) (p : Pol) (ha : 0 ≤ a ∧ a.toNat < ov.length) (hk0 : 0 ≤ ga ov a.toNat) (hk1 : (ga ov a.toNat).toNat < gs.length) (hp : ga ps (ga ov a.toNat).toNat = some p) (hbd : Bd ts 1) (S : SH w M X [Rs.bun [Rs.box gb8 94 [vr], Rs.row (cdMap 87) vr gs, Rs.box gb3 36 [.slice oA ov.length oc]]]) : C1 Try.prog 113 [.int .i64 a, .slice tsA ts.length tsc, .pointer (some ⟨gb8, 0, none⟩), .pointer (some ⟨gb3, 0, none⟩)] w M X (fun u M' r' => u = tup [] ∧ ∃ gs', gs'.length = gs.length ∧ Wks (fun _ => 1) M' gs' (ps.set (ga ov a.toNat).toNat (some (p + mk (pr ts)))) ∧ r' = Rs.bun [Rs.box gb8 94 [vr], Rs.row (cdMap 87) vr gs', Rs.box gb3 36 [.slice oA ov.length oc]]) := by
  unfold C1
  replace S := S.unbun
  have rmhts : ts.length * 16 ≤ 140737488355328 := hts.room
  have hgl := hps.1
  refine calls_in (b := AAdd_n0) Try.func113 rfl Try.ntmps113 rfl (fun C hC => ?_)
  refine ws_sub [(0, _), (1, _), (2, _), (3, _)] ⟨rfl, rfl, rfl, rfl, trivial⟩ ?_
  refine ws_draw rfl (by kernel_rfl) S 17 rfl ?_
  clear S
  refine wa_take (i := 0) (d := 6) 16 rfl (by kernel_rfl) (by kernel_rfl) (by kernel_rfl) rfl rfl rfl (fun M1 N1 w1 hle1 S1 => .inl (run_load1 rfl rfl Try.underlying94 rfl (S1.suf.boxc (i := 0) rfl rfl))) ?_
  refine wa_take (i := 1) (d := 7) 15 rfl (by kernel_rfl) (by kernel_rfl) (by kernel_rfl) rfl rfl rfl (fun M2 N2 w2 hle2 S2 => .inl (run_load1 rfl rfl Try.underlying36 rfl (S2.suf.boxc (i := 2) rfl rfl))) ?_
  refine wa_takeP (i := 2) (d := 8) 14 rfl (by kernel_rfl) (by kernel_rfl) (by kernel_rfl) rfl rfl rfl (fun w3 => run_move rfl rfl) ?_
  refine wa_take (i := 3) (d := 9) 13 rfl (by kernel_rfl) (by kernel_rfl) (by kernel_rfl) rfl rfl rfl (fun M4 N4 w4 hle4 S4 => .inl (run_indexM (C := cdInt) a.toNat rfl rfl rfl sl36 (by first | rfl | omega) (hov.mono (Hp.un_mono hle4 S4.mx)) (by first | omega | (simp only [List.length_set, List.length_append, List.length_replicate, List.length_singleton, List.length_cons, List.length_nil]; omega)))) ?_
  refine wa_take (i := 4) (d := 10) 12 rfl (by kernel_rfl) (by kernel_rfl) (by kernel_rfl) rfl rfl rfl (fun M5 N5 w5 hle5 S5 => .inl (run_load1 rfl rfl Try.underlying3 rfl ((hov.mono (Hp.un_mono hle5 S5.mx)).cell S5.um (i := a.toNat) (by first | omega | (simp only [List.length_set, List.length_append, List.length_replicate, List.length_singleton, List.length_cons, List.length_nil]; omega)) 0 rfl rfl))) ?_
  refine wa_take (i := 5) (d := 11) 11 rfl (by kernel_rfl) (by kernel_rfl) (by kernel_rfl) rfl rfl rfl (fun M6 N6 w6 hle6 S6 => .inl (run_load1 rfl rfl Try.underlying94 rfl (S6.suf.boxc (i := 0) rfl rfl))) ?_
  refine wa_take (i := 6) (d := 12) 10 rfl (by kernel_rfl) (by kernel_rfl) (by kernel_rfl) rfl rfl rfl (fun M7 N7 w7 hle7 S7 => .inl (run_load1 rfl rfl Try.underlying36 rfl (S7.suf.boxc (i := 2) rfl rfl))) ?_
  refine wa_takeP (i := 7) (d := 13) 9 rfl (by kernel_rfl) (by kernel_rfl) (by kernel_rfl) rfl rfl rfl (fun w8 => run_move rfl rfl) ?_
  refine wa_take (i := 8) (d := 14) 8 rfl (by kernel_rfl) (by kernel_rfl) (by kernel_rfl) rfl rfl rfl (fun M9 N9 w9 hle9 S9 => .inl (run_indexM (C := cdInt) a.toNat rfl rfl rfl sl36 (by first | rfl | omega) (hov.mono (Hp.un_mono hle9 S9.mx)) (by first | omega | (simp only [List.length_set, List.length_append, List.length_replicate, List.length_singleton, List.length_cons, List.length_nil]; omega)))) ?_
  refine wa_take (i := 9) (d := 15) 7 rfl (by kernel_rfl) (by kernel_rfl) (by kernel_rfl) rfl rfl rfl (fun M10 N10 w10 hle10 S10 => .inl (run_load1 rfl rfl Try.underlying3 rfl ((hov.mono (Hp.un_mono hle10 S10.mx)).cell S10.um (i := a.toNat) (by first | omega | (simp only [List.length_set, List.length_append, List.length_replicate, List.length_singleton, List.length_cons, List.length_nil]; omega)) 0 rfl rfl))) ?_
  refine wa_take (i := 10) (d := 16) 6 rfl (by kernel_rfl) (by kernel_rfl) (by kernel_rfl) rfl rfl rfl (fun M11 N11 w11 hle11 S11 => .inl (run_indexR (C := (cdMap 87)) (i := 1) ((ga ov a.toNat).toNat) rfl rfl rfl sl94 S11.suf rfl (by first | rfl | omega) (by first | omega | (simp only [List.length_set, List.length_append, List.length_replicate, List.length_singleton, List.length_cons, List.length_nil]; omega)))) ?_
  obtain ⟨gw1, eg1, hw1⟩ := hps.get (i := (ga ov a.toNat).toNat) (p := p) (by first | omega | (simp only [List.length_set, List.length_append, List.length_replicate, List.length_singleton, List.length_cons, List.length_nil]; omega)) (hp)
  replace hw1 : Wk _ gw1 1 p := hw1
  refine wa_take (i := 11) (d := 17) 5 rfl (by kernel_rfl) (by kernel_rfl) (by kernel_rfl) rfl rfl rfl (fun M12 N12 w12 hle12 S12 => .inl (run_load1 rfl rfl Try.underlying87 rfl (S12.suf.rowc (i := 1) (e := (ga ov a.toNat).toNat) (j := 0) rfl (by first | omega | (simp only [List.length_set, List.length_append, List.length_replicate, List.length_singleton, List.length_cons, List.length_nil]; omega)) rfl (congrArg (fun n => some (Value.map n)) eg1)))) ?_
  refine wa_takeP (i := 12) (d := 18) 4 rfl (by kernel_rfl) (by kernel_rfl) (by kernel_rfl) rfl rfl rfl (fun w13 => run_move rfl rfl) ?_
  refine wa_only (i := 13) 3 rfl (by kernel_rfl) rfl rfl (fun w15 S15 => ?_)
  refine (wo_ct rfl rfl rfl rfl rfl rfl rfl cf75 S15 (Of_t ts (hts.mono S15.un_XH) 1 hbd S15.lend) ?_)
  intro vw16 w16 M15 hle15 S16 hRw16; clear S15
  replace hts := hts.mono (Hp.un_mono hle15 S16.mx)
  replace hps := hps.mono hle15
  replace hov := hov.mono (Hp.un_mono hle15 S16.mx)
  replace hw1 := hw1.mono hle15
  obtain ⟨gw2, rfl, hw2⟩ := hRw16
  refine LeftW.grow [] (hle15) S16 ?_; clear S16
  change WA _ _ _ _ _ _ _ _ _ _ _ _ [_, _, _]
  refine wa_base ?_
  refine wa_only (i := 14) 2 rfl (by kernel_rfl) rfl rfl (fun w18 S18 => ?_)
  refine (wo_ct rfl rfl rfl rfl rfl rfl rfl cf60 S18 (PlusW_t hw1 hw2 1 (by omega) (by omega) (by omega) S18.lend) ?_)
  intro vw19 w19 M17 hle17 S19 hRw19; clear S18
  replace hts := hts.mono (Hp.un_mono hle17 S19.mx)
  replace hps := hps.mono hle17
  replace hov := hov.mono (Hp.un_mono hle17 S19.mx)
  replace hw1 := hw1.mono hle17
  replace hw2 := hw2.mono hle17
  obtain ⟨gw3, rfl, hw3⟩ := hRw19
  refine LeftW.grow [] (hle17) S19 ?_; clear S19
  change WA _ _ _ _ _ _ _ _ _ _ _ _ [_, _, _]
  refine wa_base ?_
  refine wa_take (i := 15) (d := 21) 1 rfl (by kernel_rfl) (by kernel_rfl) (by kernel_rfl) rfl rfl rfl (fun M18 N16 w20 hle18 S20 => .inl (run_indexR (C := (cdMap 87)) (i := 1) ((ga ov a.toNat).toNat) rfl rfl rfl sl94 S20.suf rfl (by first | rfl | omega) (by first | omega | (simp only [List.length_set, List.length_append, List.length_replicate, List.length_singleton, List.length_cons, List.length_nil]; omega)))) ?_
  refine wa_only (i := 16) 0 rfl (by kernel_rfl) rfl rfl (fun w22 S22 => ?_)
  refine (wo_storeR (C := (cdMap 87)) (i := 1) (e := (ga ov a.toNat).toNat) (j := 0) (us := [_]) (H' := [_, _, _]) (some gw3) rfl rfl S22 rfl (by first | omega | (simp only [List.length_set, List.length_append, List.length_replicate, List.length_singleton, List.length_cons, List.length_nil]; omega)) rfl rfl rfl sz87 rfl rfl rfl rfl ?_)
  intro w24 S24; clear S22
  have hd1 := hps.set_ (i := (ga ov a.toNat).toNat) (hw3.up (by exact Nat.le_refl _)) (by first | omega | (simp only [List.length_set, List.length_append, List.length_replicate, List.length_singleton, List.length_cons, List.length_nil]; omega))
  refine LeftW.turn (by kernel_rfl) S24 ?_; clear S24
  change WA _ _ _ _ _ _ _ _ _ _ _ _ [_, _, _]
  refine wa_end (by kernel_rfl) (fun w25 S25 => ?_)
  refine nm_end hC [] rfl trivial ?_
  refine ⟨_, rfl, _, _, hle15.trans hle17, (S25.pick [0, 1, 2] [_, _, _] (by decide) ⟨rfl, rfl, rfl, trivial⟩).bun, ?_⟩
  exact ⟨rfl, _, by simp, hd1, rfl⟩
/-- A row of classes, as the row of the lists that the document puts together. -/
def fW (l : List Tm) : Option Pol := some (mk (pr l))
def putA (L : List (List Tm)) (k : Nat) (e c : Int) : List (List Tm) := L.set k (put (ga L k) e c)
theorem putA_len (L : List (List Tm)) (k : Nat) (e c : Int) : (putA L k e c).length = L.length := by simp [putA]
theorem putA_map (L : List (List Tm)) (k : Nat) (e c : Int) : (L.map fW).set k (some (mk (pr (ga L k)) + mk (pr [⟨e, c⟩]))) = (putA L k e c).map fW := by
  unfold putA
  rw [List.map_set]
  refine congrArg _ ?_
  unfold fW
  rw [mk_put]; rfl
theorem putA_map2 (L : List (List Tm)) (k : Nat) (h : k < L.length) (e c e2 c2 : Int) : (L.map fW).set k (some (mk (pr (ga L k)) + mk (pr [⟨e, c⟩, ⟨e2, c2⟩]))) = (putA (putA L k e c) k e2 c2).map fW := by
  unfold putA
  rw [ga_set _ _ _ _ h, if_pos rfl, List.set_set, List.map_set]
  refine congrArg _ ?_
  unfold fW
  rw [mk_put, mk_put, Pol.add_assoc]; rfl
theorem fW_ga (L : List (List Tm)) {k : Nat} (h : k < L.length) : ga (L.map fW) k = some (mk (pr (ga L k))) := by rw [ga_map _ _ _ h]; rfl
def kO (d : Dg) (a : Int) : Nat := (ovA d a.toNat).toNat
def inA (x : Cr) : Int := if x.plus = true then x.a else x.c
def toA (x : Cr) : Int := if x.plus = true then x.c else x.a
def mny (d : Dg) : Nat := (rk d (2 * d.crs.length + 1)).toNat
def row1 (d : Dg) (i : Nat) : List (List Tm) := putA (List.replicate (mny d) []) (kO d (toA (ga d.crs i))) 0 1
def row2 (d : Dg) (i : Nat) : List (List Tm) := putA (row1 d i) (kO d (inA (ga d.crs i))) 1 (-1)
def rowL (d : Dg) (i : Nat) : List (List Tm) := putA (putA (row2 d i) (kO d (ga d.crs i).b) 1 1) (kO d (ga d.crs i).b) 0 (-1)
theorem row1_len (d : Dg) (i : Nat) : (row1 d i).length = mny d := by unfold row1; rw [putA_len, List.length_replicate]
theorem row2_len (d : Dg) (i : Nat) : (row2 d i).length = mny d := by unfold row2; rw [putA_len, row1_len]
theorem rowL_len (d : Dg) (i : Nat) : (rowL d i).length = mny d := by unfold rowL; rw [putA_len, putA_len, row2_len]
def tblA (d : Dg) : List (List (List Tm)) := (List.range d.crs.length).map (rowL d)
theorem bdT {l : List Tm} (h : ∀ t ∈ l, t.e = 0 ∨ t.e = 1) : Bd l 1 := fun t ht => by have := h t ht; omega
theorem kO_ok {d : Dg} (h : arcsB d = true) {a : Int} (ha : 1 ≤ a ∧ a ≤ 2 * (d.crs.length : Int)) : 0 ≤ a ∧ a.toNat < (oversL d).length ∧ 0 ≤ ga (oversL d) a.toNat ∧ (ga (oversL d) a.toNat).toNat = kO d a ∧ kO d a < mny d := by
  have h1 := ov_lt h (a := a.toNat) (by omega) (by omega)
  rw [oversL_len, oversL_ga d (by omega)]
  refine ⟨by omega, by omega, h1.1, rfl, ?_⟩
  unfold kO mny
  omega
theorem rep_set {α : Type} (x y : α) (j n : Nat) (h : j < n) : (List.replicate j x ++ List.replicate (n - j) y).set j x = List.replicate (j + 1) x ++ List.replicate (n - (j + 1)) y := by
  rw [List.set_append_right _ _ (by simp), List.length_replicate, Nat.sub_self, show n - j = (n - (j + 1)) + 1 by omega, List.replicate_succ, List.set_cons_zero, List.replicate_succ', List.append_assoc]
  simp
theorem rep_fW (m : Nat) : List.replicate m (some Pol.o) = (List.replicate m ([] : List Tm)).map fW := by rw [List.map_replicate]; rfl
noncomputable def ATable_n0 : Code := Try.f78.body.getD .skip
noncomputable def ATable_n1 : Code := cL ATable_n0
noncomputable def ATable_n2 : Code := cR ATable_n0
noncomputable def ATable_n3 : Code := cL ATable_n2
noncomputable def ATable_n4 : Code := cR ATable_n2
noncomputable def ATable_n5 : Code := cL ATable_n4
noncomputable def ATable_n6 : Code := cR ATable_n4
noncomputable def ATable_n7 : Code := cL ATable_n6
noncomputable def ATable_n8 : Code := cR ATable_n6
noncomputable def ATable_n9 : Code := cL ATable_n7
noncomputable def ATable_n10 : Code := cR ATable_n7
noncomputable def ATable_n11 : Code := cL ATable_n10
noncomputable def ATable_n12 : Code := cL ATable_n11
noncomputable def ATable_n13 : Code := cL ATable_n12
noncomputable def ATable_n14 : Code := cR ATable_n12
noncomputable def ATable_n15 : Code := cL ATable_n14
noncomputable def ATable_n16 : Code := cR ATable_n14
noncomputable def ATable_n17 : Code := cL ATable_n15
noncomputable def ATable_n18 : Code := cR ATable_n15
noncomputable def ATable_n19 : Code := cL ATable_n16
noncomputable def ATable_n20 : Code := cR ATable_n16
noncomputable def ATable_n21 : Code := cL ATable_n19
noncomputable def ATable_n22 : Code := cL ATable_n21
noncomputable def ATable_n23 : Code := cR ATable_n21
noncomputable def ATable_n24 : Code := cL ATable_n23
noncomputable def ATable_n25 : Code := cR ATable_n23
noncomputable def ATable_n26 : Code := cL ATable_n25
noncomputable def ATable_n27 : Code := cR ATable_n25
noncomputable def ATable_n28 : Code := cL ATable_n26
noncomputable def ATable_n29 : Code := cR ATable_n26
noncomputable def ATable_n30 : Code := cL ATable_n29
noncomputable def ATable_n31 : Code := cL ATable_n30
noncomputable def ATable_n32 : Code := cL ATable_n31
noncomputable def ATable_n33 : Code := cR ATable_n31
noncomputable def ATable_n34 : Code := cL ATable_n33
noncomputable def ATable_n35 : Code := cR ATable_n33
noncomputable def ATable_n36 : Code := cL ATable_n34
noncomputable def ATable_n37 : Code := cR ATable_n34
noncomputable def ATable_n38 : Code := cL ATable_n35
noncomputable def ATable_n39 : Code := cR ATable_n35
noncomputable def ATable_n40 : Code := cL ATable_n38
noncomputable def ATable_n41 : Code := cL ATable_n40
noncomputable def ATable_n42 : Code := cR ATable_n40
noncomputable def ATable_n43 : Code := cL ATable_n27
noncomputable def ATable_n44 : Code := cR ATable_n27
noncomputable def ATable_n45 : Code := cL ATable_n44
noncomputable def ATable_n46 : Code := cR ATable_n44
noncomputable def ATable_n47 : Code := cL ATable_n46
noncomputable def ATable_n48 : Code := cR ATable_n46
noncomputable def ATable_n49 : Code := cL ATable_n47
noncomputable def ATable_n50 : Code := cR ATable_n47
noncomputable def ATable_n51 : Code := cL ATable_n50
noncomputable def ATable_n52 : Code := cR ATable_n50
noncomputable def ATable_n53 : Code := cL ATable_n48
noncomputable def ATable_n54 : Code := cR ATable_n48
noncomputable def ATable_n55 : Code := cL ATable_n54
noncomputable def ATable_n56 : Code := cR ATable_n54
noncomputable def ATable_n57 : Code := cL ATable_n56
noncomputable def ATable_n58 : Code := cR ATable_n56
noncomputable def ATable_n59 : Code := cL ATable_n8
noncomputable def ATable_n60 : Code := cR ATable_n8
set_option maxHeartbeats 1000000 in
set_option maxRecDepth 10000 in
theorem ATable_t {w : World} {M : Hp} {X : Fr} (d : Dg) {gsh : Nat} {cA iA oA : Option Addr} {cc ic oc : Nat} (hsb : BxM M gsh 114 [.slice cA d.crs.length cc, .int .i64 d.loops, .slice iA (tabL d false (4 * d.crs.length)).length ic, .slice oA (tabL d true (4 * d.crs.length)).length oc]) (hsc : RdA cdCr M cA cc d.crs) (hsi : RdA cdPl M iA ic (tabL d false (4 * d.crs.length))) (hso : RdA cdPl M oA oc (tabL d true (4 * d.crs.length))) (hn : d.crs.length ≤ 10) (hab : arcsB d = true) (S : SH w M X []) : Ct Try.prog 78 [.pointer (some ⟨gsh, 0, none⟩)] w M X (fun u N => ∃ A c wv wg, u = .slice A wv.length c ∧ RdA (cdV 94) N A c wv ∧ Rd2 (cdMap 87) N wv wg ∧ WksA (fun _ => 1) N wg ((tblA d).map fun r => r.map fW)) := by
  unfold Ct
  refine calls_in (b := ATable_n0) Try.func78 rfl Try.ntmps78 rfl (fun C hC => ?_)
  refine ws_sub [(0, _)] ⟨rfl, trivial⟩ ?_
  refine ws_seqN ATable_n1 ATable_n2 rfl rfl rfl ?_
  refine ws_region rfl ?_
  refine wl_op (k := 0) (k' := 1) rfl rfl rfl (wo_run rfl rfl (run_assign rfl rfl) ?_)
  refine wl_end rfl ?_
  refine nm_sub [(0, _)] ⟨rfl, trivial⟩ ?_
  refine nm_thn ?_
  refine ws_seqN ATable_n3 ATable_n4 rfl rfl rfl ?_
  refine ws_region rfl ?_
  refine wl_op (k := 0) (k' := 1) rfl rfl rfl (wo_run rfl rfl (run_move rfl rfl) ?_)
  refine wl_op (k := 1) (k' := 2) rfl rfl rfl (wo_ct rfl rfl rfl rfl rfl rfl rfl cf83 S (Passes_t d (hsb.mono (Hp.le_un _ _)) (hsc.mono (Hp.le_un _ _)) (hsi.mono (Hp.le_un _ _)) (hso.mono (Hp.le_un _ _)) (by omega) hab S.lend) ?_)
  intro vw1 w1 M1 hle1 S1 hRw1; clear S
  replace hsb := hsb.mono hle1
  replace hsc := hsc.mono hle1
  replace hsi := hsi.mono hle1
  replace hso := hso.mono hle1
  obtain ⟨A1, c1, rfl, hr1⟩ := hRw1
  have hovl := oversL_len d
  refine wl_op (k := 2) (k' := 3) rfl rfl rfl (wo_run rfl rfl (run_move rfl rfl) ?_)
  refine wl_op (k := 3) (k' := 4) rfl rfl rfl (wo_run rfl rfl (run_extract rfl rfl rfl) ?_)
  refine wl_op (k := 4) (k' := 5) rfl rfl rfl (wo_run rfl rfl (run_extract rfl rfl rfl) ?_)
  refine wl_op (k := 5) (k' := 6) rfl rfl rfl (wo_alloc (l := [_]) rfl rfl rfl zr36 rfl S1 ?_)
  intro gb1 w2 S2; clear S1
  refine wl_op (k := 6) (k' := 7) rfl rfl rfl (wo_storeB (i := 0) (us := [_]) (l' := [_]) (H' := [_]) rfl rfl S2 rfl rfl rfl rfl sz36 rfl rfl rfl rfl ?_)
  intro w3 S3; clear S2
  refine wl_op (k := 7) (k' := 8) rfl rfl rfl (wo_run rfl rfl (run_assign rfl rfl) ?_)
  refine wl_end rfl ?_
  refine nm_sub [(0, _), (3, _), (4, _)] ⟨rfl, rfl, rfl, trivial⟩ ?_
  refine nm_thn ?_
  refine ws_seqN ATable_n5 ATable_n6 rfl rfl rfl ?_
  have hmb := rk_bd d (2 * d.crs.length + 1)
  have hmn : rk d (2 * d.crs.length + 1) = (mny d : Int) := by unfold mny; omega
  refine ws_eq 4 (.int .i64 (mny d : Int)) rfl (int_eq hmn) ?_
  refine ws_region rfl ?_
  refine wl_op (k := 0) (k' := 1) rfl rfl rfl (wo_run rfl rfl (run_assign rfl rfl) ?_)
  refine wl_end rfl ?_
  refine nm_sub [(0, _), (3, _), (4, _), (5, _)] ⟨rfl, rfl, rfl, rfl, trivial⟩ ?_
  refine nm_thn ?_
  refine ws_seqN ATable_n7 ATable_n8 rfl rfl rfl ?_
  refine ws_seqN ATable_n9 ATable_n10 rfl rfl rfl ?_
  refine ws_region rfl ?_
  refine wl_op (k := 0) (k' := 1) rfl rfl rfl (wo_run rfl rfl (run_move rfl rfl) ?_)
  refine wl_op (k := 1) (k' := 2) rfl rfl rfl (wo_run rfl rfl (run_nilCheck rfl rfl) ?_)
  refine wl_op (k := 2) (k' := 3) rfl rfl rfl (wo_run rfl rfl (run_fieldAddr rfl rfl Try.underlying114 rfl (ce51) (nf51)) ?_)
  refine wl_op (k := 3) (k' := 4) rfl rfl rfl (wo_run rfl rfl (run_fieldAddr rfl rfl Try.underlying51 rfl (ce49) (nf49)) ?_)
  refine wl_op (k := 4) (k' := 5) rfl rfl rfl (wo_run rfl rfl (run_load1 rfl rfl Try.underlying49 rfl (hsb.cell S3.m rfl)) ?_)
  refine wl_op (k := 5) (k' := 6) rfl rfl rfl (wo_run rfl rfl (run_len rfl rfl rfl rfl rfl rfl Try.underlying49) ?_)
  refine wl_op (k := 6) (k' := 7) rfl rfl rfl (wo_run rfl rfl (run_move rfl rfl) ?_)
  refine wl_end rfl ?_
  refine nm_sub [(3, _), (4, _), (5, _), (22, _), (23, _), (24, _)] ⟨rfl, rfl, rfl, rfl, rfl, rfl, trivial⟩ ?_
  refine nm_thn ?_
  refine ws_blockN ATable_n11 0 rfl rfl rfl ?_
  have S4 := S3.nilrow (cdV 94); clear S3
  refine ws_loopE (fun mx_ ax_ wx_ => ∃ (i : Nat) (wv : List SlV) (wg : List (List (Option Nat))) (wp : List (List (Option Pol))) (vro : Value) (M2 : Hp), M1.le M2 ∧ mx_ = d.crs.length - i ∧ Env 73 [(3, .pointer (some ⟨gb1, 0, none⟩)), (4, .int .i64 (mny d : Int)), (5, vro), (22, .slice cA d.crs.length cc), (23, .int .i64 (d.crs.length : Int)), (24, .int .i64 (i : Int))] ax_ ∧ SH wx_ M2 X [Rs.row (cdV 94) vro wv, Rs.box gb1 36 [.slice A1 (oversL d).length c1]] ∧ i ≤ d.crs.length ∧ wp = ((List.range d.crs.length).take i).map (fun q => (rowL d q).map fW) ∧ Rd2 (cdMap 87) M2 wv wg ∧ WksA (fun _ => 1) M2 wg wp) rfl ?_ ?_
  · intro ax_ hax_
    refine ⟨_, ⟨0, _, ([]), ([]), _, _, Hp.le_refl _, rfl, hax_.sub ⟨rfl, rfl, rfl, rfl, rfl, rfl, trivial⟩, S4.pick [0, 1] [_, _] (by decide) ⟨rfl, rfl, trivial⟩, ?hq1f0, ?hq1f1, ?hq1f2, ?hq1f3⟩⟩
    case hq1f0 => omega
    case hq1f1 => rfl
    case hq1f2 => exact Rd2.nil_
    case hq1f3 => exact (WksA.nil_ _ _)
  · rintro m1 a1 w4 ⟨i, wv, wg, wp, vro, M2, hle2, rfl, he1, S5, hi, hwp, hw2, hw3⟩
    clear S4
    refine ws_in he1 (c := ATable_n12) rfl ?_
    clear he1 a1
    replace hsb := hsb.mono hle2
    replace hsc := hsc.mono hle2
    replace hsi := hsi.mono hle2
    replace hso := hso.mono hle2
    replace hr1 := hr1.mono hle2
    have hw21 := hw2.1
    have hw31 := hw3.1
    have hwl : wp.length = i := by rw [hwp, List.length_map, List.length_take, List.length_range]; omega
    have hba := fun h => arcAt_bd hab (i := i) h (k := 0) (by omega)
    have hbb := fun h => arcAt_bd hab (i := i) h (k := 1) (by omega)
    have hbc := fun h => arcAt_bd hab (i := i) h (k := 2) (by omega)
    refine ws_seqN ATable_n13 ATable_n14 rfl rfl rfl ?_
    refine ws_region rfl ?_
    refine wl_op (k := 0) (k' := 1) rfl rfl rfl (wo_run rfl rfl (run_lss rfl rfl rfl) ?_)
    refine wl_end rfl ?_
    refine nm_thn ?_
    refine ws_seqN ATable_n15 ATable_n16 rfl rfl rfl ?_
    refine ws_condN ATable_n17 ATable_n18 rfl rfl rfl rfl (fun hb25 => ?_) (fun hb25 => ?_)
    · have hb25 := of_decide_eq_true hb25
      refine ws_skip rfl ?_
      refine nm_sub [(3, _), (4, _), (5, _), (22, _), (23, _), (24, _)] ⟨rfl, rfl, rfl, rfl, rfl, rfl, trivial⟩ ?_
      refine nm_thn ?_
      refine ws_seqN ATable_n19 ATable_n20 rfl rfl rfl ?_
      refine ws_blockN ATable_n21 1 rfl rfl rfl ?_
      refine ws_seqN ATable_n22 ATable_n23 rfl rfl rfl ?_
      refine ws_region rfl ?_
      refine wl_op (k := 0) (k' := 1) rfl rfl rfl (wo_run rfl rfl (run_indexM (C := cdCr) i rfl rfl rfl sl49 (by first | rfl | omega) hsc (by first | omega | (simp only [List.length_set, List.length_append, List.length_replicate, List.length_singleton, List.length_cons, List.length_nil]; omega))) ?_)
      refine wl_op (k := 1) (k' := 2) rfl rfl rfl (wo_run rfl rfl (run_loadN (us := [_, _, _, _, _]) rfl rfl Try.underlying111 rfl sz111 (hsc.cellsAt S5.m (e := i) (by first | omega | (simp only [List.length_set, List.length_append, List.length_replicate, List.length_singleton, List.length_cons, List.length_nil]; omega)) (j := 0) ⟨rfl, rfl, rfl, rfl, rfl, trivial⟩)) ?_)
      refine wl_op (k := 2) (k' := 3) rfl rfl rfl (wo_alloc (l := [_, _, _, _, _]) rfl rfl rfl zr111 rfl S5 ?_)
      intro gb2 w5 S6; clear S5
      refine wl_op (k := 3) (k' := 4) rfl rfl rfl (wo_storeB (i := 0) (us := [_, _, _, _, _]) (l' := [_, _, _, _, _]) (H' := [_, _, _]) rfl rfl S6 rfl rfl rfl rfl sz111 rfl rfl rfl rfl ?_)
      intro w6 S7; clear S6
      refine wl_end rfl ?_
      refine nm_sub [(3, _), (4, _), (5, _), (22, _), (23, _), (24, _), (7, _)] ⟨rfl, rfl, rfl, rfl, rfl, rfl, rfl, trivial⟩ ?_
      refine nm_thn ?_
      refine ws_seqN ATable_n24 ATable_n25 rfl rfl rfl ?_
      refine ws_region rfl ?_
      refine wl_op (k := 0) (k' := 1) rfl rfl rfl (wo_run rfl rfl (run_move rfl rfl) ?_)
      refine wl_op (k := 1) (k' := 2) rfl rfl rfl (wo_make (C := (cdMap 87)) (mny d) rfl rfl rfl rfl rfl sl94 (by first | rfl | omega) (by show _ * 8 ≤ _; first | omega | (simp only [List.length_set, List.length_append, List.length_replicate, List.length_singleton, List.length_cons, List.length_nil]; omega)) S7 ?_)
      intro vr2 w7 S8; clear S7
      have hd1 : Wks (fun _ => 1) M2 (List.replicate (mny d) ((cdMap 87)).z) (List.replicate (mny d) none) := Wks.rep _ _ _
      refine wl_op (k := 2) (k' := 3) rfl rfl rfl (wo_alloc (l := [_]) rfl rfl rfl zr94 rfl S8 ?_)
      intro gb3 w8 S9; clear S8
      refine wl_op (k := 3) (k' := 4) rfl rfl rfl (wo_storeB (i := 0) (us := [_]) (l' := [_]) (H' := [_, _, _, _, _]) rfl rfl S9 rfl rfl rfl (S9.cells1 (i := 1) rfl) sz94 rfl (ones_cons (S9.one (i := 1) rfl) rfl) rfl rfl ?_)
      intro w9 S10; clear S9
      refine wl_end rfl ?_
      refine nm_sub [(3, _), (4, _), (5, _), (22, _), (23, _), (24, _), (7, _), (8, _)] ⟨rfl, rfl, rfl, rfl, rfl, rfl, rfl, rfl, trivial⟩ ?_
      refine nm_thn ?_
      refine ws_seqN ATable_n26 ATable_n27 rfl rfl rfl ?_
      refine ws_seqN ATable_n28 ATable_n29 rfl rfl rfl ?_
      refine ws_region rfl ?_
      refine wl_op (k := 0) (k' := 1) rfl rfl rfl (wo_run rfl rfl (run_load1 rfl rfl Try.underlying94 rfl (S10.boxc (i := 0) rfl rfl)) ?_)
      refine wl_op (k := 1) (k' := 2) rfl rfl rfl (wo_run rfl rfl (run_lenR (C := (cdMap 87)) (i := 1) rfl rfl rfl rfl rfl rfl sl94 S10 rfl) ?_)
      refine wl_eq 31 (.int .i64 (mny d : Int)) rfl (int_eq (by rw [List.length_replicate])) ?_
      refine wl_op (k := 2) (k' := 3) rfl rfl rfl (wo_run rfl rfl (run_move rfl rfl) ?_)
      refine wl_end rfl ?_
      refine nm_sub [(3, _), (4, _), (5, _), (22, _), (23, _), (24, _), (7, _), (8, _), (31, _), (32, _)] ⟨rfl, rfl, rfl, rfl, rfl, rfl, rfl, rfl, rfl, rfl, trivial⟩ ?_
      refine nm_thn ?_
      refine ws_blockN ATable_n30 2 rfl rfl rfl ?_
      refine ws_loopE (fun mx_ ax_ wx_ => ∃ (j : Nat) (lg : List (Option Nat)) (lp : List (Option Pol)) (vrl : Value) (M3 : Hp), M2.le M3 ∧ mx_ = mny d - j ∧ Env 73 [(3, .pointer (some ⟨gb1, 0, none⟩)), (4, .int .i64 (mny d : Int)), (5, vro), (22, .slice cA d.crs.length cc), (23, .int .i64 (d.crs.length : Int)), (24, .int .i64 (i : Int)), (7, .pointer (some ⟨gb2, 0, none⟩)), (8, .pointer (some ⟨gb3, 0, none⟩)), (31, .int .i64 (mny d : Int)), (32, .int .i64 (j : Int))] ax_ ∧ SH wx_ M3 X [Rs.box gb3 94 [vrl], Rs.row (cdMap 87) vrl lg, Rs.box gb2 111 [.int .i64 ((ga d.crs i).a), .int .i64 ((ga d.crs i).b), .int .i64 ((ga d.crs i).c), .int .i64 ((ga d.crs i).d), .bool ((ga d.crs i).plus)], Rs.row (cdV 94) vro wv, Rs.box gb1 36 [.slice A1 (oversL d).length c1]] ∧ j ≤ mny d ∧ lp = List.replicate j (some Pol.o) ++ List.replicate (mny d - j) none ∧ Wks (fun _ => 1) M3 lg lp) rfl ?_ ?_
      · intro ax_ hax_
        refine ⟨_, ⟨0, _, (List.replicate (mny d) none), _, _, Hp.le_refl _, rfl, hax_.sub ⟨rfl, rfl, rfl, rfl, rfl, rfl, rfl, rfl, rfl, rfl, trivial⟩, S10.pick [0, 1, 2, 3, 4] [_, _, _, _, _] (by decide) ⟨rfl, rfl, rfl, rfl, rfl, trivial⟩, ?hq2f0, ?hq2f1, ?hq2f2⟩⟩
        case hq2f0 => omega
        case hq2f1 => simp
        case hq2f2 => exact hd1
      · rintro m2 a2 w10 ⟨j, lg, lp, vrl, M3, hle3, rfl, he2, S11, hj, hlp, hl2⟩
        clear S10
        refine ws_in he2 (c := ATable_n31) rfl ?_
        clear he2 a2
        replace hsb := hsb.mono hle3
        replace hsc := hsc.mono hle3
        replace hsi := hsi.mono hle3
        replace hso := hso.mono hle3
        replace hr1 := hr1.mono hle3
        replace hw2 := hw2.mono hle3
        replace hw3 := hw3.mono hle3
        replace hd1 := hd1.mono hle3
        have hl21 := hl2.1
        have hll : lp.length = mny d := by rw [hlp]; simp; omega
        refine ws_seqN ATable_n32 ATable_n33 rfl rfl rfl ?_
        refine ws_region rfl ?_
        refine wl_op (k := 0) (k' := 1) rfl rfl rfl (wo_run rfl rfl (run_lss rfl rfl rfl) ?_)
        refine wl_end rfl ?_
        refine nm_thn ?_
        refine ws_seqN ATable_n34 ATable_n35 rfl rfl rfl ?_
        refine ws_condN ATable_n36 ATable_n37 rfl rfl rfl rfl (fun hb33 => ?_) (fun hb33 => ?_)
        · have hb33 := of_decide_eq_true hb33
          refine ws_skip rfl ?_
          refine nm_sub [(3, _), (4, _), (5, _), (22, _), (23, _), (24, _), (7, _), (8, _), (31, _), (32, _)] ⟨rfl, rfl, rfl, rfl, rfl, rfl, rfl, rfl, rfl, rfl, trivial⟩ ?_
          refine nm_thn ?_
          refine ws_seqN ATable_n38 ATable_n39 rfl rfl rfl ?_
          refine ws_blockN ATable_n40 3 rfl rfl rfl ?_
          refine ws_seqN ATable_n41 ATable_n42 rfl rfl rfl ?_
          refine ws_region rfl ?_
          refine wl_op (k := 0) (k' := 1) rfl rfl rfl (wo_run rfl rfl (run_move rfl rfl) ?_)
          refine wl_op (k := 1) (k' := 2) rfl rfl rfl (wo_run rfl rfl (run_assign rfl rfl) ?_)
          refine wl_end rfl ?_
          refine nm_sub [(3, _), (4, _), (5, _), (22, _), (23, _), (24, _), (7, _), (8, _), (31, _), (32, _), (9, _)] ⟨rfl, rfl, rfl, rfl, rfl, rfl, rfl, rfl, rfl, rfl, rfl, trivial⟩ ?_
          refine nm_thn ?_
          refine ws_region rfl ?_
          refine wl_op (k := 0) (k' := 1) rfl rfl rfl (wo_run rfl rfl (run_load1 rfl rfl Try.underlying94 rfl (S11.boxc (i := 0) rfl rfl)) ?_)
          refine wl_op (k := 1) (k' := 2) rfl rfl rfl (wo_run rfl rfl (run_move rfl rfl) ?_)
          refine wl_op (k := 2) (k' := 3) rfl rfl rfl (wo_makeMap Int Int (Value.int .i64) (Value.int .i64) rfl rfl rfl S11 ?_)
          intro gm3 w11 S12; clear S11
          refine wl_op (k := 3) (k' := 4) rfl rfl rfl (wo_run rfl rfl (run_indexR (C := (cdMap 87)) (i := 2) j rfl rfl rfl sl94 S12 rfl (by first | rfl | omega) (by first | omega | (simp only [List.length_set, List.length_append, List.length_replicate, List.length_singleton, List.length_cons, List.length_nil]; omega))) ?_)
          obtain ⟨M4, hle4, S14, hm1⟩ := S12.pubmap (i := 0) (H' := [_, _, _, _, _, _]) rfl rfl; clear S12
          replace hsb := hsb.mono hle4
          replace hsc := hsc.mono hle4
          replace hsi := hsi.mono hle4
          replace hso := hso.mono hle4
          replace hr1 := hr1.mono hle4
          replace hw2 := hw2.mono hle4
          replace hw3 := hw3.mono hle4
          replace hd1 := hd1.mono hle4
          replace hl2 := hl2.mono hle4
          have hw1 : Wk M4 gm3 (0) (mk ([])) := ⟨_, hm1, (Ents.nil_ 0), rfl⟩
          have hw2 : Wk M4 gm3 0 Pol.o := by rw [show Pol.o = (mk ([])) from rfl]; exact hw1
          refine wl_op (k := 4) (k' := 5) rfl rfl rfl (wo_storeR (C := (cdMap 87)) (i := 2) (e := j) (j := 0) (us := [_]) (H' := [_, _, _, _, _, _]) (some gm3) rfl rfl S14 rfl (by first | omega | (simp only [List.length_set, List.length_append, List.length_replicate, List.length_singleton, List.length_cons, List.length_nil]; omega)) rfl rfl rfl sz87 rfl rfl rfl rfl ?_)
          intro w13 S15; clear S14
          have hd2 := hl2.set_ (i := j) (hw2.up (by omega)) (by first | omega | (simp only [List.length_set, List.length_append, List.length_replicate, List.length_singleton, List.length_cons, List.length_nil]; omega))
          refine wl_end rfl ?_
          refine nm_blk ?_
          refine nm_sub [(3, _), (4, _), (5, _), (22, _), (23, _), (24, _), (7, _), (8, _), (31, _), (32, _)] ⟨rfl, rfl, rfl, rfl, rfl, rfl, rfl, rfl, rfl, rfl, trivial⟩ ?_
          refine nm_thn ?_
          refine ws_region rfl ?_
          refine wl_op (k := 0) (k' := 1) rfl rfl rfl (wo_run rfl rfl (run_add rfl rfl rfl (by first | omega | (simp only [List.length_set, List.length_append, List.length_replicate, List.length_singleton, List.length_cons, List.length_nil]; omega))) ?_)
          refine wl_op (k := 1) (k' := 2) rfl rfl rfl (wo_run rfl rfl (run_move rfl rfl) ?_)
          refine wl_end rfl ?_
          refine nm_lp ?_
          intro ax_ hax_
          refine ⟨_, ?hq3m, ⟨j + 1, _, (lp.set j (some Pol.o)), _, _, (hle3.trans hle4), rfl, hax_.sub ⟨rfl, rfl, rfl, rfl, rfl, rfl, rfl, rfl, rfl, rfl, trivial⟩, S15.pick [1, 2, 3, 4, 5] [_, _, _, _, _] (by decide) ⟨rfl, rfl, rfl, rfl, rfl, trivial⟩, ?hq3f0, ?hq3f1, ?hq3f2⟩⟩
          case hq3f0 => omega
          case hq3f1 => (rw [hlp]; exact rep_set _ _ _ _ (by omega))
          case hq3f2 => exact hd2
          case hq3m => omega
        · have hb33 := of_decide_eq_false hb33
          refine ws_exit rfl rfl ?_
          refine nm_sub [(3, _), (4, _), (5, _), (22, _), (23, _), (24, _), (7, _), (8, _)] ⟨rfl, rfl, rfl, rfl, rfl, rfl, rfl, rfl, trivial⟩ ?_
          refine nm_thn ?_
          refine ws_seqN ATable_n43 ATable_n44 rfl rfl rfl ?_
          obtain rfl : j = mny d := by omega
          rw [Nat.sub_self, List.replicate_zero, List.append_nil, rep_fW] at hlp
          subst hlp
          obtain ⟨ha1, ha2⟩ := hba (by omega)
          obtain ⟨hb1, hb2⟩ := hbb (by omega)
          obtain ⟨hc1, hc2⟩ := hbc (by omega)
          change 1 ≤ (ga d.crs i).a at ha1
          change (ga d.crs i).a ≤ _ at ha2
          change 1 ≤ (ga d.crs i).b at hb1
          change (ga d.crs i).b ≤ _ at hb2
          change 1 ≤ (ga d.crs i).c at hc1
          change (ga d.crs i).c ≤ _ at hc2
          refine ws_region rfl ?_
          refine wl_op (k := 0) (k' := 1) rfl rfl rfl (wo_run rfl rfl (run_makeFunc (vs := [_, _]) rfl rfl rfl rfl) ?_)
          refine wl_op (k := 1) (k' := 2) rfl rfl rfl (wo_run rfl rfl (run_assign rfl rfl) ?_)
          refine wl_end rfl ?_
          refine nm_sub [(3, _), (4, _), (5, _), (22, _), (23, _), (24, _), (7, _), (8, _), (10, _)] ⟨rfl, rfl, rfl, rfl, rfl, rfl, rfl, rfl, rfl, trivial⟩ ?_
          refine nm_thn ?_
          refine ws_seqN ATable_n45 ATable_n46 rfl rfl rfl ?_
          refine ws_draw rfl (by kernel_rfl) S11 6 rfl ?_
          clear S11
          refine wa_takeP (i := 0) (d := 41) 5 rfl (by kernel_rfl) (by kernel_rfl) (by kernel_rfl) rfl rfl rfl (fun w14 => run_fieldAddr rfl rfl Try.underlying111 rfl (ce3) (nf3)) ?_
          refine wa_take (i := 1) (d := 42) 4 rfl (by kernel_rfl) (by kernel_rfl) (by kernel_rfl) rfl rfl rfl (fun M6 N2 w15 hle6 S17 => .inl (run_load1 rfl rfl Try.underlying3 rfl (S17.suf.boxc (i := 2) rfl rfl))) ?_
          refine wa_takeP (i := 2) (d := 43) 3 rfl (by kernel_rfl) (by kernel_rfl) (by kernel_rfl) rfl rfl rfl (fun w16 => run_fieldAddr rfl rfl Try.underlying111 rfl (ce3) (nf3)) ?_
          refine wa_take (i := 3) (d := 44) 2 rfl (by kernel_rfl) (by kernel_rfl) (by kernel_rfl) rfl rfl rfl (fun M8 N4 w17 hle8 S19 => .inl (run_load1 rfl rfl Try.underlying3 rfl (S19.suf.boxc (i := 2) rfl rfl))) ?_
          refine wa_takeP (i := 4) (d := 11) 1 rfl (by kernel_rfl) (by kernel_rfl) (by kernel_rfl) rfl rfl rfl (fun w18 => run_assign rfl rfl) ?_
          refine wa_takeP (i := 5) (d := 12) 0 rfl (by kernel_rfl) (by kernel_rfl) (by kernel_rfl) rfl rfl rfl (fun w19 => run_assign rfl rfl) ?_
          refine wa_end (by kernel_rfl) (fun w20 S22 => ?_)
          refine nm_sub [(3, _), (4, _), (5, _), (22, _), (23, _), (24, _), (7, _), (8, _), (10, _), (11, _), (12, _)] ⟨rfl, rfl, rfl, rfl, rfl, rfl, rfl, rfl, rfl, rfl, rfl, trivial⟩ ?_
          refine nm_thn ?_
          refine ws_seqN ATable_n47 ATable_n48 rfl rfl rfl ?_
          refine ws_seqN ATable_n49 ATable_n50 rfl rfl rfl ?_
          refine ws_region rfl ?_
          refine wl_op (k := 0) (k' := 1) rfl rfl rfl (wo_run rfl rfl (run_fieldAddr rfl rfl Try.underlying111 rfl (ce4) (nf4)) ?_)
          refine wl_op (k := 1) (k' := 2) rfl rfl rfl (wo_run rfl rfl (run_load1 rfl rfl Try.underlying4 rfl (S22.boxc (i := 2) rfl rfl)) ?_)
          refine wl_op (k := 2) (k' := 3) rfl rfl rfl (wo_run rfl rfl (run_not rfl rfl) ?_)
          refine wl_end rfl ?_
          refine nm_sub [(3, _), (4, _), (5, _), (22, _), (23, _), (24, _), (7, _), (8, _), (10, _), (11, _), (12, _), (47, _)] ⟨rfl, rfl, rfl, rfl, rfl, rfl, rfl, rfl, rfl, rfl, rfl, rfl, trivial⟩ ?_
          refine nm_thn ?_
          refine ws_condN ATable_n51 ATable_n52 rfl rfl rfl rfl (fun hb47 => ?_) (fun hb47 => ?_)
          · simp only [Bool.and_eq_true, Bool.or_eq_true, Bool.and_eq_false_iff, Bool.or_eq_false_iff, decide_eq_true_eq, decide_eq_false_iff_not, Bool.not_eq_true', Bool.not_eq_false'] at hb47
            have hin : inA (ga d.crs i) = (ga d.crs i).c := by unfold inA; simp [*]
            have hto : toA (ga d.crs i) = (ga d.crs i).a := by unfold toA; simp [*]
            refine ws_region rfl ?_
            refine wl_op (k := 0) (k' := 1) rfl rfl rfl (wo_run rfl rfl (run_move rfl rfl) ?_)
            refine wl_op (k := 1) (k' := 2) rfl rfl rfl (wo_run rfl rfl (run_move rfl rfl) ?_)
            refine wl_op (k := 2) (k' := 3) rfl rfl rfl (wo_run rfl rfl (run_assign rfl rfl) ?_)
            refine wl_op (k := 3) (k' := 4) rfl rfl rfl (wo_run rfl rfl (run_assign rfl rfl) ?_)
            refine wl_end rfl ?_
            refine nm_sub [(3, _), (4, _), (5, _), (22, _), (23, _), (24, _), (7, _), (8, _), (10, _), (11, _), (12, _)] ⟨rfl, rfl, rfl, rfl, rfl, rfl, rfl, rfl, rfl, rfl, rfl, trivial⟩ ?_
            refine nm_thn ?_
            refine ws_seqN ATable_n53 ATable_n54 rfl rfl rfl ?_
            refine ws_region rfl ?_
            refine wl_op (k := 0) (k' := 1) rfl rfl rfl (wo_run rfl rfl (run_move rfl rfl) ?_)
            refine wl_op (k := 1) (k' := 2) rfl rfl rfl (wo_run rfl rfl (run_move rfl rfl) ?_)
            refine wl_op (k := 2) (k' := 3) rfl rfl rfl (wo_run rfl rfl (run_build (l := [_, _]) rfl rfl st89 rfl rfl) ?_)
            refine wl_op (k := 3) (k' := 4) rfl rfl rfl (wo_buildSlice1 (C := cdTm) (l := [_, _]) rfl rfl rfl rfl sl22 rfl rfl rfl rfl S22 ?_)
            intro gb4 w21 S23; clear S22
            have S24 := S23.pick [1, 2, 5, 0, 3, 4] [_, _, _, _, _, _] (by decide) ⟨rfl, rfl, rfl, rfl, rfl, rfl, trivial⟩; clear S23
            have S25 : SH _ _ _ (Rs.bun [_, _, _] :: [_, _, _]) := SH.bunC (A := [_, _, _]) (B := [_, _, _]) S24; clear S24
            have S26 : SH _ _ _ [_, _, _, _] := S25.less (i := 0) rfl
            have hr2 := S26.lendBox (C := cdTm) (z := (⟨0, 1⟩ : Tm)) (i := 1) rfl rfl (by decide)
            obtain ⟨hk1, hk2, hk3, hk4, hk5⟩ := kO_ok hab (a := (ga d.crs i).a) (by omega)
            have hcall1 := AAdd_b ((ga d.crs i).a) ([(⟨0, 1⟩ : Tm)]) (List.map fW (List.replicate (mny d) [])) (oversL d) hr2 hl2 (hr1.mono (Hp.le_un _ _)) (mk (pr (ga (List.replicate (mny d) []) (kO d ((ga d.crs i).a))))) ⟨hk1, hk2⟩ hk3 (by rw [hk4]; have := hl2.1; rw [List.length_map, List.length_replicate] at this; omega) (by rw [hk4]; exact fW_ga _ (by rw [List.length_replicate]; exact hk5)) (bdT (by simp)) (S25.lend1 (i := 0) rfl); clear S26
            refine wl_op (k := 4) (k' := 5) rfl rfl rfl (wo_c1F (i := 0) rfl rfl rfl rfl rfl rfl rfl cf113 S25 rfl hcall1 ?_)
            intro vw22 w22 M11 rw22 hle11 S27 hR1; clear S25
            replace hsb := hsb.mono hle11
            replace hsc := hsc.mono hle11
            replace hsi := hsi.mono hle11
            replace hso := hso.mono hle11
            replace hr1 := hr1.mono hle11
            replace hw2 := hw2.mono hle11
            replace hw3 := hw3.mono hle11
            replace hd1 := hd1.mono hle11
            replace hl2 := hl2.mono hle11
            obtain ⟨rfl, gsw22, hglw22, hgww22, rfl⟩ := hR1
            replace S27 : SH _ _ _ (Rs.bun [_, _, _] :: [_, _, _]) := S27
            have S28 : SH _ _ _ [_, _, _, _, _, _] := SH.unbunC (A := [_, _, _]) (B := [_, _, _]) S27; clear S27
            rw [hk4, putA_map] at hgww22
            clear hk1 hk2 hk3 hk4 hk5
            replace hgww22 : Wks (fun _ => 1) M11 gsw22 (List.map fW (row1 d i)) := by first | exact hgww22 | (unfold row1; rw [hto]; exact hgww22) | (unfold row2; rw [hin]; exact hgww22)
            refine wl_end rfl ?_
            refine nm_sub [(3, _), (4, _), (5, _), (22, _), (23, _), (24, _), (7, _), (8, _), (10, _), (11, _)] ⟨rfl, rfl, rfl, rfl, rfl, rfl, rfl, rfl, rfl, rfl, trivial⟩ ?_
            refine nm_thn ?_
            refine ws_seqN ATable_n55 ATable_n56 rfl rfl rfl ?_
            refine ws_region rfl ?_
            refine wl_op (k := 0) (k' := 1) rfl rfl rfl (wo_run rfl rfl (run_move rfl rfl) ?_)
            refine wl_op (k := 1) (k' := 2) rfl rfl rfl (wo_run rfl rfl (run_move rfl rfl) ?_)
            refine wl_op (k := 2) (k' := 3) rfl rfl rfl (wo_run rfl rfl (run_build (l := [_, _]) rfl rfl st89 rfl rfl) ?_)
            refine wl_op (k := 3) (k' := 4) rfl rfl rfl (wo_buildSlice1 (C := cdTm) (l := [_, _]) rfl rfl rfl rfl sl22 rfl rfl rfl rfl S28 ?_)
            intro gb5 w23 S29; clear S28
            have S30 := S29.pick [1, 2, 3, 0, 4, 5, 6] [_, _, _, _, _, _, _] (by decide) ⟨rfl, rfl, rfl, rfl, rfl, rfl, rfl, trivial⟩; clear S29
            have S31 : SH _ _ _ (Rs.bun [_, _, _] :: [_, _, _, _]) := SH.bunC (A := [_, _, _]) (B := [_, _, _, _]) S30; clear S30
            have S32 : SH _ _ _ [_, _, _, _, _] := S31.less (i := 0) rfl
            have hr3 := S32.lendBox (C := cdTm) (z := (⟨1, (-1)⟩ : Tm)) (i := 1) rfl rfl (by decide)
            obtain ⟨hk1, hk2, hk3, hk4, hk5⟩ := kO_ok hab (a := (ga d.crs i).c) (by omega)
            have hcall2 := AAdd_b ((ga d.crs i).c) ([(⟨1, (-1)⟩ : Tm)]) (List.map fW (row1 d i)) (oversL d) hr3 hgww22 (hr1.mono (Hp.le_un _ _)) (mk (pr (ga (row1 d i) (kO d ((ga d.crs i).c))))) ⟨hk1, hk2⟩ hk3 (by rw [hk4]; have := hgww22.1; rw [List.length_map, row1_len] at this; omega) (by rw [hk4]; exact fW_ga _ (by rw [row1_len]; exact hk5)) (bdT (by simp)) (S31.lend1 (i := 0) rfl); clear S32
            refine wl_op (k := 4) (k' := 5) rfl rfl rfl (wo_c1F (i := 0) rfl rfl rfl rfl rfl rfl rfl cf113 S31 rfl hcall2 ?_)
            intro vw24 w24 M12 rw24 hle12 S33 hR2; clear S31
            replace hsb := hsb.mono hle12
            replace hsc := hsc.mono hle12
            replace hsi := hsi.mono hle12
            replace hso := hso.mono hle12
            replace hr1 := hr1.mono hle12
            replace hw2 := hw2.mono hle12
            replace hw3 := hw3.mono hle12
            replace hd1 := hd1.mono hle12
            replace hl2 := hl2.mono hle12
            replace hgww22 := hgww22.mono hle12
            obtain ⟨rfl, gsw24, hglw24, hgww24, rfl⟩ := hR2
            replace S33 : SH _ _ _ (Rs.bun [_, _, _] :: [_, _, _, _]) := S33
            have S34 : SH _ _ _ [_, _, _, _, _, _, _] := SH.unbunC (A := [_, _, _]) (B := [_, _, _, _]) S33; clear S33
            rw [hk4, putA_map] at hgww24
            clear hk1 hk2 hk3 hk4 hk5
            replace hgww24 : Wks (fun _ => 1) M12 gsw24 (List.map fW (row2 d i)) := by first | exact hgww24 | (unfold row1; rw [hto]; exact hgww24) | (unfold row2; rw [hin]; exact hgww24)
            refine wl_end rfl ?_
            refine nm_sub [(3, _), (4, _), (5, _), (22, _), (23, _), (24, _), (7, _), (8, _), (10, _)] ⟨rfl, rfl, rfl, rfl, rfl, rfl, rfl, rfl, rfl, trivial⟩ ?_
            refine nm_thn ?_
            refine ws_seqN ATable_n57 ATable_n58 rfl rfl rfl ?_
            refine ws_region rfl ?_
            refine wl_op (k := 0) (k' := 1) rfl rfl rfl (wo_run rfl rfl (run_move rfl rfl) ?_)
            refine wl_op (k := 1) (k' := 2) rfl rfl rfl (wo_run rfl rfl (run_fieldAddr rfl rfl Try.underlying111 rfl (ce3) (nf3)) ?_)
            refine wl_op (k := 2) (k' := 3) rfl rfl rfl (wo_run rfl rfl (run_load1 rfl rfl Try.underlying3 rfl (S34.boxc (i := 5) rfl rfl)) ?_)
            refine wl_op (k := 3) (k' := 4) rfl rfl rfl (wo_run rfl rfl (run_build (l := [_, _]) rfl rfl st89 rfl rfl) ?_)
            refine wl_op (k := 4) (k' := 5) rfl rfl rfl (wo_run rfl rfl (run_build (l := [_, _]) rfl rfl st89 rfl rfl) ?_)
            refine wl_op (k := 5) (k' := 6) rfl rfl rfl (wo_buildSliceN (C := cdTm) (l := [_, _, _, _]) (pl := [(0, 2), (2, 2)]) rfl rfl rfl rfl sl22 rfl rfl rfl rfl rfl S34 ?_)
            intro gb6 w26 S36; clear S34
            have S37 := S36.pick [1, 2, 3, 0, 4, 5, 6, 7] [_, _, _, _, _, _, _, _] (by decide) ⟨rfl, rfl, rfl, rfl, rfl, rfl, rfl, rfl, trivial⟩; clear S36
            have S38 : SH _ _ _ (Rs.bun [_, _, _] :: [_, _, _, _, _]) := SH.bunC (A := [_, _, _]) (B := [_, _, _, _, _]) S37; clear S37
            have S39 : SH _ _ _ [_, _, _, _, _, _] := S38.less (i := 0) rfl
            have hr4 := S39.lendBoxN (C := cdTm) (zs := [(⟨1, 1⟩ : Tm), (⟨0, (-1)⟩ : Tm)]) (i := 1) rfl rfl (by show 2 * _ ≤ _; decide)
            obtain ⟨hk1, hk2, hk3, hk4, hk5⟩ := kO_ok hab (a := (ga d.crs i).b) (by omega)
            have hcall3 := AAdd_b ((ga d.crs i).b) ([(⟨1, 1⟩ : Tm), (⟨0, (-1)⟩ : Tm)]) (List.map fW (row2 d i)) (oversL d) hr4 hgww24 (hr1.mono (Hp.le_un _ _)) (mk (pr (ga (row2 d i) (kO d ((ga d.crs i).b))))) ⟨hk1, hk2⟩ hk3 (by rw [hk4]; have := hgww24.1; rw [List.length_map, row2_len] at this; omega) (by rw [hk4]; exact fW_ga _ (by rw [row2_len]; exact hk5)) (bdT (by simp)) (S38.lend1 (i := 0) rfl); clear S39
            refine wl_op (k := 6) (k' := 7) rfl rfl rfl (wo_c1F (i := 0) rfl rfl rfl rfl rfl rfl rfl cf113 S38 rfl hcall3 ?_)
            intro vw27 w27 M13 rw27 hle13 S40 hR3; clear S38
            replace hsb := hsb.mono hle13
            replace hsc := hsc.mono hle13
            replace hsi := hsi.mono hle13
            replace hso := hso.mono hle13
            replace hr1 := hr1.mono hle13
            replace hw2 := hw2.mono hle13
            replace hw3 := hw3.mono hle13
            replace hd1 := hd1.mono hle13
            replace hl2 := hl2.mono hle13
            replace hgww22 := hgww22.mono hle13
            replace hgww24 := hgww24.mono hle13
            obtain ⟨rfl, gsw27, hglw27, hgww27, rfl⟩ := hR3
            replace S40 : SH _ _ _ (Rs.bun [_, _, _] :: [_, _, _, _, _]) := S40
            have S41 : SH _ _ _ [_, _, _, _, _, _, _, _] := SH.unbunC (A := [_, _, _]) (B := [_, _, _, _, _]) S40; clear S40
            rw [hk4, putA_map2 _ _ (by rw [row2_len]; exact hk5)] at hgww27
            clear hk1 hk2 hk3 hk4 hk5
            replace hgww27 : Wks (fun _ => 1) M13 gsw27 (List.map fW (rowL d i)) := by first | exact hgww27 | (unfold row1; rw [hto]; exact hgww27) | (unfold row2; rw [hin]; exact hgww27)
            refine wl_end rfl ?_
            refine nm_sub [(3, _), (4, _), (5, _), (22, _), (23, _), (24, _), (8, _)] ⟨rfl, rfl, rfl, rfl, rfl, rfl, rfl, trivial⟩ ?_
            refine nm_thn ?_
            refine ws_region rfl ?_
            refine wl_op (k := 0) (k' := 1) rfl rfl rfl (wo_run rfl rfl (run_move rfl rfl) ?_)
            refine wl_op (k := 1) (k' := 2) rfl rfl rfl (wo_run rfl rfl (run_load1 rfl rfl Try.underlying94 rfl (S41.boxc (i := 0) rfl rfl)) ?_)
            obtain ⟨M14, hle14, S42, ⟨A2, c2, e1, hr5⟩⟩ := S41.pubrow (i := 1) (H' := [_, _, _, _, _, _, _, _]) rfl rfl (by show _ * 8 ≤ _; first | omega | (simp only [List.length_set, List.length_append, List.length_replicate, List.length_singleton, List.length_cons, List.length_nil]; omega))
            clear S41; subst e1
            replace hsb := hsb.mono hle14
            replace hsc := hsc.mono hle14
            replace hsi := hsi.mono hle14
            replace hso := hso.mono hle14
            replace hr1 := hr1.mono hle14
            replace hw2 := hw2.mono hle14
            replace hw3 := hw3.mono hle14
            replace hd1 := hd1.mono hle14
            replace hl2 := hl2.mono hle14
            replace hgww22 := hgww22.mono hle14
            replace hgww24 := hgww24.mono hle14
            replace hgww27 := hgww27.mono hle14
            refine wl_op (k := 2) (k' := 3) rfl rfl rfl (wo_buildSlice1 (C := (cdV 94)) (l := [_]) rfl rfl rfl rfl sl93 rfl rfl rfl rfl S42 ?_)
            intro gb7 w28 S43; clear S42
            refine wl_op (k := 3) (k' := 4) rfl rfl rfl (wo_append1 (C := (cdV 94)) (i := 8) (q := 0) (⟨A2, gsw27.length, c2⟩ : SlV) rfl rfl rfl rfl rfl rfl rfl rfl sl93 S43 rfl rfl rfl (by show (_ + 1) * 24 ≤ _; first | omega | (simp only [List.length_set, List.length_append, List.length_replicate, List.length_singleton, List.length_cons, List.length_nil]; omega)) ?_)
            intro vro1 w29 S44; clear S43
            have S45 := S44.pick [1, 2, 3, 4, 5, 6, 7, 8] [_, _, _, _, _, _, _, _] (by decide) ⟨rfl, rfl, rfl, rfl, rfl, rfl, rfl, rfl, trivial⟩; clear S44
            have hd3 := hw2.snoc (c := c2) hr5
            have hd4 := hw3.snoc hgww27
            refine wl_op (k := 4) (k' := 5) rfl rfl rfl (wo_run rfl rfl (run_assign rfl rfl) ?_)
            refine wl_end rfl ?_
            refine nm_blk ?_
            refine nm_sub [(3, _), (4, _), (5, _), (22, _), (23, _), (24, _)] ⟨rfl, rfl, rfl, rfl, rfl, rfl, trivial⟩ ?_
            refine nm_thn ?_
            refine ws_region rfl ?_
            refine wl_op (k := 0) (k' := 1) rfl rfl rfl (wo_run rfl rfl (run_add rfl rfl rfl (by first | omega | (simp only [List.length_set, List.length_append, List.length_replicate, List.length_singleton, List.length_cons, List.length_nil]; omega))) ?_)
            refine wl_op (k := 1) (k' := 2) rfl rfl rfl (wo_run rfl rfl (run_move rfl rfl) ?_)
            refine wl_end rfl ?_
            refine nm_lp ?_
            intro ax_ hax_
            refine ⟨_, ?hq4m, ⟨i + 1, _, (wg ++ [gsw27]), (wp ++ [List.map fW (rowL d i)]), _, _, (((((hle2.trans hle3).trans hle11).trans hle12).trans hle13).trans hle14), rfl, hax_.sub ⟨rfl, rfl, rfl, rfl, rfl, rfl, trivial⟩, S45.pick [7, 2] [_, _] (by decide) ⟨rfl, rfl, trivial⟩, ?hq4f0, ?hq4f1, ?hq4f2, ?hq4f3⟩⟩
            case hq4f0 => omega
            case hq4f1 => (rw [hwp, take_ga (List.range d.crs.length) i (by rw [List.length_range]; omega), List.map_append]; refine congrArg _ ?_; rw [show ga (List.range d.crs.length) i = i by rw [ga_eq (by rw [List.length_range]; omega)]; simp]; rfl)
            case hq4f2 => exact hd3
            case hq4f3 => exact hd4
            case hq4m => omega
          · simp only [Bool.and_eq_true, Bool.or_eq_true, Bool.and_eq_false_iff, Bool.or_eq_false_iff, decide_eq_true_eq, decide_eq_false_iff_not, Bool.not_eq_true', Bool.not_eq_false'] at hb47
            have hin : inA (ga d.crs i) = (ga d.crs i).a := by unfold inA; simp [*]
            have hto : toA (ga d.crs i) = (ga d.crs i).c := by unfold toA; simp [*]
            refine ws_skip rfl ?_
            refine nm_sub [(3, _), (4, _), (5, _), (22, _), (23, _), (24, _), (7, _), (8, _), (10, _), (11, _), (12, _)] ⟨rfl, rfl, rfl, rfl, rfl, rfl, rfl, rfl, rfl, rfl, rfl, trivial⟩ ?_
            refine nm_thn ?_
            refine ws_seqN ATable_n53 ATable_n54 rfl rfl rfl ?_
            refine ws_region rfl ?_
            refine wl_op (k := 0) (k' := 1) rfl rfl rfl (wo_run rfl rfl (run_move rfl rfl) ?_)
            refine wl_op (k := 1) (k' := 2) rfl rfl rfl (wo_run rfl rfl (run_move rfl rfl) ?_)
            refine wl_op (k := 2) (k' := 3) rfl rfl rfl (wo_run rfl rfl (run_build (l := [_, _]) rfl rfl st89 rfl rfl) ?_)
            refine wl_op (k := 3) (k' := 4) rfl rfl rfl (wo_buildSlice1 (C := cdTm) (l := [_, _]) rfl rfl rfl rfl sl22 rfl rfl rfl rfl S22 ?_)
            intro gb8 w30 S46; clear S22
            have S47 := S46.pick [1, 2, 5, 0, 3, 4] [_, _, _, _, _, _] (by decide) ⟨rfl, rfl, rfl, rfl, rfl, rfl, trivial⟩; clear S46
            have S48 : SH _ _ _ (Rs.bun [_, _, _] :: [_, _, _]) := SH.bunC (A := [_, _, _]) (B := [_, _, _]) S47; clear S47
            have S49 : SH _ _ _ [_, _, _, _] := S48.less (i := 0) rfl
            have hr6 := S49.lendBox (C := cdTm) (z := (⟨0, 1⟩ : Tm)) (i := 1) rfl rfl (by decide)
            obtain ⟨hk1, hk2, hk3, hk4, hk5⟩ := kO_ok hab (a := (ga d.crs i).c) (by omega)
            have hcall4 := AAdd_b ((ga d.crs i).c) ([(⟨0, 1⟩ : Tm)]) (List.map fW (List.replicate (mny d) [])) (oversL d) hr6 hl2 (hr1.mono (Hp.le_un _ _)) (mk (pr (ga (List.replicate (mny d) []) (kO d ((ga d.crs i).c))))) ⟨hk1, hk2⟩ hk3 (by rw [hk4]; have := hl2.1; rw [List.length_map, List.length_replicate] at this; omega) (by rw [hk4]; exact fW_ga _ (by rw [List.length_replicate]; exact hk5)) (bdT (by simp)) (S48.lend1 (i := 0) rfl); clear S49
            refine wl_op (k := 4) (k' := 5) rfl rfl rfl (wo_c1F (i := 0) rfl rfl rfl rfl rfl rfl rfl cf113 S48 rfl hcall4 ?_)
            intro vw31 w31 M15 rw31 hle15 S50 hR4; clear S48
            replace hsb := hsb.mono hle15
            replace hsc := hsc.mono hle15
            replace hsi := hsi.mono hle15
            replace hso := hso.mono hle15
            replace hr1 := hr1.mono hle15
            replace hw2 := hw2.mono hle15
            replace hw3 := hw3.mono hle15
            replace hd1 := hd1.mono hle15
            replace hl2 := hl2.mono hle15
            obtain ⟨rfl, gsw31, hglw31, hgww31, rfl⟩ := hR4
            replace S50 : SH _ _ _ (Rs.bun [_, _, _] :: [_, _, _]) := S50
            have S51 : SH _ _ _ [_, _, _, _, _, _] := SH.unbunC (A := [_, _, _]) (B := [_, _, _]) S50; clear S50
            rw [hk4, putA_map] at hgww31
            clear hk1 hk2 hk3 hk4 hk5
            replace hgww31 : Wks (fun _ => 1) M15 gsw31 (List.map fW (row1 d i)) := by first | exact hgww31 | (unfold row1; rw [hto]; exact hgww31) | (unfold row2; rw [hin]; exact hgww31)
            refine wl_end rfl ?_
            refine nm_sub [(3, _), (4, _), (5, _), (22, _), (23, _), (24, _), (7, _), (8, _), (10, _), (11, _)] ⟨rfl, rfl, rfl, rfl, rfl, rfl, rfl, rfl, rfl, rfl, trivial⟩ ?_
            refine nm_thn ?_
            refine ws_seqN ATable_n55 ATable_n56 rfl rfl rfl ?_
            refine ws_region rfl ?_
            refine wl_op (k := 0) (k' := 1) rfl rfl rfl (wo_run rfl rfl (run_move rfl rfl) ?_)
            refine wl_op (k := 1) (k' := 2) rfl rfl rfl (wo_run rfl rfl (run_move rfl rfl) ?_)
            refine wl_op (k := 2) (k' := 3) rfl rfl rfl (wo_run rfl rfl (run_build (l := [_, _]) rfl rfl st89 rfl rfl) ?_)
            refine wl_op (k := 3) (k' := 4) rfl rfl rfl (wo_buildSlice1 (C := cdTm) (l := [_, _]) rfl rfl rfl rfl sl22 rfl rfl rfl rfl S51 ?_)
            intro gb9 w32 S52; clear S51
            have S53 := S52.pick [1, 2, 3, 0, 4, 5, 6] [_, _, _, _, _, _, _] (by decide) ⟨rfl, rfl, rfl, rfl, rfl, rfl, rfl, trivial⟩; clear S52
            have S54 : SH _ _ _ (Rs.bun [_, _, _] :: [_, _, _, _]) := SH.bunC (A := [_, _, _]) (B := [_, _, _, _]) S53; clear S53
            have S55 : SH _ _ _ [_, _, _, _, _] := S54.less (i := 0) rfl
            have hr7 := S55.lendBox (C := cdTm) (z := (⟨1, (-1)⟩ : Tm)) (i := 1) rfl rfl (by decide)
            obtain ⟨hk1, hk2, hk3, hk4, hk5⟩ := kO_ok hab (a := (ga d.crs i).a) (by omega)
            have hcall5 := AAdd_b ((ga d.crs i).a) ([(⟨1, (-1)⟩ : Tm)]) (List.map fW (row1 d i)) (oversL d) hr7 hgww31 (hr1.mono (Hp.le_un _ _)) (mk (pr (ga (row1 d i) (kO d ((ga d.crs i).a))))) ⟨hk1, hk2⟩ hk3 (by rw [hk4]; have := hgww31.1; rw [List.length_map, row1_len] at this; omega) (by rw [hk4]; exact fW_ga _ (by rw [row1_len]; exact hk5)) (bdT (by simp)) (S54.lend1 (i := 0) rfl); clear S55
            refine wl_op (k := 4) (k' := 5) rfl rfl rfl (wo_c1F (i := 0) rfl rfl rfl rfl rfl rfl rfl cf113 S54 rfl hcall5 ?_)
            intro vw33 w33 M16 rw33 hle16 S56 hR5; clear S54
            replace hsb := hsb.mono hle16
            replace hsc := hsc.mono hle16
            replace hsi := hsi.mono hle16
            replace hso := hso.mono hle16
            replace hr1 := hr1.mono hle16
            replace hw2 := hw2.mono hle16
            replace hw3 := hw3.mono hle16
            replace hd1 := hd1.mono hle16
            replace hl2 := hl2.mono hle16
            replace hgww31 := hgww31.mono hle16
            obtain ⟨rfl, gsw33, hglw33, hgww33, rfl⟩ := hR5
            replace S56 : SH _ _ _ (Rs.bun [_, _, _] :: [_, _, _, _]) := S56
            have S57 : SH _ _ _ [_, _, _, _, _, _, _] := SH.unbunC (A := [_, _, _]) (B := [_, _, _, _]) S56; clear S56
            rw [hk4, putA_map] at hgww33
            clear hk1 hk2 hk3 hk4 hk5
            replace hgww33 : Wks (fun _ => 1) M16 gsw33 (List.map fW (row2 d i)) := by first | exact hgww33 | (unfold row1; rw [hto]; exact hgww33) | (unfold row2; rw [hin]; exact hgww33)
            refine wl_end rfl ?_
            refine nm_sub [(3, _), (4, _), (5, _), (22, _), (23, _), (24, _), (7, _), (8, _), (10, _)] ⟨rfl, rfl, rfl, rfl, rfl, rfl, rfl, rfl, rfl, trivial⟩ ?_
            refine nm_thn ?_
            refine ws_seqN ATable_n57 ATable_n58 rfl rfl rfl ?_
            refine ws_region rfl ?_
            refine wl_op (k := 0) (k' := 1) rfl rfl rfl (wo_run rfl rfl (run_move rfl rfl) ?_)
            refine wl_op (k := 1) (k' := 2) rfl rfl rfl (wo_run rfl rfl (run_fieldAddr rfl rfl Try.underlying111 rfl (ce3) (nf3)) ?_)
            refine wl_op (k := 2) (k' := 3) rfl rfl rfl (wo_run rfl rfl (run_load1 rfl rfl Try.underlying3 rfl (S57.boxc (i := 5) rfl rfl)) ?_)
            refine wl_op (k := 3) (k' := 4) rfl rfl rfl (wo_run rfl rfl (run_build (l := [_, _]) rfl rfl st89 rfl rfl) ?_)
            refine wl_op (k := 4) (k' := 5) rfl rfl rfl (wo_run rfl rfl (run_build (l := [_, _]) rfl rfl st89 rfl rfl) ?_)
            refine wl_op (k := 5) (k' := 6) rfl rfl rfl (wo_buildSliceN (C := cdTm) (l := [_, _, _, _]) (pl := [(0, 2), (2, 2)]) rfl rfl rfl rfl sl22 rfl rfl rfl rfl rfl S57 ?_)
            intro gb10 w35 S59; clear S57
            have S60 := S59.pick [1, 2, 3, 0, 4, 5, 6, 7] [_, _, _, _, _, _, _, _] (by decide) ⟨rfl, rfl, rfl, rfl, rfl, rfl, rfl, rfl, trivial⟩; clear S59
            have S61 : SH _ _ _ (Rs.bun [_, _, _] :: [_, _, _, _, _]) := SH.bunC (A := [_, _, _]) (B := [_, _, _, _, _]) S60; clear S60
            have S62 : SH _ _ _ [_, _, _, _, _, _] := S61.less (i := 0) rfl
            have hr8 := S62.lendBoxN (C := cdTm) (zs := [(⟨1, 1⟩ : Tm), (⟨0, (-1)⟩ : Tm)]) (i := 1) rfl rfl (by show 2 * _ ≤ _; decide)
            obtain ⟨hk1, hk2, hk3, hk4, hk5⟩ := kO_ok hab (a := (ga d.crs i).b) (by omega)
            have hcall6 := AAdd_b ((ga d.crs i).b) ([(⟨1, 1⟩ : Tm), (⟨0, (-1)⟩ : Tm)]) (List.map fW (row2 d i)) (oversL d) hr8 hgww33 (hr1.mono (Hp.le_un _ _)) (mk (pr (ga (row2 d i) (kO d ((ga d.crs i).b))))) ⟨hk1, hk2⟩ hk3 (by rw [hk4]; have := hgww33.1; rw [List.length_map, row2_len] at this; omega) (by rw [hk4]; exact fW_ga _ (by rw [row2_len]; exact hk5)) (bdT (by simp)) (S61.lend1 (i := 0) rfl); clear S62
            refine wl_op (k := 6) (k' := 7) rfl rfl rfl (wo_c1F (i := 0) rfl rfl rfl rfl rfl rfl rfl cf113 S61 rfl hcall6 ?_)
            intro vw36 w36 M17 rw36 hle17 S63 hR6; clear S61
            replace hsb := hsb.mono hle17
            replace hsc := hsc.mono hle17
            replace hsi := hsi.mono hle17
            replace hso := hso.mono hle17
            replace hr1 := hr1.mono hle17
            replace hw2 := hw2.mono hle17
            replace hw3 := hw3.mono hle17
            replace hd1 := hd1.mono hle17
            replace hl2 := hl2.mono hle17
            replace hgww31 := hgww31.mono hle17
            replace hgww33 := hgww33.mono hle17
            obtain ⟨rfl, gsw36, hglw36, hgww36, rfl⟩ := hR6
            replace S63 : SH _ _ _ (Rs.bun [_, _, _] :: [_, _, _, _, _]) := S63
            have S64 : SH _ _ _ [_, _, _, _, _, _, _, _] := SH.unbunC (A := [_, _, _]) (B := [_, _, _, _, _]) S63; clear S63
            rw [hk4, putA_map2 _ _ (by rw [row2_len]; exact hk5)] at hgww36
            clear hk1 hk2 hk3 hk4 hk5
            replace hgww36 : Wks (fun _ => 1) M17 gsw36 (List.map fW (rowL d i)) := by first | exact hgww36 | (unfold row1; rw [hto]; exact hgww36) | (unfold row2; rw [hin]; exact hgww36)
            refine wl_end rfl ?_
            refine nm_sub [(3, _), (4, _), (5, _), (22, _), (23, _), (24, _), (8, _)] ⟨rfl, rfl, rfl, rfl, rfl, rfl, rfl, trivial⟩ ?_
            refine nm_thn ?_
            refine ws_region rfl ?_
            refine wl_op (k := 0) (k' := 1) rfl rfl rfl (wo_run rfl rfl (run_move rfl rfl) ?_)
            refine wl_op (k := 1) (k' := 2) rfl rfl rfl (wo_run rfl rfl (run_load1 rfl rfl Try.underlying94 rfl (S64.boxc (i := 0) rfl rfl)) ?_)
            obtain ⟨M18, hle18, S65, ⟨A3, c3, e2, hr9⟩⟩ := S64.pubrow (i := 1) (H' := [_, _, _, _, _, _, _, _]) rfl rfl (by show _ * 8 ≤ _; first | omega | (simp only [List.length_set, List.length_append, List.length_replicate, List.length_singleton, List.length_cons, List.length_nil]; omega))
            clear S64; subst e2
            replace hsb := hsb.mono hle18
            replace hsc := hsc.mono hle18
            replace hsi := hsi.mono hle18
            replace hso := hso.mono hle18
            replace hr1 := hr1.mono hle18
            replace hw2 := hw2.mono hle18
            replace hw3 := hw3.mono hle18
            replace hd1 := hd1.mono hle18
            replace hl2 := hl2.mono hle18
            replace hgww31 := hgww31.mono hle18
            replace hgww33 := hgww33.mono hle18
            replace hgww36 := hgww36.mono hle18
            refine wl_op (k := 2) (k' := 3) rfl rfl rfl (wo_buildSlice1 (C := (cdV 94)) (l := [_]) rfl rfl rfl rfl sl93 rfl rfl rfl rfl S65 ?_)
            intro gb11 w37 S66; clear S65
            refine wl_op (k := 3) (k' := 4) rfl rfl rfl (wo_append1 (C := (cdV 94)) (i := 8) (q := 0) (⟨A3, gsw36.length, c3⟩ : SlV) rfl rfl rfl rfl rfl rfl rfl rfl sl93 S66 rfl rfl rfl (by show (_ + 1) * 24 ≤ _; first | omega | (simp only [List.length_set, List.length_append, List.length_replicate, List.length_singleton, List.length_cons, List.length_nil]; omega)) ?_)
            intro vro2 w38 S67; clear S66
            have S68 := S67.pick [1, 2, 3, 4, 5, 6, 7, 8] [_, _, _, _, _, _, _, _] (by decide) ⟨rfl, rfl, rfl, rfl, rfl, rfl, rfl, rfl, trivial⟩; clear S67
            have hd5 := hw2.snoc (c := c3) hr9
            have hd6 := hw3.snoc hgww36
            refine wl_op (k := 4) (k' := 5) rfl rfl rfl (wo_run rfl rfl (run_assign rfl rfl) ?_)
            refine wl_end rfl ?_
            refine nm_blk ?_
            refine nm_sub [(3, _), (4, _), (5, _), (22, _), (23, _), (24, _)] ⟨rfl, rfl, rfl, rfl, rfl, rfl, trivial⟩ ?_
            refine nm_thn ?_
            refine ws_region rfl ?_
            refine wl_op (k := 0) (k' := 1) rfl rfl rfl (wo_run rfl rfl (run_add rfl rfl rfl (by first | omega | (simp only [List.length_set, List.length_append, List.length_replicate, List.length_singleton, List.length_cons, List.length_nil]; omega))) ?_)
            refine wl_op (k := 1) (k' := 2) rfl rfl rfl (wo_run rfl rfl (run_move rfl rfl) ?_)
            refine wl_end rfl ?_
            refine nm_lp ?_
            intro ax_ hax_
            refine ⟨_, ?hq5m, ⟨i + 1, _, (wg ++ [gsw36]), (wp ++ [List.map fW (rowL d i)]), _, _, (((((hle2.trans hle3).trans hle15).trans hle16).trans hle17).trans hle18), rfl, hax_.sub ⟨rfl, rfl, rfl, rfl, rfl, rfl, trivial⟩, S68.pick [7, 2] [_, _] (by decide) ⟨rfl, rfl, trivial⟩, ?hq5f0, ?hq5f1, ?hq5f2, ?hq5f3⟩⟩
            case hq5f0 => omega
            case hq5f1 => (rw [hwp, take_ga (List.range d.crs.length) i (by rw [List.length_range]; omega), List.map_append]; refine congrArg _ ?_; rw [show ga (List.range d.crs.length) i = i by rw [ga_eq (by rw [List.length_range]; omega)]; simp]; rfl)
            case hq5f2 => exact hd5
            case hq5f3 => exact hd6
            case hq5m => omega
    · have hb25 := of_decide_eq_false hb25
      refine ws_exit rfl rfl ?_
      refine nm_sub [(5, _)] ⟨rfl, trivial⟩ ?_
      refine nm_thn ?_
      refine ws_seqN ATable_n59 ATable_n60 rfl rfl rfl ?_
      refine ws_region rfl ?_
      refine wl_op (k := 0) (k' := 1) rfl rfl rfl (wo_run rfl rfl (run_move rfl rfl) ?_)
      refine wl_op (k := 1) (k' := 2) rfl rfl rfl (wo_run rfl rfl (run_assign rfl rfl) ?_)
      refine wl_end rfl ?_
      refine nm_sub [(2, _)] ⟨rfl, trivial⟩ ?_
      refine nm_thn ?_
      obtain ⟨M19, hle19, S69, ⟨A4, c4, e3, hr10⟩⟩ := S5.pubrow (i := 0) (H' := [_, _]) rfl rfl (by show _ * 24 ≤ _; first | omega | (simp only [List.length_set, List.length_append, List.length_replicate, List.length_singleton, List.length_cons, List.length_nil]; omega))
      clear S5; subst e3
      replace hsb := hsb.mono hle19
      replace hsc := hsc.mono hle19
      replace hsi := hsi.mono hle19
      replace hso := hso.mono hle19
      replace hr1 := hr1.mono hle19
      replace hw2 := hw2.mono hle19
      replace hw3 := hw3.mono hle19
      refine ws_ret hC [_] rfl rfl ⟨rfl, trivial⟩ ?_
      refine ⟨_, rfl, _, (hle1.trans hle2).trans hle19, (S69.pick [] [] (by decide) trivial), ?_⟩
      obtain rfl : i = d.crs.length := by omega
      have e2 : (tblA d).map (fun r => r.map fW) = wp := by rw [hwp, List.take_of_length_le (by simp)]; unfold tblA; rw [List.map_map]; rfl
      rw [e2]
      exact ⟨_, _, _, _, rfl, hr10, hw2, hw3⟩
end Go.Proofs.Ytkcighnochjlgaa
namespace Go.Proofs.Ytkcighnochjlgaa
open Go.ChangeShapes Go.WideShapes Go.ChangeAt Go.RowKit
def tb (s : Nat) : Nat → Bool := fun c => s.testBit c
def rv : Nat → List Nat
  | 0 => []
  | r + 1 => r :: rv r
end Go.Proofs.Ytkcighnochjlgaa
set_option linter.unusedSimpArgs false
set_option linter.unusedVariables false
namespace Go.Proofs.Ytkcighnochjlgaa
open Go.ChangeShapes Go.WideShapes Go.ChangeAt Go.RowKit
/-- What the determinant asks of a table. -/
def SqT (nn : List (List (List Tm))) (n B : Nat) : Prop := nn.length = n ∧ (∀ i, i < n → (ga nn i).length = n) ∧ ∀ i, i < n → ∀ k, k < n → Bd (ga (ga nn i) k) B
theorem ga_erase {β : Type} [Inhabited β] (l : List β) (c k : Nat) : ga (l.eraseIdx c) k = if k < c then ga l k else ga l (k + 1) := by
  unfold ga
  rw [List.getD_eq_getElem?_getD, List.getElem?_eraseIdx]
  split <;> simp [List.getD_eq_getElem?_getD]
theorem SqT.less {nn : List (List (List Tm))} {q B : Nat} (h : SqT nn (q + 1) B) {c : Nat} (hc : c < q + 1) : SqT ((nn.drop 1).map fun r => r.eraseIdx c) q B := by
  obtain ⟨h1, h2, h3⟩ := h
  have hg : ∀ i, i < q → ga ((nn.drop 1).map fun r => r.eraseIdx c) i = (ga nn (i + 1)).eraseIdx c := fun i hi => by
    rw [ga_map _ _ _ (by rw [List.length_drop]; omega), ga_drop, Nat.add_comm]
  refine ⟨by simp [h1], fun i hi => ?_, fun i hi k hk => ?_⟩
  · rw [hg i hi, List.length_eraseIdx, h2 _ (by omega), if_pos hc]; rfl
  · rw [hg i hi, ga_erase]
    split
    · exact h3 _ (by omega) _ (by omega)
    · exact h3 _ (by omega) _ (by omega)
end Go.Proofs.Ytkcighnochjlgaa
