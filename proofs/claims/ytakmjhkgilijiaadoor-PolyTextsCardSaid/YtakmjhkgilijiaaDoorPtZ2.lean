/- Part 2 of the proof of the law PolyTexts: the walks through its functions and the plain laws that they need. -/
import Derived.Test.YtakmjhkgilijiaaDoorPtZ1
set_option linter.unusedSimpArgs false
set_option linter.unusedVariables false
namespace Go.Proofs.YtakmjhkgilijiaaDoor
open Go.ChangeShapes Go.WideShapes Go.ChangeAt Go.RowKit
theorem decs_len : ∀ (k m : Nat), 1 ≤ k → m < 10 ^ k → (Lib.decDigits m).length ≤ k := by
 intro k
 induction k with
 | zero => intro m h; omega
 | succ k ih =>
  intro m _ hm
  by_cases h1 : m < 10
  ·rw [dec_small h1]; simp
  ·rw [dec_big h1, List.length_append]
   simp only [List.length_cons, List.length_nil]
   have hk : 1 ≤ k := by
    rcases Nat.eq_zero_or_pos k with h | h
    ·subst h; simp at hm; omega
    ·exact h
   have := ih (m / 10) hk (by rw [Nat.pow_succ] at hm; omega)
   omega
theorem dec7 {m : Nat} (h : m < 10000000) : (Lib.decDigits m).length ≤ 7 := decs_len 7 m (by decide) h
theorem itoa_pos {v : Int} (h : 0 ≤ v) : Lib.itoa v = Lib.decDigits v.toNat := by
 unfold Lib.itoa; rw [if_neg (by omega)]
theorem itoa_neg {v : Int} (h : v < 0) : Lib.itoa v = 45 :: Lib.decDigits v.natAbs := by
 unfold Lib.itoa; rw [if_pos h]
theorem itoa8 {v : Int} (h : -10000000 < v ∧ v < 10000000) : (Lib.itoa v).length ≤ 8 := by
 by_cases h1 : v < 0
 ·rw [itoa_neg h1, List.length_cons]; have := dec7 (m := v.natAbs) (by omega); omega
 ·rw [itoa_pos (by omega)]; have := dec7 (m := v.toNat) (by omega); omega
theorem dec_one {m : Nat} : Lib.decDigits m = [49] ↔ m = 1 := by
 constructor
 ·intro h
  by_cases h1 : m < 10
  ·rw [dec_small h1] at h
   have h2 : m = 0 ∨ m = 1 ∨ m = 2 ∨ m = 3 ∨ m = 4 ∨ m = 5 ∨ m = 6 ∨ m = 7 ∨ m = 8 ∨ m = 9 := by omega
   rcases h2 with rfl | rfl | rfl | rfl | rfl | rfl | rfl | rfl | rfl | rfl <;> first | rfl | (exact absurd h (by decide))
  ·rw [dec_big h1] at h
   have h3 := congrArg List.length h
   rw [List.length_append] at h3
   simp only [List.length_cons, List.length_nil] at h3
   have h4 : (Lib.decDigits (m / 10)).length = 0 := by omega
   by_cases h5 : m / 10 < 10
   ·rw [dec_small h5] at h4; simp at h4
   ·rw [dec_big h5, List.length_append] at h4; simp at h4
 ·rintro rfl
  rw [dec_small (by decide)]; rfl
noncomputable def DecS_n0 : Code := Tryd.f15.body.getD .skip
noncomputable def DecS_n1 : Code := cL DecS_n0
noncomputable def DecS_n2 : Code := cR DecS_n0
noncomputable def DecS_n3 : Code := cL DecS_n2
noncomputable def DecS_n4 : Code := cR DecS_n2
noncomputable def DecS_n5 : Code := cL DecS_n3
noncomputable def DecS_n6 : Code := cR DecS_n3
noncomputable def DecS_n7 : Code := cL DecS_n6
noncomputable def DecS_n8 : Code := cR DecS_n6
noncomputable def DecS_n9 : Code := cL DecS_n4
noncomputable def DecS_n10 : Code := cR DecS_n4
noncomputable def DecS_n11 : Code := cL DecS_n9
noncomputable def DecS_n12 : Code := cR DecS_n9
noncomputable def DecS_n13 : Code := cL DecS_n12
noncomputable def DecS_n14 : Code := cR DecS_n12
noncomputable def DecS_n15 : Code := cL DecS_n13
noncomputable def DecS_n16 : Code := cR DecS_n13
noncomputable def DecS_n17 : Code := cL DecS_n10
noncomputable def DecS_n18 : Code := cR DecS_n10
set_option maxRecDepth 10000 in
theorem dec_step {w : World} {M : Hp} {X : Fr} (m : Nat) (hm : m < 10000000) (ih : ∀ (m2 : Nat), m2 < m → ∀ (w : World) (M : Hp) (X : Fr), SH w M X [] → Cq Tryd.prog 15 [.int .i64 (m2 : Int)] w M X (fun u => u = .string (sB (Lib.decDigits m2)))) (S : SH w M X []) : Cq Tryd.prog 15 [.int .i64 (m : Int)] w M X (fun u => u = .string (sB (Lib.decDigits m))) := by
 unfold Cq
 refine calls_in (b := DecS_n0) Tryd.func15 rfl Tryd.ntmps15 rfl (fun C hC => ?_)
 refine ws_sub [(0, _)] ⟨rfl, trivial⟩ ?_
 refine ws_seqN DecS_n1 DecS_n2 rfl rfl rfl ?_
 refine ws_region rfl ?_
 refine wla 0 1 rfl rfl rfl rfl rfl rfl rfl ?_
 refine wl_end rfl ?_
 refine nm_sub [(0, _)] ⟨rfl, trivial⟩ ?_
 refine nm_thn ?_
 refine ws_seqN DecS_n3 DecS_n4 rfl rfl rfl ?_
 refine ws_seqN DecS_n5 DecS_n6 rfl rfl rfl ?_
 refine ws_region rfl ?_
 refine wlm 0 1 rfl rfl rfl rfl rfl rfl rfl ?_
 refine wlo 1 2 rfl rfl rfl (wo_run rfl rfl (run_lss rfl rfl rfl) ?_)
 refine wl_end rfl ?_
 refine nm_sub [(0, _), (4, _)] ⟨rfl, rfl, trivial⟩ ?_
 refine nm_thn ?_
 refine ws_condN DecS_n7 DecS_n8 rfl rfl rfl rfl (fun hb4 => ?_) (fun hb4 => ?_)
 ·replace hb4 := of_decide_eq_true hb4
  exfalso; omega
 ·replace hb4 := of_decide_eq_false hb4
  refine ws_skip rfl ?_
  refine nm_sub [(0, _)] ⟨rfl, trivial⟩ ?_
  refine nm_thn ?_
  refine ws_seqN DecS_n9 DecS_n10 rfl rfl rfl ?_
  refine ws_seqN DecS_n11 DecS_n12 rfl rfl rfl ?_
  refine ws_region rfl ?_
  refine wlm 0 1 rfl rfl rfl rfl rfl rfl rfl ?_
  refine wlo 1 2 rfl rfl rfl (wo_run rfl rfl (run_lss rfl rfl rfl) ?_)
  refine wl_end rfl ?_
  refine nm_sub [(0, _), (10, _)] ⟨rfl, rfl, trivial⟩ ?_
  refine nm_thn ?_
  refine ws_condN DecS_n13 DecS_n14 rfl rfl rfl rfl (fun hb10 => ?_) (fun hb10 => ?_)
  ·replace hb10 := of_decide_eq_true hb10
   refine ws_seqN DecS_n15 DecS_n16 rfl rfl rfl ?_
   refine ws_region rfl ?_
   refine wlm 0 1 rfl rfl rfl rfl rfl rfl rfl ?_
   refine wlo 1 2 rfl rfl rfl (wo_run rfl rfl (run_add rfl rfl rfl (by first | omega | (simp only [lens]; omega))) ?_)
   refine wlo 2 3 rfl rfl rfl (wo_run rfl rfl (run_convB (s := (48 + m)) rfl (by first | rfl | exact congrArg (fun z => some (Value.int .i64 z)) (by omega)) ⟨_, Tryd.underlying3⟩ Tryd.underlying5 (by first | omega | (simp only [lens]; omega))) ?_)
   refine wlo 3 4 rfl rfl rfl (wo_buildSlice1 (C := cdB) (l := [_]) rfl rfl rfl rfl sl49 rfl rfl rfl rfl S ?_)
   intro gb1 w1 S1; clear S
   refine wlo 4 5 rfl rfl rfl (wo_run rfl rfl (run_text1 (s := (48 + m)) (i := 0) rfl rfl Tryd.underlying49 Tryd.underlying9 Tryd.underlying5 S1 rfl) ?_)
   refine wla 5 6 rfl rfl rfl rfl rfl rfl rfl ?_
   refine wl_end rfl ?_
   refine nm_sub [(2, _)] ⟨rfl, trivial⟩ ?_
   refine nm_thn ?_
   refine ws_ret hC [_] rfl rfl ⟨rfl, trivial⟩ ?_
   exact ⟨_, rfl, (S1.pick [] [] (by decide) trivial), (by rw [dec_small (by omega)]; rfl)⟩
  ·replace hb10 := of_decide_eq_false hb10
   have hdl := dec7 (m := m / 10) (by omega)
   refine ws_skip rfl ?_
   refine nm_sub [(0, _)] ⟨rfl, trivial⟩ ?_
   refine nm_thn ?_
   refine ws_seqN DecS_n17 DecS_n18 rfl rfl rfl ?_
   refine ws_draw rfl (by kernel_rfl) S 11 rfl ?_
   clear S
   refine wa_takeP (i := 0) (d := 16) 10 rfl (by kernel_rfl) (by kernel_rfl) (by kernel_rfl) rfl rfl rfl (fun w2 => run_move rfl rfl) ?_
   refine wa_takeP (i := 1) (d := 17) 9 rfl (by kernel_rfl) (by kernel_rfl) (by kernel_rfl) rfl rfl rfl (fun w3 => run_quo rfl rfl rfl (by first | omega | (simp only [lens]; omega))) ?_
   refine wa_take (i := 2) (d := 18) 8 rfl (by kernel_rfl) (by kernel_rfl) (by kernel_rfl) rfl rfl rfl (fun M3 N3 w4 hle3 S4 => yield_cq rfl rfl rfl rfl rfl cf15 S4 (ih (m / 10) (by omega) _ _ _ S4.lend)) ?_
   refine wa_takeP (i := 3) (d := 19) 7 rfl (by kernel_rfl) (by kernel_rfl) (by kernel_rfl) rfl rfl rfl (fun w5 => run_move rfl rfl) ?_
   refine wa_takeP (i := 4) (d := 20) 6 rfl (by kernel_rfl) (by kernel_rfl) (by kernel_rfl) rfl rfl rfl (fun w6 => run_rem rfl rfl rfl (by first | omega | (simp only [lens]; omega))) ?_
   refine wa_takeP (i := 5) (d := 21) 5 rfl (by kernel_rfl) (by kernel_rfl) (by kernel_rfl) rfl rfl rfl (fun w7 => run_add rfl rfl rfl (by first | omega | (simp only [lens]; omega))) ?_
   refine wa_take (i := 6) (d := 22) 4 rfl (by kernel_rfl) (by kernel_rfl) (by kernel_rfl) rfl rfl rfl (fun M7 N7 w8 hle7 S8 => .inl (run_convB (s := (48 + m % 10)) rfl (by first | rfl | exact congrArg (fun z => some (Value.int .i64 z)) (by omega)) ⟨_, Tryd.underlying3⟩ Tryd.underlying5 (by first | omega | (simp only [lens]; omega)))) ?_
   refine wa_only (i := 7) 3 rfl (by kernel_rfl) rfl rfl (fun w10 S10 => ?_)
   refine (wo_buildSlice1 (C := cdB) (l := [_]) rfl rfl rfl rfl sl49 rfl rfl rfl rfl S10 ?_)
   intro gb2 w11 S11; clear S10
   refine LeftW.grow [_] (Hp.le_refl _) S11 ?_; clear S11
   change WA _ _ _ _ _ _ _ _ _ _ _ _ [_]
   refine wa_base ?_
   refine wa_take (i := 8) (d := 24) 2 rfl (by kernel_rfl) (by kernel_rfl) (by kernel_rfl) rfl rfl rfl (fun M9 N9 w12 hle9 S12 => .inl (run_text1 (s := (48 + m % 10)) (i := 0) rfl rfl Tryd.underlying49 Tryd.underlying9 Tryd.underlying5 S12.suf rfl)) ?_
   refine wa_takeP (i := 9) (d := 25) 1 rfl (by kernel_rfl) (by kernel_rfl) (by kernel_rfl) rfl rfl rfl (fun w13 => run_addS rfl rfl rfl ((by simp only [List.length_append, List.length_cons, List.length_nil]; first | omega | (simp only [lens]; omega)))) ?_
   refine wa_takeP (i := 10) (d := 2) 0 rfl (by kernel_rfl) (by kernel_rfl) (by kernel_rfl) rfl rfl rfl (fun w14 => run_assign rfl rfl) ?_
   refine wa_end (by kernel_rfl) (fun w15 S15 => ?_)
   refine nm_sub [(2, _)] ⟨rfl, trivial⟩ ?_
   refine nm_thn ?_
   refine ws_ret hC [_] rfl rfl ⟨rfl, trivial⟩ ?_
   exact ⟨_, rfl, (S15.pick [] [] (by decide) trivial), (by rw [dec_big (by omega)]; rfl)⟩
theorem dec_all : ∀ (N m : Nat), m < N → m < 10000000 → ∀ (w : World) (M : Hp) (X : Fr), SH w M X [] → Cq Tryd.prog 15 [.int .i64 (m : Int)] w M X (fun u => u = .string (sB (Lib.decDigits m))) := by
 intro N
 induction N with
 | zero => intro m h; omega
 | succ N ih =>
  intro m hN hm w M X S
  exact dec_step m hm (fun m2 h2 w M X S => ih m2 (by omega) (by omega) w M X S) S
theorem dec_u {w : World} {M : Hp} {X : Fr} (v : Int) (hv : 0 ≤ v ∧ v < 10000000) (S : SH w M X []) : Cq Tryd.prog 15 [.int .i64 v] w M X (fun u => u = .string (sB (Lib.decDigits v.toNat))) := by
 obtain ⟨m, rfl⟩ : ∃ m : Nat, v = (m : Int) := ⟨v.toNat, by omega⟩
 exact dec_all (m + 1) m (by omega) (by omega) _ _ _ S
noncomputable def DecN_n0 : Code := Tryd.f15.body.getD .skip
noncomputable def DecN_n1 : Code := cL DecN_n0
noncomputable def DecN_n2 : Code := cR DecN_n0
noncomputable def DecN_n3 : Code := cL DecN_n2
noncomputable def DecN_n4 : Code := cR DecN_n2
noncomputable def DecN_n5 : Code := cL DecN_n3
noncomputable def DecN_n6 : Code := cR DecN_n3
noncomputable def DecN_n7 : Code := cL DecN_n6
noncomputable def DecN_n8 : Code := cR DecN_n6
noncomputable def DecN_n9 : Code := cL DecN_n7
noncomputable def DecN_n10 : Code := cR DecN_n7
set_option maxRecDepth 10000 in
theorem dec_neg {w : World} {M : Hp} {X : Fr} (v : Int) (hv : -10000000 < v ∧ v < 0) (S : SH w M X []) : Cq Tryd.prog 15 [.int .i64 v] w M X (fun u => u = .string (sB (Lib.itoa v))) := by
 unfold Cq
 refine calls_in (b := DecN_n0) Tryd.func15 rfl Tryd.ntmps15 rfl (fun C hC => ?_)
 refine ws_sub [(0, _)] ⟨rfl, trivial⟩ ?_
 refine ws_seqN DecN_n1 DecN_n2 rfl rfl rfl ?_
 refine ws_region rfl ?_
 refine wla 0 1 rfl rfl rfl rfl rfl rfl rfl ?_
 refine wl_end rfl ?_
 refine nm_sub [(0, _)] ⟨rfl, trivial⟩ ?_
 refine nm_thn ?_
 refine ws_seqN DecN_n3 DecN_n4 rfl rfl rfl ?_
 refine ws_seqN DecN_n5 DecN_n6 rfl rfl rfl ?_
 refine ws_region rfl ?_
 refine wlm 0 1 rfl rfl rfl rfl rfl rfl rfl ?_
 refine wlo 1 2 rfl rfl rfl (wo_run rfl rfl (run_lss rfl rfl rfl) ?_)
 refine wl_end rfl ?_
 refine nm_sub [(0, _), (4, _)] ⟨rfl, rfl, trivial⟩ ?_
 refine nm_thn ?_
 refine ws_condN DecN_n7 DecN_n8 rfl rfl rfl rfl (fun hb4 => ?_) (fun hb4 => ?_)
 ·replace hb4 := of_decide_eq_true hb4
  have hdl := dec7 (m := (-v).toNat) (by omega)
  refine ws_seqN DecN_n9 DecN_n10 rfl rfl rfl ?_
  refine ws_region rfl ?_
  refine wlm 0 1 rfl rfl rfl rfl rfl rfl rfl ?_
  refine wlo 1 2 rfl rfl rfl (wo_run rfl rfl (run_neg rfl rfl (by first | omega | (simp only [lens]; omega))) ?_)
  refine wlo 2 3 rfl rfl rfl (wo_cq rfl rfl rfl rfl rfl rfl rfl cf15 S (dec_u (-v) ((by omega)) S.lend) ?_)
  rintro _ w1 S1 rfl; clear S
  refine wlo 3 4 rfl rfl rfl (wo_run rfl rfl (run_addS rfl rfl rfl ((by simp only [List.length_append, List.length_cons, List.length_nil]; first | omega | (simp only [lens]; omega)))) ?_)
  refine wla 4 5 rfl rfl rfl rfl rfl rfl rfl ?_
  refine wl_end rfl ?_
  refine nm_sub [(2, _)] ⟨rfl, trivial⟩ ?_
  refine nm_thn ?_
  refine ws_ret hC [_] rfl rfl ⟨rfl, trivial⟩ ?_
  exact ⟨_, rfl, (S1.pick [] [] (by decide) trivial), (by rw [itoa_neg (by omega), show v.natAbs = (-v).toNat by omega]; rfl)⟩
 ·replace hb4 := of_decide_eq_false hb4
  exfalso; omega
theorem dec_z {w : World} {M : Hp} {X : Fr} (v : Int) (hv : -10000000 < v ∧ v < 10000000) (S : SH w M X []) : Cq Tryd.prog 15 [.int .i64 v] w M X (fun u => u = .string (sB (Lib.itoa v))) := by
 by_cases h : v < 0
 ·exact dec_neg v ⟨hv.1, h⟩ S
 ·rw [itoa_pos (by omega)]
  exact dec_u v ⟨by omega, by omega⟩ S
structure Tm where
 e : Int
 c : Int
instance : Inhabited Tm := ⟨⟨0, 0⟩⟩
def tmF (t : Tm) : List Value := [.int .i64 t.e, .int .i64 t.c]
def cdTm : Cd Tm := ⟨tmF, 2, 16, 37, ⟨0, 0⟩, fun _ => rfl, by
 intro x u hu
 simp [tmF] at hu
 rcases hu with rfl | rfl <;> rfl⟩
/-- A list of terms that may be handed in. -/
def okT (a : List Tm) (i : Nat) : Prop := (-1000 ≤ (ga a i).e ∧ (ga a i).e ≤ 1000) ∧ (-1000000 ≤ (ga a i).c ∧ (ga a i).c ≤ 1000000) ∧ (ga a i).c ≠ 0 ∧ (0 < i → (ga a ((i : Int) - 1).toNat).e < (ga a i).e)
instance (a : List Tm) (i : Nat) : Decidable (okT a i) := by unfold okT; infer_instance
def mayT (a : List Tm) : Bool := decide (a.length ≤ 64 ∧ ∀ i, i < a.length → okT a i)
theorem mayT_may {a : List Tm} (h : mayT a = true) : a.length ≤ 64 ∧ ∀ i, i < a.length → okT a i := of_decide_eq_true h
def LsE (a : List Tm) (u : Value) (N : Hp) : Prop := ∃ A c, u = .slice A a.length c ∧ RdA cdTm N A c a
theorem sl22 : SlOf Tryd.prog 22 cdTm := ⟨.agg [.int .i64 0, .int .i64 0].toArray, Tryd.underlying22, by kernel_rfl, rfl, by decide, by decide⟩
noncomputable def terms_n0 : Code := Tryd.f6.body.getD .skip
noncomputable def terms_n1 : Code := cL terms_n0
noncomputable def terms_n2 : Code := cR terms_n0
noncomputable def terms_n3 : Code := cL terms_n2
noncomputable def terms_n4 : Code := cR terms_n2
set_option maxRecDepth 10000 in
theorem terms_t {w : World} {M : Hp} {X : Fr} (a : List Tm) {aA : Option Addr} {ac : Nat} (ha : RdA cdTm (M.un X.h) aA ac a) (S : SH w M X []) : Ct Tryd.prog 6 [.slice aA a.length ac] w M X (LsE a) := by
 unfold Ct
 have rmha : a.length * 16 ≤ 140737488355328 := ha.room
 refine calls_in (b := terms_n0) Tryd.func6 rfl Tryd.ntmps6 rfl (fun C hC => ?_)
 refine ws_sub [(0, _)] ⟨rfl, trivial⟩ ?_
 refine ws_seqN terms_n1 terms_n2 rfl rfl rfl ?_
 refine ws_region rfl ?_
 refine wla 0 1 rfl rfl rfl rfl rfl rfl rfl ?_
 refine wl_end rfl ?_
 refine nm_sub [(0, _)] ⟨rfl, trivial⟩ ?_
 refine nm_thn ?_
 refine ws_seqN terms_n3 terms_n4 rfl rfl rfl ?_
 refine ws_region rfl ?_
 refine wlm 0 1 rfl rfl rfl rfl rfl rfl rfl ?_
 have S1 := S.nilrow cdTm; clear S
 refine wlo 1 2 rfl rfl rfl (wo_appendM (C := cdTm) (i := 0) rfl rfl rfl rfl rfl rfl rfl rfl sl22 S1 rfl ha S1.um (by have h : _ * 16 ≤ _ := ha.room; show (0 + _) * 16 ≤ _; first | omega | (simp only [lens]; omega)) ?_)
 intro vr2 w1 S2; clear S1
 change SH _ _ _ [Rs.row cdTm vr2 a] at S2
 refine wla 2 3 rfl rfl rfl rfl rfl rfl rfl ?_
 refine wl_end rfl ?_
 refine nm_sub [(2, _)] ⟨rfl, trivial⟩ ?_
 refine nm_thn ?_
 obtain ⟨M1, hle1, S3, ⟨A1, c1, e1, hr1⟩⟩ := S2.pubrow (i := 0) (H' := [_]) rfl rfl (by show _ * 16 ≤ _; first | omega | (simp only [lens]; omega))
 clear S2; subst e1
 replace ha := ha.mono (Hp.un_mono hle1 S3.mx)
 refine ws_ret hC [_] rfl rfl ⟨rfl, trivial⟩ ?_
 refine ⟨_, rfl, _, hle1, (S3.pick [] [] (by decide) trivial), ?_⟩
 exact ⟨_, _, rfl, hr1⟩
noncomputable def May_n0 : Code := Tryd.f13.body.getD .skip
noncomputable def May_n1 : Code := cL May_n0
noncomputable def May_n2 : Code := cR May_n0
noncomputable def May_n3 : Code := cL May_n2
noncomputable def May_n4 : Code := cR May_n2
noncomputable def May_n5 : Code := cL May_n3
noncomputable def May_n6 : Code := cR May_n3
noncomputable def May_n7 : Code := cL May_n6
noncomputable def May_n8 : Code := cR May_n6
noncomputable def May_n9 : Code := cL May_n7
noncomputable def May_n10 : Code := cR May_n7
noncomputable def May_n11 : Code := cL May_n4
noncomputable def May_n12 : Code := cR May_n4
noncomputable def May_n13 : Code := cL May_n11
noncomputable def May_n14 : Code := cR May_n11
noncomputable def May_n15 : Code := cL May_n14
noncomputable def May_n16 : Code := cL May_n15
noncomputable def May_n17 : Code := cL May_n16
noncomputable def May_n18 : Code := cR May_n16
noncomputable def May_n19 : Code := cL May_n18
noncomputable def May_n20 : Code := cR May_n18
noncomputable def May_n21 : Code := cL May_n19
noncomputable def May_n22 : Code := cR May_n19
noncomputable def May_n23 : Code := cL May_n20
noncomputable def May_n24 : Code := cR May_n20
noncomputable def May_n25 : Code := cL May_n23
noncomputable def May_n26 : Code := cL May_n25
noncomputable def May_n27 : Code := cR May_n25
noncomputable def May_n28 : Code := cL May_n27
noncomputable def May_n29 : Code := cR May_n27
noncomputable def May_n30 : Code := cL May_n29
noncomputable def May_n31 : Code := cR May_n29
noncomputable def May_n32 : Code := cL May_n30
noncomputable def May_n33 : Code := cR May_n30
noncomputable def May_n34 : Code := cL May_n12
noncomputable def May_n35 : Code := cR May_n12
set_option maxHeartbeats 1000000 in
set_option maxRecDepth 10000 in
theorem May_q {w : World} {M : Hp} {X : Fr} (a : List Tm) {aA : Option Addr} {ac : Nat} (ha : RdA cdTm (M.un X.h) aA ac a) (S : SH w M X []) : Cq Tryd.prog 13 [.slice aA a.length ac] w M X (fun u => u = .bool (mayT a)) := by
 unfold Cq
 have rmha : a.length * 16 ≤ 140737488355328 := ha.room
 refine calls_in (b := May_n0) Tryd.func13 rfl Tryd.ntmps13 rfl (fun C hC => ?_)
 refine ws_sub [(0, _)] ⟨rfl, trivial⟩ ?_
 refine ws_seqN May_n1 May_n2 rfl rfl rfl ?_
 refine ws_region rfl ?_
 refine wla 0 1 rfl rfl rfl rfl rfl rfl rfl ?_
 refine wl_end rfl ?_
 refine nm_sub [(0, _)] ⟨rfl, trivial⟩ ?_
 refine nm_thn ?_
 refine ws_seqN May_n3 May_n4 rfl rfl rfl ?_
 refine ws_seqN May_n5 May_n6 rfl rfl rfl ?_
 refine ws_region rfl ?_
 refine wlm 0 1 rfl rfl rfl rfl rfl rfl rfl ?_
 refine wlo 1 2 rfl rfl rfl (wo_run rfl rfl (run_len rfl rfl rfl rfl rfl rfl Tryd.underlying22) ?_)
 refine wlo 2 3 rfl rfl rfl (wo_run rfl rfl (run_gtr rfl rfl rfl) ?_)
 refine wl_end rfl ?_
 refine nm_sub [(0, _), (7, _)] ⟨rfl, rfl, trivial⟩ ?_
 refine nm_thn ?_
 refine ws_condN May_n7 May_n8 rfl rfl rfl rfl (fun hb7 => ?_) (fun hb7 => ?_)
 ·replace hb7 := of_decide_eq_true hb7
  refine ws_seqN May_n9 May_n10 rfl rfl rfl ?_
  refine ws_region rfl ?_
  refine wla 0 1 rfl rfl rfl rfl rfl rfl rfl ?_
  refine wl_end rfl ?_
  refine nm_sub [(2, _)] ⟨rfl, trivial⟩ ?_
  refine nm_thn ?_
  refine ws_ret hC [_] rfl rfl ⟨rfl, trivial⟩ ?_
  exact ⟨_, rfl, (S.pick [] [] (by decide) trivial), (congrArg Value.bool (Eq.symm (decide_eq_false (fun h => by first | (have := h.1; omega) | (have h9 := h.2 i (by omega); unfold okT at h9; omega)))))⟩
 ·replace hb7 := of_decide_eq_false hb7
  refine ws_skip rfl ?_
  refine nm_sub [(0, _)] ⟨rfl, trivial⟩ ?_
  refine nm_thn ?_
  refine ws_seqN May_n11 May_n12 rfl rfl rfl ?_
  refine ws_seqN May_n13 May_n14 rfl rfl rfl ?_
  refine ws_region rfl ?_
  refine wlm 0 1 rfl rfl rfl rfl rfl rfl rfl ?_
  refine wlo 1 2 rfl rfl rfl (wo_run rfl rfl (run_len rfl rfl rfl rfl rfl rfl Tryd.underlying22) ?_)
  refine wlm 2 3 rfl rfl rfl rfl rfl rfl rfl ?_
  refine wl_end rfl ?_
  refine nm_thn ?_
  refine ws_blockN May_n15 0 rfl rfl rfl ?_
  refine ws_loopE (fun mx_ ax_ wx_ => ∃ (i : Nat), mx_ = a.length - i ∧ Env 54 [(0, .slice aA a.length ac), (8, .slice aA a.length ac), (9, .int .i64 (a.length : Int)), (10, .int .i64 (i : Int))] ax_ ∧ SH wx_ M X [] ∧ i ≤ a.length ∧ (∀ j, j < i → okT a j)) rfl ?_ ?_
  ·intro ax_ hax_
   refine ⟨_, ⟨0, rfl, hax_.sub ⟨rfl, rfl, rfl, rfl, trivial⟩, S.pick [] [] (by decide) trivial, ?hq1f0, ?hq1f1⟩⟩
   case hq1f0 => omega
   case hq1f1 => (intro j hj; omega)
  ·rintro m1 a1 w1 ⟨i, rfl, he1, S1, hi, hok⟩
   clear S
   refine ws_in he1 (c := May_n16) rfl ?_
   clear he1 a1
   refine ws_seqN May_n17 May_n18 rfl rfl rfl ?_
   refine ws_region rfl ?_
   refine wlo 0 1 rfl rfl rfl (wo_run rfl rfl (run_lss rfl rfl rfl) ?_)
   refine wl_end rfl ?_
   refine nm_thn ?_
   refine ws_seqN May_n19 May_n20 rfl rfl rfl ?_
   refine ws_condN May_n21 May_n22 rfl rfl rfl rfl (fun hb11 => ?_) (fun hb11 => ?_)
   ·replace hb11 := of_decide_eq_true hb11
    refine ws_skip rfl ?_
    refine nm_sub [(0, _), (8, _), (9, _), (10, _)] ⟨rfl, rfl, rfl, rfl, trivial⟩ ?_
    refine nm_thn ?_
    refine ws_seqN May_n23 May_n24 rfl rfl rfl ?_
    refine ws_blockN May_n25 1 rfl rfl rfl ?_
    refine ws_seqN May_n26 May_n27 rfl rfl rfl ?_
    refine ws_region rfl ?_
    refine wlm 0 1 rfl rfl rfl rfl rfl rfl rfl ?_
    refine wlo 1 2 rfl rfl rfl (wo_run rfl rfl (run_indexM (C := cdTm) i rfl rfl rfl sl22 (by first | rfl | omega) ha (by first | omega | (simp only [lens]; omega))) ?_)
    refine wlo 2 3 rfl rfl rfl (wo_run rfl rfl (run_loadN (us := [_, _]) rfl rfl Tryd.underlying37 rfl sz37 (ha.cellsAt S1.um (e := i) (by first | omega | (simp only [lens]; omega)) (j := 0) ⟨rfl, rfl, trivial⟩)) ?_)
    refine wlo 3 4 rfl rfl rfl (wo_alloc (l := [_, _]) rfl rfl rfl zr37 rfl S1 ?_)
    intro gb1 w2 S2; clear S1
    refine wla 4 5 rfl rfl rfl rfl rfl rfl rfl ?_
    refine wlo 5 6 rfl rfl rfl (wo_storeB (i := 0) (us := [_, _]) (l' := [_, _]) (H' := [_]) rfl rfl S2 rfl rfl rfl rfl sz37 rfl rfl rfl rfl ?_)
    intro w3 S3; clear S2
    refine wl_end rfl ?_
    refine nm_sub [(0, _), (8, _), (9, _), (10, _), (4, _), (3, _)] ⟨rfl, rfl, rfl, rfl, rfl, rfl, trivial⟩ ?_
    refine nm_thn ?_
    refine ws_seqN May_n28 May_n29 rfl rfl rfl ?_
    refine ws_draw rfl (by kernel_rfl) S3 38 rfl ?_
    clear S3
    refine wa_takeP (i := 0) (d := 15) 37 rfl (by kernel_rfl) (by kernel_rfl) (by kernel_rfl) rfl rfl rfl (fun w4 => run_fieldAddr rfl rfl Tryd.underlying37 rfl (ce3) (nf3)) ?_
    refine wa_take (i := 1) (d := 16) 36 rfl (by kernel_rfl) (by kernel_rfl) (by kernel_rfl) rfl rfl rfl (fun M2 N2 w5 hle3 S5 => .inl (run_load1 rfl rfl Tryd.underlying3 rfl (S5.suf.boxc (i := 0) rfl rfl))) ?_
    refine wa_takeP (i := 2) (d := 17) 35 rfl (by kernel_rfl) (by kernel_rfl) (by kernel_rfl) rfl rfl rfl (fun w6 => run_lss rfl rfl rfl) ?_
    refine wa_takeP (i := 3) (d := 18) 34 rfl (by kernel_rfl) (by kernel_rfl) (by kernel_rfl) rfl rfl rfl (fun w7 => run_move rfl rfl) ?_
    refine wa_split (t := 18) rfl (fun hg18 => ?_) (fun hg18 => ?_)
    ·replace hg18 := of_decide_eq_true hg18
     refine wa_no (i := 4) (d := 19) 33 rfl (by kernel_rfl) (by kernel_rfl) (by kernel_rfl) ⟨_, _, _, rfl, rfl, rfl, rfl⟩ rfl rfl ?_
     refine wa_no (i := 5) (d := 20) 32 rfl (by kernel_rfl) (by kernel_rfl) (by kernel_rfl) ⟨_, _, _, rfl, rfl, rfl, rfl⟩ rfl rfl ?_
     refine wa_no (i := 6) (d := 21) 31 rfl (by kernel_rfl) (by kernel_rfl) (by kernel_rfl) ⟨_, _, _, rfl, rfl, rfl, rfl⟩ rfl rfl ?_
     refine wa_takeP (i := 7) (d := 22) 30 rfl (by kernel_rfl) (by kernel_rfl) (by kernel_rfl) rfl rfl rfl (fun w8 => run_pickT rfl rfl rfl) ?_
     refine wa_takeP (i := 8) (d := 23) 29 rfl (by kernel_rfl) (by kernel_rfl) (by kernel_rfl) rfl rfl rfl (fun w9 => run_move rfl rfl) ?_
     refine wa_no (i := 9) (d := 24) 28 rfl (by kernel_rfl) (by kernel_rfl) (by kernel_rfl) ⟨_, _, _, rfl, rfl, rfl, rfl⟩ rfl rfl ?_
     refine wa_no (i := 10) (d := 25) 27 rfl (by kernel_rfl) (by kernel_rfl) (by kernel_rfl) ⟨_, _, _, rfl, rfl, rfl, rfl⟩ rfl rfl ?_
     refine wa_no (i := 11) (d := 26) 26 rfl (by kernel_rfl) (by kernel_rfl) (by kernel_rfl) ⟨_, _, _, rfl, rfl, rfl, rfl⟩ rfl rfl ?_
     refine wa_takeP (i := 12) (d := 27) 25 rfl (by kernel_rfl) (by kernel_rfl) (by kernel_rfl) rfl rfl rfl (fun w10 => run_pickT rfl rfl rfl) ?_
     refine wa_takeP (i := 13) (d := 28) 24 rfl (by kernel_rfl) (by kernel_rfl) (by kernel_rfl) rfl rfl rfl (fun w11 => run_move rfl rfl) ?_
     refine wa_no (i := 14) (d := 29) 23 rfl (by kernel_rfl) (by kernel_rfl) (by kernel_rfl) ⟨_, _, _, rfl, rfl, rfl, rfl⟩ rfl rfl ?_
     refine wa_no (i := 15) (d := 30) 22 rfl (by kernel_rfl) (by kernel_rfl) (by kernel_rfl) ⟨_, _, _, rfl, rfl, rfl, rfl⟩ rfl rfl ?_
     refine wa_no (i := 16) (d := 31) 21 rfl (by kernel_rfl) (by kernel_rfl) (by kernel_rfl) ⟨_, _, _, rfl, rfl, rfl, rfl⟩ rfl rfl ?_
     refine wa_takeP (i := 17) (d := 32) 20 rfl (by kernel_rfl) (by kernel_rfl) (by kernel_rfl) rfl rfl rfl (fun w12 => run_pickT rfl rfl rfl) ?_
     refine wa_takeP (i := 18) (d := 33) 19 rfl (by kernel_rfl) (by kernel_rfl) (by kernel_rfl) rfl rfl rfl (fun w13 => run_move rfl rfl) ?_
     refine wa_no (i := 19) (d := 34) 18 rfl (by kernel_rfl) (by kernel_rfl) (by kernel_rfl) ⟨_, _, _, rfl, rfl, rfl, rfl⟩ rfl rfl ?_
     refine wa_no (i := 20) (d := 35) 17 rfl (by kernel_rfl) (by kernel_rfl) (by kernel_rfl) ⟨_, _, _, rfl, rfl, rfl, rfl⟩ rfl rfl ?_
     refine wa_no (i := 21) (d := 36) 16 rfl (by kernel_rfl) (by kernel_rfl) (by kernel_rfl) ⟨_, _, _, rfl, rfl, rfl, rfl⟩ rfl rfl ?_
     refine wa_takeP (i := 22) (d := 37) 15 rfl (by kernel_rfl) (by kernel_rfl) (by kernel_rfl) rfl rfl rfl (fun w14 => run_pickT rfl rfl rfl) ?_
     refine wa_takeP (i := 23) (d := 38) 14 rfl (by kernel_rfl) (by kernel_rfl) (by kernel_rfl) rfl rfl rfl (fun w15 => run_move rfl rfl) ?_
     refine wa_no (i := 24) (d := 39) 13 rfl (by kernel_rfl) (by kernel_rfl) (by kernel_rfl) ⟨_, _, _, rfl, rfl, rfl, rfl⟩ rfl rfl ?_
     refine wa_no (i := 25) (d := 40) 12 rfl (by kernel_rfl) (by kernel_rfl) (by kernel_rfl) ⟨_, _, _, rfl, rfl, rfl, rfl⟩ rfl rfl ?_
     refine wa_no (i := 26) (d := 41) 11 rfl (by kernel_rfl) (by kernel_rfl) (by kernel_rfl) ⟨_, _, _, rfl, rfl, rfl, rfl⟩ rfl rfl ?_
     refine wa_no (i := 27) (d := 42) 10 rfl (by kernel_rfl) (by kernel_rfl) (by kernel_rfl) ⟨_, _, _, rfl, rfl, rfl, rfl⟩ rfl rfl ?_
     refine wa_no (i := 28) (d := 43) 9 rfl (by kernel_rfl) (by kernel_rfl) (by kernel_rfl) ⟨_, _, _, rfl, rfl, rfl, rfl⟩ rfl rfl ?_
     refine wa_no (i := 29) (d := 44) 8 rfl (by kernel_rfl) (by kernel_rfl) (by kernel_rfl) ⟨_, _, _, rfl, rfl, rfl, rfl⟩ rfl rfl ?_
     refine wa_no (i := 30) (d := 45) 7 rfl (by kernel_rfl) (by kernel_rfl) (by kernel_rfl) ⟨_, _, _, rfl, rfl, rfl, rfl⟩ rfl rfl ?_
     refine wa_no (i := 31) (d := 46) 6 rfl (by kernel_rfl) (by kernel_rfl) (by kernel_rfl) ⟨_, _, _, rfl, rfl, rfl, rfl⟩ rfl rfl ?_
     refine wa_no (i := 32) (d := 47) 5 rfl (by kernel_rfl) (by kernel_rfl) (by kernel_rfl) ⟨_, _, _, rfl, rfl, rfl, rfl⟩ rfl rfl ?_
     refine wa_no (i := 33) (d := 48) 4 rfl (by kernel_rfl) (by kernel_rfl) (by kernel_rfl) ⟨_, _, _, rfl, rfl, rfl, rfl⟩ rfl rfl ?_
     refine wa_no (i := 34) (d := 49) 3 rfl (by kernel_rfl) (by kernel_rfl) (by kernel_rfl) ⟨_, _, _, rfl, rfl, rfl, rfl⟩ rfl rfl ?_
     refine wa_no (i := 35) (d := 50) 2 rfl (by kernel_rfl) (by kernel_rfl) (by kernel_rfl) ⟨_, _, _, rfl, rfl, rfl, rfl⟩ rfl rfl ?_
     refine wa_no (i := 36) (d := 51) 1 rfl (by kernel_rfl) (by kernel_rfl) (by kernel_rfl) ⟨_, _, _, rfl, rfl, rfl, rfl⟩ rfl rfl ?_
     refine wa_takeP (i := 37) (d := 52) 0 rfl (by kernel_rfl) (by kernel_rfl) (by kernel_rfl) rfl rfl rfl (fun w16 => run_pickT rfl rfl rfl) ?_
     refine wa_end (by kernel_rfl) (fun w17 S17 => ?_)
     refine nm_sub [(0, _), (8, _), (9, _), (10, _), (52, _)] ⟨rfl, rfl, rfl, rfl, rfl, trivial⟩ ?_
     refine nm_thn ?_
     refine ws_condTN May_n30 rfl rfl rfl ?_
     refine ws_seqN May_n32 May_n33 rfl rfl rfl ?_
     refine ws_region rfl ?_
     refine wla 0 1 rfl rfl rfl rfl rfl rfl rfl ?_
     refine wl_end rfl ?_
     refine nm_sub [(2, _)] ⟨rfl, trivial⟩ ?_
     refine nm_thn ?_
     refine ws_ret hC [_] rfl rfl ⟨rfl, trivial⟩ ?_
     exact ⟨_, rfl, (S17.pick [] [] (by decide) trivial), (congrArg Value.bool (Eq.symm (decide_eq_false (fun h => by first | (have := h.1; omega) | (have h9 := h.2 i (by omega); unfold okT at h9; omega)))))⟩
    ·replace hg18 := of_decide_eq_false hg18
     refine wa_takeP (i := 4) (d := 19) 33 rfl (by kernel_rfl) (by kernel_rfl) (by kernel_rfl) ⟨_, _, _, rfl, rfl, rfl, rfl⟩ rfl rfl (fun w18 => run_fieldAddr rfl rfl Tryd.underlying37 rfl (ce3) (nf3)) ?_
     refine wa_take (i := 5) (d := 20) 32 rfl (by kernel_rfl) (by kernel_rfl) (by kernel_rfl) ⟨_, _, _, rfl, rfl, rfl, rfl⟩ rfl rfl (fun M15 N15 w19 hle16 S19 => .inl (run_load1 rfl rfl Tryd.underlying3 rfl (S19.suf.boxc (i := 0) rfl rfl))) ?_
     refine wa_takeP (i := 6) (d := 21) 31 rfl (by kernel_rfl) (by kernel_rfl) (by kernel_rfl) ⟨_, _, _, rfl, rfl, rfl, rfl⟩ rfl rfl (fun w20 => run_gtr rfl rfl rfl) ?_
     refine wa_takeP (i := 7) (d := 22) 30 rfl (by kernel_rfl) (by kernel_rfl) (by kernel_rfl) rfl rfl rfl (fun w21 => run_pickF rfl rfl rfl) ?_
     refine wa_takeP (i := 8) (d := 23) 29 rfl (by kernel_rfl) (by kernel_rfl) (by kernel_rfl) rfl rfl rfl (fun w22 => run_move rfl rfl) ?_
     refine wa_split (t := 23) rfl (fun hg23 => ?_) (fun hg23 => ?_)
     ·replace hg23 := of_decide_eq_true hg23
      refine wa_no (i := 9) (d := 24) 28 rfl (by kernel_rfl) (by kernel_rfl) (by kernel_rfl) ⟨_, _, _, rfl, rfl, rfl, rfl⟩ rfl rfl ?_
      refine wa_no (i := 10) (d := 25) 27 rfl (by kernel_rfl) (by kernel_rfl) (by kernel_rfl) ⟨_, _, _, rfl, rfl, rfl, rfl⟩ rfl rfl ?_
      refine wa_no (i := 11) (d := 26) 26 rfl (by kernel_rfl) (by kernel_rfl) (by kernel_rfl) ⟨_, _, _, rfl, rfl, rfl, rfl⟩ rfl rfl ?_
      refine wa_takeP (i := 12) (d := 27) 25 rfl (by kernel_rfl) (by kernel_rfl) (by kernel_rfl) rfl rfl rfl (fun w23 => run_pickT rfl rfl rfl) ?_
      refine wa_takeP (i := 13) (d := 28) 24 rfl (by kernel_rfl) (by kernel_rfl) (by kernel_rfl) rfl rfl rfl (fun w24 => run_move rfl rfl) ?_
      refine wa_no (i := 14) (d := 29) 23 rfl (by kernel_rfl) (by kernel_rfl) (by kernel_rfl) ⟨_, _, _, rfl, rfl, rfl, rfl⟩ rfl rfl ?_
      refine wa_no (i := 15) (d := 30) 22 rfl (by kernel_rfl) (by kernel_rfl) (by kernel_rfl) ⟨_, _, _, rfl, rfl, rfl, rfl⟩ rfl rfl ?_
      refine wa_no (i := 16) (d := 31) 21 rfl (by kernel_rfl) (by kernel_rfl) (by kernel_rfl) ⟨_, _, _, rfl, rfl, rfl, rfl⟩ rfl rfl ?_
      refine wa_takeP (i := 17) (d := 32) 20 rfl (by kernel_rfl) (by kernel_rfl) (by kernel_rfl) rfl rfl rfl (fun w25 => run_pickT rfl rfl rfl) ?_
      refine wa_takeP (i := 18) (d := 33) 19 rfl (by kernel_rfl) (by kernel_rfl) (by kernel_rfl) rfl rfl rfl (fun w26 => run_move rfl rfl) ?_
      refine wa_no (i := 19) (d := 34) 18 rfl (by kernel_rfl) (by kernel_rfl) (by kernel_rfl) ⟨_, _, _, rfl, rfl, rfl, rfl⟩ rfl rfl ?_
      refine wa_no (i := 20) (d := 35) 17 rfl (by kernel_rfl) (by kernel_rfl) (by kernel_rfl) ⟨_, _, _, rfl, rfl, rfl, rfl⟩ rfl rfl ?_
      refine wa_no (i := 21) (d := 36) 16 rfl (by kernel_rfl) (by kernel_rfl) (by kernel_rfl) ⟨_, _, _, rfl, rfl, rfl, rfl⟩ rfl rfl ?_
      refine wa_takeP (i := 22) (d := 37) 15 rfl (by kernel_rfl) (by kernel_rfl) (by kernel_rfl) rfl rfl rfl (fun w27 => run_pickT rfl rfl rfl) ?_
      refine wa_takeP (i := 23) (d := 38) 14 rfl (by kernel_rfl) (by kernel_rfl) (by kernel_rfl) rfl rfl rfl (fun w28 => run_move rfl rfl) ?_
      refine wa_no (i := 24) (d := 39) 13 rfl (by kernel_rfl) (by kernel_rfl) (by kernel_rfl) ⟨_, _, _, rfl, rfl, rfl, rfl⟩ rfl rfl ?_
      refine wa_no (i := 25) (d := 40) 12 rfl (by kernel_rfl) (by kernel_rfl) (by kernel_rfl) ⟨_, _, _, rfl, rfl, rfl, rfl⟩ rfl rfl ?_
      refine wa_no (i := 26) (d := 41) 11 rfl (by kernel_rfl) (by kernel_rfl) (by kernel_rfl) ⟨_, _, _, rfl, rfl, rfl, rfl⟩ rfl rfl ?_
      refine wa_no (i := 27) (d := 42) 10 rfl (by kernel_rfl) (by kernel_rfl) (by kernel_rfl) ⟨_, _, _, rfl, rfl, rfl, rfl⟩ rfl rfl ?_
      refine wa_no (i := 28) (d := 43) 9 rfl (by kernel_rfl) (by kernel_rfl) (by kernel_rfl) ⟨_, _, _, rfl, rfl, rfl, rfl⟩ rfl rfl ?_
      refine wa_no (i := 29) (d := 44) 8 rfl (by kernel_rfl) (by kernel_rfl) (by kernel_rfl) ⟨_, _, _, rfl, rfl, rfl, rfl⟩ rfl rfl ?_
      refine wa_no (i := 30) (d := 45) 7 rfl (by kernel_rfl) (by kernel_rfl) (by kernel_rfl) ⟨_, _, _, rfl, rfl, rfl, rfl⟩ rfl rfl ?_
      refine wa_no (i := 31) (d := 46) 6 rfl (by kernel_rfl) (by kernel_rfl) (by kernel_rfl) ⟨_, _, _, rfl, rfl, rfl, rfl⟩ rfl rfl ?_
      refine wa_no (i := 32) (d := 47) 5 rfl (by kernel_rfl) (by kernel_rfl) (by kernel_rfl) ⟨_, _, _, rfl, rfl, rfl, rfl⟩ rfl rfl ?_
      refine wa_no (i := 33) (d := 48) 4 rfl (by kernel_rfl) (by kernel_rfl) (by kernel_rfl) ⟨_, _, _, rfl, rfl, rfl, rfl⟩ rfl rfl ?_
      refine wa_no (i := 34) (d := 49) 3 rfl (by kernel_rfl) (by kernel_rfl) (by kernel_rfl) ⟨_, _, _, rfl, rfl, rfl, rfl⟩ rfl rfl ?_
      refine wa_no (i := 35) (d := 50) 2 rfl (by kernel_rfl) (by kernel_rfl) (by kernel_rfl) ⟨_, _, _, rfl, rfl, rfl, rfl⟩ rfl rfl ?_
      refine wa_no (i := 36) (d := 51) 1 rfl (by kernel_rfl) (by kernel_rfl) (by kernel_rfl) ⟨_, _, _, rfl, rfl, rfl, rfl⟩ rfl rfl ?_
      refine wa_takeP (i := 37) (d := 52) 0 rfl (by kernel_rfl) (by kernel_rfl) (by kernel_rfl) rfl rfl rfl (fun w29 => run_pickT rfl rfl rfl) ?_
      refine wa_end (by kernel_rfl) (fun w30 S30 => ?_)
      refine nm_sub [(0, _), (8, _), (9, _), (10, _), (52, _)] ⟨rfl, rfl, rfl, rfl, rfl, trivial⟩ ?_
      refine nm_thn ?_
      refine ws_condTN May_n30 rfl rfl rfl ?_
      refine ws_seqN May_n32 May_n33 rfl rfl rfl ?_
      refine ws_region rfl ?_
      refine wla 0 1 rfl rfl rfl rfl rfl rfl rfl ?_
      refine wl_end rfl ?_
      refine nm_sub [(2, _)] ⟨rfl, trivial⟩ ?_
      refine nm_thn ?_
      refine ws_ret hC [_] rfl rfl ⟨rfl, trivial⟩ ?_
      exact ⟨_, rfl, (S30.pick [] [] (by decide) trivial), (congrArg Value.bool (Eq.symm (decide_eq_false (fun h => by first | (have := h.1; omega) | (have h9 := h.2 i (by omega); unfold okT at h9; omega)))))⟩
     ·replace hg23 := of_decide_eq_false hg23
      refine wa_takeP (i := 9) (d := 24) 28 rfl (by kernel_rfl) (by kernel_rfl) (by kernel_rfl) ⟨_, _, _, rfl, rfl, rfl, rfl⟩ rfl rfl (fun w31 => run_fieldAddr rfl rfl Tryd.underlying37 rfl (ce3) (nf3)) ?_
      refine wa_take (i := 10) (d := 25) 27 rfl (by kernel_rfl) (by kernel_rfl) (by kernel_rfl) ⟨_, _, _, rfl, rfl, rfl, rfl⟩ rfl rfl (fun M27 N27 w32 hle28 S32 => .inl (run_load1 rfl rfl Tryd.underlying3 rfl (S32.suf.boxc (i := 0) rfl rfl))) ?_
      refine wa_takeP (i := 11) (d := 26) 26 rfl (by kernel_rfl) (by kernel_rfl) (by kernel_rfl) ⟨_, _, _, rfl, rfl, rfl, rfl⟩ rfl rfl (fun w33 => run_lss rfl rfl rfl) ?_
      refine wa_takeP (i := 12) (d := 27) 25 rfl (by kernel_rfl) (by kernel_rfl) (by kernel_rfl) rfl rfl rfl (fun w34 => run_pickF rfl rfl rfl) ?_
      refine wa_takeP (i := 13) (d := 28) 24 rfl (by kernel_rfl) (by kernel_rfl) (by kernel_rfl) rfl rfl rfl (fun w35 => run_move rfl rfl) ?_
      refine wa_split (t := 28) rfl (fun hg28 => ?_) (fun hg28 => ?_)
      ·replace hg28 := of_decide_eq_true hg28
       refine wa_no (i := 14) (d := 29) 23 rfl (by kernel_rfl) (by kernel_rfl) (by kernel_rfl) ⟨_, _, _, rfl, rfl, rfl, rfl⟩ rfl rfl ?_
       refine wa_no (i := 15) (d := 30) 22 rfl (by kernel_rfl) (by kernel_rfl) (by kernel_rfl) ⟨_, _, _, rfl, rfl, rfl, rfl⟩ rfl rfl ?_
       refine wa_no (i := 16) (d := 31) 21 rfl (by kernel_rfl) (by kernel_rfl) (by kernel_rfl) ⟨_, _, _, rfl, rfl, rfl, rfl⟩ rfl rfl ?_
       refine wa_takeP (i := 17) (d := 32) 20 rfl (by kernel_rfl) (by kernel_rfl) (by kernel_rfl) rfl rfl rfl (fun w36 => run_pickT rfl rfl rfl) ?_
       refine wa_takeP (i := 18) (d := 33) 19 rfl (by kernel_rfl) (by kernel_rfl) (by kernel_rfl) rfl rfl rfl (fun w37 => run_move rfl rfl) ?_
       refine wa_no (i := 19) (d := 34) 18 rfl (by kernel_rfl) (by kernel_rfl) (by kernel_rfl) ⟨_, _, _, rfl, rfl, rfl, rfl⟩ rfl rfl ?_
       refine wa_no (i := 20) (d := 35) 17 rfl (by kernel_rfl) (by kernel_rfl) (by kernel_rfl) ⟨_, _, _, rfl, rfl, rfl, rfl⟩ rfl rfl ?_
       refine wa_no (i := 21) (d := 36) 16 rfl (by kernel_rfl) (by kernel_rfl) (by kernel_rfl) ⟨_, _, _, rfl, rfl, rfl, rfl⟩ rfl rfl ?_
       refine wa_takeP (i := 22) (d := 37) 15 rfl (by kernel_rfl) (by kernel_rfl) (by kernel_rfl) rfl rfl rfl (fun w38 => run_pickT rfl rfl rfl) ?_
       refine wa_takeP (i := 23) (d := 38) 14 rfl (by kernel_rfl) (by kernel_rfl) (by kernel_rfl) rfl rfl rfl (fun w39 => run_move rfl rfl) ?_
       refine wa_no (i := 24) (d := 39) 13 rfl (by kernel_rfl) (by kernel_rfl) (by kernel_rfl) ⟨_, _, _, rfl, rfl, rfl, rfl⟩ rfl rfl ?_
       refine wa_no (i := 25) (d := 40) 12 rfl (by kernel_rfl) (by kernel_rfl) (by kernel_rfl) ⟨_, _, _, rfl, rfl, rfl, rfl⟩ rfl rfl ?_
       refine wa_no (i := 26) (d := 41) 11 rfl (by kernel_rfl) (by kernel_rfl) (by kernel_rfl) ⟨_, _, _, rfl, rfl, rfl, rfl⟩ rfl rfl ?_
       refine wa_no (i := 27) (d := 42) 10 rfl (by kernel_rfl) (by kernel_rfl) (by kernel_rfl) ⟨_, _, _, rfl, rfl, rfl, rfl⟩ rfl rfl ?_
       refine wa_no (i := 28) (d := 43) 9 rfl (by kernel_rfl) (by kernel_rfl) (by kernel_rfl) ⟨_, _, _, rfl, rfl, rfl, rfl⟩ rfl rfl ?_
       refine wa_no (i := 29) (d := 44) 8 rfl (by kernel_rfl) (by kernel_rfl) (by kernel_rfl) ⟨_, _, _, rfl, rfl, rfl, rfl⟩ rfl rfl ?_
       refine wa_no (i := 30) (d := 45) 7 rfl (by kernel_rfl) (by kernel_rfl) (by kernel_rfl) ⟨_, _, _, rfl, rfl, rfl, rfl⟩ rfl rfl ?_
       refine wa_no (i := 31) (d := 46) 6 rfl (by kernel_rfl) (by kernel_rfl) (by kernel_rfl) ⟨_, _, _, rfl, rfl, rfl, rfl⟩ rfl rfl ?_
       refine wa_no (i := 32) (d := 47) 5 rfl (by kernel_rfl) (by kernel_rfl) (by kernel_rfl) ⟨_, _, _, rfl, rfl, rfl, rfl⟩ rfl rfl ?_
       refine wa_no (i := 33) (d := 48) 4 rfl (by kernel_rfl) (by kernel_rfl) (by kernel_rfl) ⟨_, _, _, rfl, rfl, rfl, rfl⟩ rfl rfl ?_
       refine wa_no (i := 34) (d := 49) 3 rfl (by kernel_rfl) (by kernel_rfl) (by kernel_rfl) ⟨_, _, _, rfl, rfl, rfl, rfl⟩ rfl rfl ?_
       refine wa_no (i := 35) (d := 50) 2 rfl (by kernel_rfl) (by kernel_rfl) (by kernel_rfl) ⟨_, _, _, rfl, rfl, rfl, rfl⟩ rfl rfl ?_
       refine wa_no (i := 36) (d := 51) 1 rfl (by kernel_rfl) (by kernel_rfl) (by kernel_rfl) ⟨_, _, _, rfl, rfl, rfl, rfl⟩ rfl rfl ?_
       refine wa_takeP (i := 37) (d := 52) 0 rfl (by kernel_rfl) (by kernel_rfl) (by kernel_rfl) rfl rfl rfl (fun w40 => run_pickT rfl rfl rfl) ?_
       refine wa_end (by kernel_rfl) (fun w41 S41 => ?_)
       refine nm_sub [(0, _), (8, _), (9, _), (10, _), (52, _)] ⟨rfl, rfl, rfl, rfl, rfl, trivial⟩ ?_
       refine nm_thn ?_
       refine ws_condTN May_n30 rfl rfl rfl ?_
       refine ws_seqN May_n32 May_n33 rfl rfl rfl ?_
       refine ws_region rfl ?_
       refine wla 0 1 rfl rfl rfl rfl rfl rfl rfl ?_
       refine wl_end rfl ?_
       refine nm_sub [(2, _)] ⟨rfl, trivial⟩ ?_
       refine nm_thn ?_
       refine ws_ret hC [_] rfl rfl ⟨rfl, trivial⟩ ?_
       exact ⟨_, rfl, (S41.pick [] [] (by decide) trivial), (congrArg Value.bool (Eq.symm (decide_eq_false (fun h => by first | (have := h.1; omega) | (have h9 := h.2 i (by omega); unfold okT at h9; omega)))))⟩
      ·replace hg28 := of_decide_eq_false hg28
       refine wa_takeP (i := 14) (d := 29) 23 rfl (by kernel_rfl) (by kernel_rfl) (by kernel_rfl) ⟨_, _, _, rfl, rfl, rfl, rfl⟩ rfl rfl (fun w42 => run_fieldAddr rfl rfl Tryd.underlying37 rfl (ce3) (nf3)) ?_
       refine wa_take (i := 15) (d := 30) 22 rfl (by kernel_rfl) (by kernel_rfl) (by kernel_rfl) ⟨_, _, _, rfl, rfl, rfl, rfl⟩ rfl rfl (fun M37 N37 w43 hle38 S43 => .inl (run_load1 rfl rfl Tryd.underlying3 rfl (S43.suf.boxc (i := 0) rfl rfl))) ?_
       refine wa_takeP (i := 16) (d := 31) 21 rfl (by kernel_rfl) (by kernel_rfl) (by kernel_rfl) ⟨_, _, _, rfl, rfl, rfl, rfl⟩ rfl rfl (fun w44 => run_gtr rfl rfl rfl) ?_
       refine wa_takeP (i := 17) (d := 32) 20 rfl (by kernel_rfl) (by kernel_rfl) (by kernel_rfl) rfl rfl rfl (fun w45 => run_pickF rfl rfl rfl) ?_
       refine wa_takeP (i := 18) (d := 33) 19 rfl (by kernel_rfl) (by kernel_rfl) (by kernel_rfl) rfl rfl rfl (fun w46 => run_move rfl rfl) ?_
       refine wa_split (t := 33) rfl (fun hg33 => ?_) (fun hg33 => ?_)
       ·replace hg33 := of_decide_eq_true hg33
        refine wa_no (i := 19) (d := 34) 18 rfl (by kernel_rfl) (by kernel_rfl) (by kernel_rfl) ⟨_, _, _, rfl, rfl, rfl, rfl⟩ rfl rfl ?_
        refine wa_no (i := 20) (d := 35) 17 rfl (by kernel_rfl) (by kernel_rfl) (by kernel_rfl) ⟨_, _, _, rfl, rfl, rfl, rfl⟩ rfl rfl ?_
        refine wa_no (i := 21) (d := 36) 16 rfl (by kernel_rfl) (by kernel_rfl) (by kernel_rfl) ⟨_, _, _, rfl, rfl, rfl, rfl⟩ rfl rfl ?_
        refine wa_takeP (i := 22) (d := 37) 15 rfl (by kernel_rfl) (by kernel_rfl) (by kernel_rfl) rfl rfl rfl (fun w47 => run_pickT rfl rfl rfl) ?_
        refine wa_takeP (i := 23) (d := 38) 14 rfl (by kernel_rfl) (by kernel_rfl) (by kernel_rfl) rfl rfl rfl (fun w48 => run_move rfl rfl) ?_
        refine wa_no (i := 24) (d := 39) 13 rfl (by kernel_rfl) (by kernel_rfl) (by kernel_rfl) ⟨_, _, _, rfl, rfl, rfl, rfl⟩ rfl rfl ?_
        refine wa_no (i := 25) (d := 40) 12 rfl (by kernel_rfl) (by kernel_rfl) (by kernel_rfl) ⟨_, _, _, rfl, rfl, rfl, rfl⟩ rfl rfl ?_
        refine wa_no (i := 26) (d := 41) 11 rfl (by kernel_rfl) (by kernel_rfl) (by kernel_rfl) ⟨_, _, _, rfl, rfl, rfl, rfl⟩ rfl rfl ?_
        refine wa_no (i := 27) (d := 42) 10 rfl (by kernel_rfl) (by kernel_rfl) (by kernel_rfl) ⟨_, _, _, rfl, rfl, rfl, rfl⟩ rfl rfl ?_
        refine wa_no (i := 28) (d := 43) 9 rfl (by kernel_rfl) (by kernel_rfl) (by kernel_rfl) ⟨_, _, _, rfl, rfl, rfl, rfl⟩ rfl rfl ?_
        refine wa_no (i := 29) (d := 44) 8 rfl (by kernel_rfl) (by kernel_rfl) (by kernel_rfl) ⟨_, _, _, rfl, rfl, rfl, rfl⟩ rfl rfl ?_
        refine wa_no (i := 30) (d := 45) 7 rfl (by kernel_rfl) (by kernel_rfl) (by kernel_rfl) ⟨_, _, _, rfl, rfl, rfl, rfl⟩ rfl rfl ?_
        refine wa_no (i := 31) (d := 46) 6 rfl (by kernel_rfl) (by kernel_rfl) (by kernel_rfl) ⟨_, _, _, rfl, rfl, rfl, rfl⟩ rfl rfl ?_
        refine wa_no (i := 32) (d := 47) 5 rfl (by kernel_rfl) (by kernel_rfl) (by kernel_rfl) ⟨_, _, _, rfl, rfl, rfl, rfl⟩ rfl rfl ?_
        refine wa_no (i := 33) (d := 48) 4 rfl (by kernel_rfl) (by kernel_rfl) (by kernel_rfl) ⟨_, _, _, rfl, rfl, rfl, rfl⟩ rfl rfl ?_
        refine wa_no (i := 34) (d := 49) 3 rfl (by kernel_rfl) (by kernel_rfl) (by kernel_rfl) ⟨_, _, _, rfl, rfl, rfl, rfl⟩ rfl rfl ?_
        refine wa_no (i := 35) (d := 50) 2 rfl (by kernel_rfl) (by kernel_rfl) (by kernel_rfl) ⟨_, _, _, rfl, rfl, rfl, rfl⟩ rfl rfl ?_
        refine wa_no (i := 36) (d := 51) 1 rfl (by kernel_rfl) (by kernel_rfl) (by kernel_rfl) ⟨_, _, _, rfl, rfl, rfl, rfl⟩ rfl rfl ?_
        refine wa_takeP (i := 37) (d := 52) 0 rfl (by kernel_rfl) (by kernel_rfl) (by kernel_rfl) rfl rfl rfl (fun w49 => run_pickT rfl rfl rfl) ?_
        refine wa_end (by kernel_rfl) (fun w50 S50 => ?_)
        refine nm_sub [(0, _), (8, _), (9, _), (10, _), (52, _)] ⟨rfl, rfl, rfl, rfl, rfl, trivial⟩ ?_
        refine nm_thn ?_
        refine ws_condTN May_n30 rfl rfl rfl ?_
        refine ws_seqN May_n32 May_n33 rfl rfl rfl ?_
        refine ws_region rfl ?_
        refine wla 0 1 rfl rfl rfl rfl rfl rfl rfl ?_
        refine wl_end rfl ?_
        refine nm_sub [(2, _)] ⟨rfl, trivial⟩ ?_
        refine nm_thn ?_
        refine ws_ret hC [_] rfl rfl ⟨rfl, trivial⟩ ?_
        exact ⟨_, rfl, (S50.pick [] [] (by decide) trivial), (congrArg Value.bool (Eq.symm (decide_eq_false (fun h => by first | (have := h.1; omega) | (have h9 := h.2 i (by omega); unfold okT at h9; omega)))))⟩
       ·replace hg33 := of_decide_eq_false hg33
        refine wa_takeP (i := 19) (d := 34) 18 rfl (by kernel_rfl) (by kernel_rfl) (by kernel_rfl) ⟨_, _, _, rfl, rfl, rfl, rfl⟩ rfl rfl (fun w51 => run_fieldAddr rfl rfl Tryd.underlying37 rfl (ce3) (nf3)) ?_
        refine wa_take (i := 20) (d := 35) 17 rfl (by kernel_rfl) (by kernel_rfl) (by kernel_rfl) ⟨_, _, _, rfl, rfl, rfl, rfl⟩ rfl rfl (fun M45 N45 w52 hle46 S52 => .inl (run_load1 rfl rfl Tryd.underlying3 rfl (S52.suf.boxc (i := 0) rfl rfl))) ?_
        refine wa_takeP (i := 21) (d := 36) 16 rfl (by kernel_rfl) (by kernel_rfl) (by kernel_rfl) ⟨_, _, _, rfl, rfl, rfl, rfl⟩ rfl rfl (fun w53 => run_eql rfl rfl rfl) ?_
        refine wa_takeP (i := 22) (d := 37) 15 rfl (by kernel_rfl) (by kernel_rfl) (by kernel_rfl) rfl rfl rfl (fun w54 => run_pickF rfl rfl rfl) ?_
        refine wa_takeP (i := 23) (d := 38) 14 rfl (by kernel_rfl) (by kernel_rfl) (by kernel_rfl) rfl rfl rfl (fun w55 => run_move rfl rfl) ?_
        refine wa_split (t := 38) rfl (fun hg38 => ?_) (fun hg38 => ?_)
        ·replace hg38 := of_decide_eq_true hg38
         refine wa_no (i := 24) (d := 39) 13 rfl (by kernel_rfl) (by kernel_rfl) (by kernel_rfl) ⟨_, _, _, rfl, rfl, rfl, rfl⟩ rfl rfl ?_
         refine wa_no (i := 25) (d := 40) 12 rfl (by kernel_rfl) (by kernel_rfl) (by kernel_rfl) ⟨_, _, _, rfl, rfl, rfl, rfl⟩ rfl rfl ?_
         refine wa_no (i := 26) (d := 41) 11 rfl (by kernel_rfl) (by kernel_rfl) (by kernel_rfl) ⟨_, _, _, rfl, rfl, rfl, rfl⟩ rfl rfl ?_
         refine wa_no (i := 27) (d := 42) 10 rfl (by kernel_rfl) (by kernel_rfl) (by kernel_rfl) ⟨_, _, _, rfl, rfl, rfl, rfl⟩ rfl rfl ?_
         refine wa_no (i := 28) (d := 43) 9 rfl (by kernel_rfl) (by kernel_rfl) (by kernel_rfl) ⟨_, _, _, rfl, rfl, rfl, rfl⟩ rfl rfl ?_
         refine wa_no (i := 29) (d := 44) 8 rfl (by kernel_rfl) (by kernel_rfl) (by kernel_rfl) ⟨_, _, _, rfl, rfl, rfl, rfl⟩ rfl rfl ?_
         refine wa_no (i := 30) (d := 45) 7 rfl (by kernel_rfl) (by kernel_rfl) (by kernel_rfl) ⟨_, _, _, rfl, rfl, rfl, rfl⟩ rfl rfl ?_
         refine wa_no (i := 31) (d := 46) 6 rfl (by kernel_rfl) (by kernel_rfl) (by kernel_rfl) ⟨_, _, _, rfl, rfl, rfl, rfl⟩ rfl rfl ?_
         refine wa_no (i := 32) (d := 47) 5 rfl (by kernel_rfl) (by kernel_rfl) (by kernel_rfl) ⟨_, _, _, rfl, rfl, rfl, rfl⟩ rfl rfl ?_
         refine wa_no (i := 33) (d := 48) 4 rfl (by kernel_rfl) (by kernel_rfl) (by kernel_rfl) ⟨_, _, _, rfl, rfl, rfl, rfl⟩ rfl rfl ?_
         refine wa_no (i := 34) (d := 49) 3 rfl (by kernel_rfl) (by kernel_rfl) (by kernel_rfl) ⟨_, _, _, rfl, rfl, rfl, rfl⟩ rfl rfl ?_
         refine wa_no (i := 35) (d := 50) 2 rfl (by kernel_rfl) (by kernel_rfl) (by kernel_rfl) ⟨_, _, _, rfl, rfl, rfl, rfl⟩ rfl rfl ?_
         refine wa_no (i := 36) (d := 51) 1 rfl (by kernel_rfl) (by kernel_rfl) (by kernel_rfl) ⟨_, _, _, rfl, rfl, rfl, rfl⟩ rfl rfl ?_
         refine wa_takeP (i := 37) (d := 52) 0 rfl (by kernel_rfl) (by kernel_rfl) (by kernel_rfl) rfl rfl rfl (fun w56 => run_pickT rfl rfl rfl) ?_
         refine wa_end (by kernel_rfl) (fun w57 S57 => ?_)
         refine nm_sub [(0, _), (8, _), (9, _), (10, _), (52, _)] ⟨rfl, rfl, rfl, rfl, rfl, trivial⟩ ?_
         refine nm_thn ?_
         refine ws_condTN May_n30 rfl rfl rfl ?_
         refine ws_seqN May_n32 May_n33 rfl rfl rfl ?_
         refine ws_region rfl ?_
         refine wla 0 1 rfl rfl rfl rfl rfl rfl rfl ?_
         refine wl_end rfl ?_
         refine nm_sub [(2, _)] ⟨rfl, trivial⟩ ?_
         refine nm_thn ?_
         refine ws_ret hC [_] rfl rfl ⟨rfl, trivial⟩ ?_
         exact ⟨_, rfl, (S57.pick [] [] (by decide) trivial), (congrArg Value.bool (Eq.symm (decide_eq_false (fun h => by first | (have := h.1; omega) | (have h9 := h.2 i (by omega); unfold okT at h9; omega)))))⟩
        ·replace hg38 := of_decide_eq_false hg38
         refine wa_takeP (i := 24) (d := 39) 13 rfl (by kernel_rfl) (by kernel_rfl) (by kernel_rfl) ⟨_, _, _, rfl, rfl, rfl, rfl⟩ rfl rfl (fun w58 => run_move rfl rfl) ?_
         refine wa_takeP (i := 25) (d := 40) 12 rfl (by kernel_rfl) (by kernel_rfl) (by kernel_rfl) ⟨_, _, _, rfl, rfl, rfl, rfl⟩ rfl rfl (fun w59 => run_gtr rfl rfl rfl) ?_
         refine wa_takeP (i := 26) (d := 41) 11 rfl (by kernel_rfl) (by kernel_rfl) (by kernel_rfl) ⟨_, _, _, rfl, rfl, rfl, rfl⟩ rfl rfl (fun w60 => run_move rfl rfl) ?_
         refine wa_split (t := 41) rfl (fun hg41 => ?_) (fun hg41 => ?_)
         ·replace hg41 := of_decide_eq_true hg41
          refine wa_takeP (i := 27) (d := 42) 10 rfl (by kernel_rfl) (by kernel_rfl) (by kernel_rfl) ⟨_, _, _, rfl, rfl, rfl, rfl⟩ rfl rfl (fun w61 => run_fieldAddr rfl rfl Tryd.underlying37 rfl (ce3) (nf3)) ?_
          refine wa_take (i := 28) (d := 43) 9 rfl (by kernel_rfl) (by kernel_rfl) (by kernel_rfl) ⟨_, _, _, rfl, rfl, rfl, rfl⟩ rfl rfl (fun M54 N54 w62 hle55 S62 => .inl (run_load1 rfl rfl Tryd.underlying3 rfl (S62.suf.boxc (i := 0) rfl rfl))) ?_
          refine wa_takeP (i := 29) (d := 44) 8 rfl (by kernel_rfl) (by kernel_rfl) (by kernel_rfl) ⟨_, _, _, rfl, rfl, rfl, rfl⟩ rfl rfl (fun w63 => run_move rfl rfl) ?_
          refine wa_takeP (i := 30) (d := 45) 7 rfl (by kernel_rfl) (by kernel_rfl) (by kernel_rfl) ⟨_, _, _, rfl, rfl, rfl, rfl⟩ rfl rfl (fun w64 => run_move rfl rfl) ?_
          refine wa_takeP (i := 31) (d := 46) 6 rfl (by kernel_rfl) (by kernel_rfl) (by kernel_rfl) ⟨_, _, _, rfl, rfl, rfl, rfl⟩ rfl rfl (fun w65 => run_sub rfl rfl rfl (by first | omega | (simp only [lens]; omega))) ?_
          refine wa_take (i := 32) (d := 47) 5 rfl (by kernel_rfl) (by kernel_rfl) (by kernel_rfl) ⟨_, _, _, rfl, rfl, rfl, rfl⟩ rfl rfl (fun M58 N58 w66 hle59 S66 => .inl (run_indexM (C := cdTm) (((i : Int) - 1).toNat) rfl rfl rfl sl22 (by first | rfl | omega) (ha.mono (Hp.un_mono hle59 S66.mx)) (by first | omega | (simp only [lens]; omega)))) ?_
          refine wa_takeP (i := 33) (d := 48) 4 rfl (by kernel_rfl) (by kernel_rfl) (by kernel_rfl) ⟨_, _, _, rfl, rfl, rfl, rfl⟩ rfl rfl (fun w67 => run_fieldAddr rfl rfl Tryd.underlying37 rfl (ce3) (nf3)) ?_
          refine wa_take (i := 34) (d := 49) 3 rfl (by kernel_rfl) (by kernel_rfl) (by kernel_rfl) ⟨_, _, _, rfl, rfl, rfl, rfl⟩ rfl rfl (fun M60 N60 w68 hle61 S68 => .inl (run_load1 rfl rfl Tryd.underlying3 rfl ((ha.mono (Hp.un_mono hle61 S68.mx)).cell S68.um (i := ((i : Int) - 1).toNat) (by first | omega | (simp only [lens]; omega)) 0 rfl rfl))) ?_
          refine wa_takeP (i := 35) (d := 50) 2 rfl (by kernel_rfl) (by kernel_rfl) (by kernel_rfl) ⟨_, _, _, rfl, rfl, rfl, rfl⟩ rfl rfl (fun w69 => run_leq rfl rfl rfl) ?_
          refine wa_takeP (i := 36) (d := 51) 1 rfl (by kernel_rfl) (by kernel_rfl) (by kernel_rfl) ⟨_, _, _, rfl, rfl, rfl, rfl⟩ rfl rfl (fun w70 => run_pickT rfl rfl rfl) ?_
          refine wa_takeP (i := 37) (d := 52) 0 rfl (by kernel_rfl) (by kernel_rfl) (by kernel_rfl) rfl rfl rfl (fun w71 => run_pickF rfl rfl rfl) ?_
          refine wa_end (by kernel_rfl) (fun w72 S72 => ?_)
          refine nm_sub [(0, _), (8, _), (9, _), (10, _), (52, _)] ⟨rfl, rfl, rfl, rfl, rfl, trivial⟩ ?_
          refine nm_thn ?_
          refine ws_condN May_n30 May_n31 rfl rfl rfl rfl (fun hb52 => ?_) (fun hb52 => ?_)
          ·replace hb52 := of_decide_eq_true hb52
           refine ws_seqN May_n32 May_n33 rfl rfl rfl ?_
           refine ws_region rfl ?_
           refine wla 0 1 rfl rfl rfl rfl rfl rfl rfl ?_
           refine wl_end rfl ?_
           refine nm_sub [(2, _)] ⟨rfl, trivial⟩ ?_
           refine nm_thn ?_
           refine ws_ret hC [_] rfl rfl ⟨rfl, trivial⟩ ?_
           exact ⟨_, rfl, (S72.pick [] [] (by decide) trivial), (congrArg Value.bool (Eq.symm (decide_eq_false (fun h => by first | (have := h.1; omega) | (have h9 := h.2 i (by omega); unfold okT at h9; omega)))))⟩
          ·replace hb52 := of_decide_eq_false hb52
           refine ws_skip rfl ?_
           refine nm_blk ?_
           refine nm_sub [(0, _), (8, _), (9, _), (10, _)] ⟨rfl, rfl, rfl, rfl, trivial⟩ ?_
           refine nm_thn ?_
           refine ws_region rfl ?_
           refine wlo 0 1 rfl rfl rfl (wo_run rfl rfl (run_add rfl rfl rfl (by first | omega | (simp only [lens]; omega))) ?_)
           refine wlm 1 2 rfl rfl rfl rfl rfl rfl rfl ?_
           refine wl_end rfl ?_
           refine nm_lp ?_
           intro ax_ hax_
           refine ⟨_, ?hq2m, ⟨i + 1, rfl, hax_.sub ⟨rfl, rfl, rfl, rfl, trivial⟩, S72.pick [] [] (by decide) trivial, ?hq2f0, ?hq2f1⟩⟩
           case hq2f0 => omega
           case hq2f1 => (intro j hj; by_cases h : j = i; (subst h; unfold okT; first | omega | (simp_all; omega)); exact hok j (by omega))
           case hq2m => omega
         ·replace hg41 := of_decide_eq_false hg41
          refine wa_no (i := 27) (d := 42) 10 rfl (by kernel_rfl) (by kernel_rfl) (by kernel_rfl) ⟨_, _, _, rfl, rfl, rfl, rfl⟩ rfl rfl ?_
          refine wa_no (i := 28) (d := 43) 9 rfl (by kernel_rfl) (by kernel_rfl) (by kernel_rfl) ⟨_, _, _, rfl, rfl, rfl, rfl⟩ rfl rfl ?_
          refine wa_no (i := 29) (d := 44) 8 rfl (by kernel_rfl) (by kernel_rfl) (by kernel_rfl) ⟨_, _, _, rfl, rfl, rfl, rfl⟩ rfl rfl ?_
          refine wa_no (i := 30) (d := 45) 7 rfl (by kernel_rfl) (by kernel_rfl) (by kernel_rfl) ⟨_, _, _, rfl, rfl, rfl, rfl⟩ rfl rfl ?_
          refine wa_no (i := 31) (d := 46) 6 rfl (by kernel_rfl) (by kernel_rfl) (by kernel_rfl) ⟨_, _, _, rfl, rfl, rfl, rfl⟩ rfl rfl ?_
          refine wa_no (i := 32) (d := 47) 5 rfl (by kernel_rfl) (by kernel_rfl) (by kernel_rfl) ⟨_, _, _, rfl, rfl, rfl, rfl⟩ rfl rfl ?_
          refine wa_no (i := 33) (d := 48) 4 rfl (by kernel_rfl) (by kernel_rfl) (by kernel_rfl) ⟨_, _, _, rfl, rfl, rfl, rfl⟩ rfl rfl ?_
          refine wa_no (i := 34) (d := 49) 3 rfl (by kernel_rfl) (by kernel_rfl) (by kernel_rfl) ⟨_, _, _, rfl, rfl, rfl, rfl⟩ rfl rfl ?_
          refine wa_no (i := 35) (d := 50) 2 rfl (by kernel_rfl) (by kernel_rfl) (by kernel_rfl) ⟨_, _, _, rfl, rfl, rfl, rfl⟩ rfl rfl ?_
          refine wa_takeP (i := 36) (d := 51) 1 rfl (by kernel_rfl) (by kernel_rfl) (by kernel_rfl) ⟨_, _, _, rfl, rfl, rfl, rfl⟩ rfl rfl (fun w73 => run_pickF rfl rfl rfl) ?_
          refine wa_takeP (i := 37) (d := 52) 0 rfl (by kernel_rfl) (by kernel_rfl) (by kernel_rfl) rfl rfl rfl (fun w74 => run_pickF rfl rfl rfl) ?_
          refine wa_end (by kernel_rfl) (fun w75 S75 => ?_)
          refine nm_sub [(0, _), (8, _), (9, _), (10, _), (52, _)] ⟨rfl, rfl, rfl, rfl, rfl, trivial⟩ ?_
          refine nm_thn ?_
          refine ws_condFN May_n31 rfl rfl rfl ?_
          refine ws_skip rfl ?_
          refine nm_blk ?_
          refine nm_sub [(0, _), (8, _), (9, _), (10, _)] ⟨rfl, rfl, rfl, rfl, trivial⟩ ?_
          refine nm_thn ?_
          refine ws_region rfl ?_
          refine wlo 0 1 rfl rfl rfl (wo_run rfl rfl (run_add rfl rfl rfl (by first | omega | (simp only [lens]; omega))) ?_)
          refine wlm 1 2 rfl rfl rfl rfl rfl rfl rfl ?_
          refine wl_end rfl ?_
          refine nm_lp ?_
          intro ax_ hax_
          refine ⟨_, ?hq3m, ⟨i + 1, rfl, hax_.sub ⟨rfl, rfl, rfl, rfl, trivial⟩, S75.pick [] [] (by decide) trivial, ?hq3f0, ?hq3f1⟩⟩
          case hq3f0 => omega
          case hq3f1 => (intro j hj; by_cases h : j = i; (subst h; unfold okT; first | omega | (simp_all; omega)); exact hok j (by omega))
          case hq3m => omega
   ·replace hb11 := of_decide_eq_false hb11
    refine ws_exit rfl rfl ?_
    refine nm_sub [] trivial ?_
    refine nm_thn ?_
    refine ws_seqN May_n34 May_n35 rfl rfl rfl ?_
    refine ws_region rfl ?_
    refine wla 0 1 rfl rfl rfl rfl rfl rfl rfl ?_
    refine wl_end rfl ?_
    refine nm_thn ?_
    refine ws_ret hC [_] rfl rfl ⟨rfl, trivial⟩ ?_
    exact ⟨_, rfl, (S1.pick [] [] (by decide) trivial), (congrArg Value.bool (Eq.symm (decide_eq_true ⟨by omega, fun j hj => hok j (by omega)⟩)))⟩
noncomputable def PolyMay_n0 : Code := Tryd.f7.body.getD .skip
noncomputable def PolyMay_n1 : Code := cL PolyMay_n0
noncomputable def PolyMay_n2 : Code := cR PolyMay_n0
noncomputable def PolyMay_n3 : Code := cL PolyMay_n2
noncomputable def PolyMay_n4 : Code := cR PolyMay_n2
noncomputable def PolyMay_n5 : Code := cL PolyMay_n3
noncomputable def PolyMay_n6 : Code := cR PolyMay_n3
noncomputable def PolyMay_n7 : Code := cL PolyMay_n6
noncomputable def PolyMay_n8 : Code := cR PolyMay_n6
noncomputable def PolyMay_n9 : Code := cL PolyMay_n7
noncomputable def PolyMay_n10 : Code := cR PolyMay_n7
noncomputable def PolyMay_n11 : Code := cL PolyMay_n4
noncomputable def PolyMay_n12 : Code := cR PolyMay_n4
noncomputable def PolyMay_n13 : Code := cL PolyMay_n11
noncomputable def PolyMay_n14 : Code := cR PolyMay_n11
noncomputable def PolyMay_n15 : Code := cL PolyMay_n14
noncomputable def PolyMay_n16 : Code := cL PolyMay_n15
noncomputable def PolyMay_n17 : Code := cL PolyMay_n16
noncomputable def PolyMay_n18 : Code := cR PolyMay_n16
noncomputable def PolyMay_n19 : Code := cL PolyMay_n17
noncomputable def PolyMay_n20 : Code := cR PolyMay_n17
noncomputable def PolyMay_n21 : Code := cL PolyMay_n20
noncomputable def PolyMay_n22 : Code := cR PolyMay_n20
noncomputable def PolyMay_n23 : Code := cL PolyMay_n18
noncomputable def PolyMay_n24 : Code := cR PolyMay_n18
noncomputable def PolyMay_n25 : Code := cL PolyMay_n23
noncomputable def PolyMay_n26 : Code := cL PolyMay_n25
noncomputable def PolyMay_n27 : Code := cR PolyMay_n25
noncomputable def PolyMay_n28 : Code := cL PolyMay_n27
noncomputable def PolyMay_n29 : Code := cR PolyMay_n27
noncomputable def PolyMay_n30 : Code := cL PolyMay_n29
noncomputable def PolyMay_n31 : Code := cR PolyMay_n29
noncomputable def PolyMay_n32 : Code := cL PolyMay_n30
noncomputable def PolyMay_n33 : Code := cR PolyMay_n30
noncomputable def PolyMay_n34 : Code := cL PolyMay_n12
noncomputable def PolyMay_n35 : Code := cR PolyMay_n12
set_option maxHeartbeats 1000000 in
set_option maxRecDepth 10000 in
theorem PolyMay_q {w : World} {M : Hp} {X : Fr} (a : List Tm) {aA : Option Addr} {ac : Nat} (ha : RdA cdTm (M.un X.h) aA ac a) (S : SH w M X []) : Cq Tryd.prog 7 [.slice aA a.length ac] w M X (fun u => u = .bool (mayT a)) := by
 unfold Cq
 have rmha : a.length * 16 ≤ 140737488355328 := ha.room
 refine calls_in (b := PolyMay_n0) Tryd.func7 rfl Tryd.ntmps7 rfl (fun C hC => ?_)
 refine ws_sub [(0, _)] ⟨rfl, trivial⟩ ?_
 refine ws_seqN PolyMay_n1 PolyMay_n2 rfl rfl rfl ?_
 refine ws_region rfl ?_
 refine wla 0 1 rfl rfl rfl rfl rfl rfl rfl ?_
 refine wl_end rfl ?_
 refine nm_sub [(0, _)] ⟨rfl, trivial⟩ ?_
 refine nm_thn ?_
 refine ws_seqN PolyMay_n3 PolyMay_n4 rfl rfl rfl ?_
 refine ws_seqN PolyMay_n5 PolyMay_n6 rfl rfl rfl ?_
 refine ws_region rfl ?_
 refine wlm 0 1 rfl rfl rfl rfl rfl rfl rfl ?_
 refine wlo 1 2 rfl rfl rfl (wo_run rfl rfl (run_len rfl rfl rfl rfl rfl rfl Tryd.underlying22) ?_)
 refine wlo 2 3 rfl rfl rfl (wo_run rfl rfl (run_gtr rfl rfl rfl) ?_)
 refine wl_end rfl ?_
 refine nm_sub [(0, _), (7, _)] ⟨rfl, rfl, trivial⟩ ?_
 refine nm_thn ?_
 refine ws_condN PolyMay_n7 PolyMay_n8 rfl rfl rfl rfl (fun hb7 => ?_) (fun hb7 => ?_)
 ·replace hb7 := of_decide_eq_true hb7
  refine ws_seqN PolyMay_n9 PolyMay_n10 rfl rfl rfl ?_
  refine ws_region rfl ?_
  refine wla 0 1 rfl rfl rfl rfl rfl rfl rfl ?_
  refine wl_end rfl ?_
  refine nm_sub [(2, _)] ⟨rfl, trivial⟩ ?_
  refine nm_thn ?_
  refine ws_ret hC [_] rfl rfl ⟨rfl, trivial⟩ ?_
  exact ⟨_, rfl, (S.pick [] [] (by decide) trivial), (congrArg Value.bool (Eq.symm (decide_eq_false (fun h => by first | (have := h.1; omega) | (have h9 := h.2 i (by omega); unfold okT at h9; omega)))))⟩
 ·replace hb7 := of_decide_eq_false hb7
  refine ws_skip rfl ?_
  refine nm_sub [(0, _)] ⟨rfl, trivial⟩ ?_
  refine nm_thn ?_
  refine ws_seqN PolyMay_n11 PolyMay_n12 rfl rfl rfl ?_
  refine ws_seqN PolyMay_n13 PolyMay_n14 rfl rfl rfl ?_
  refine ws_region rfl ?_
  refine wla 0 1 rfl rfl rfl rfl rfl rfl rfl ?_
  refine wl_end rfl ?_
  refine nm_thn ?_
  refine ws_blockN PolyMay_n15 0 rfl rfl rfl ?_
  refine ws_loopE (fun mx_ ax_ wx_ => ∃ (i : Nat), mx_ = a.length - i ∧ Env 56 [(0, .slice aA a.length ac), (3, .int .i64 (i : Int))] ax_ ∧ SH wx_ M X [] ∧ i ≤ a.length ∧ (∀ j, j < i → okT a j)) rfl ?_ ?_
  ·intro ax_ hax_
   refine ⟨_, ⟨0, rfl, hax_.sub ⟨rfl, rfl, trivial⟩, S.pick [] [] (by decide) trivial, ?hq1f0, ?hq1f1⟩⟩
   case hq1f0 => omega
   case hq1f1 => (intro j hj; omega)
  ·rintro m1 a1 w1 ⟨i, rfl, he1, S1, hi, hok⟩
   clear S
   refine ws_in he1 (c := PolyMay_n16) rfl ?_
   clear he1 a1
   refine ws_seqN PolyMay_n17 PolyMay_n18 rfl rfl rfl ?_
   refine ws_seqN PolyMay_n19 PolyMay_n20 rfl rfl rfl ?_
   refine ws_region rfl ?_
   refine wlm 0 1 rfl rfl rfl rfl rfl rfl rfl ?_
   refine wlm 1 2 rfl rfl rfl rfl rfl rfl rfl ?_
   refine wlo 2 3 rfl rfl rfl (wo_run rfl rfl (run_len rfl rfl rfl rfl rfl rfl Tryd.underlying22) ?_)
   refine wlo 3 4 rfl rfl rfl (wo_run rfl rfl (run_lss rfl rfl rfl) ?_)
   refine wl_end rfl ?_
   refine nm_sub [(0, _), (3, _), (11, _)] ⟨rfl, rfl, rfl, trivial⟩ ?_
   refine nm_thn ?_
   refine ws_condN PolyMay_n21 PolyMay_n22 rfl rfl rfl rfl (fun hb11 => ?_) (fun hb11 => ?_)
   ·replace hb11 := of_decide_eq_true hb11
    refine ws_skip rfl ?_
    refine nm_sub [(0, _), (3, _)] ⟨rfl, rfl, trivial⟩ ?_
    refine nm_thn ?_
    refine ws_seqN PolyMay_n23 PolyMay_n24 rfl rfl rfl ?_
    refine ws_blockN PolyMay_n25 1 rfl rfl rfl ?_
    refine ws_seqN PolyMay_n26 PolyMay_n27 rfl rfl rfl ?_
    refine ws_region rfl ?_
    refine wlm 0 1 rfl rfl rfl rfl rfl rfl rfl ?_
    refine wlm 1 2 rfl rfl rfl rfl rfl rfl rfl ?_
    refine wlo 2 3 rfl rfl rfl (wo_run rfl rfl (run_indexM (C := cdTm) i rfl rfl rfl sl22 (by first | rfl | omega) ha (by first | omega | (simp only [lens]; omega))) ?_)
    refine wlo 3 4 rfl rfl rfl (wo_run rfl rfl (run_loadN (us := [_, _]) rfl rfl Tryd.underlying37 rfl sz37 (ha.cellsAt S1.um (e := i) (by first | omega | (simp only [lens]; omega)) (j := 0) ⟨rfl, rfl, trivial⟩)) ?_)
    refine wlo 4 5 rfl rfl rfl (wo_alloc (l := [_, _]) rfl rfl rfl zr37 rfl S1 ?_)
    intro gb1 w2 S2; clear S1
    refine wlo 5 6 rfl rfl rfl (wo_storeB (i := 0) (us := [_, _]) (l' := [_, _]) (H' := [_]) rfl rfl S2 rfl rfl rfl rfl sz37 rfl rfl rfl rfl ?_)
    intro w3 S3; clear S2
    refine wl_end rfl ?_
    refine nm_sub [(0, _), (3, _), (4, _)] ⟨rfl, rfl, rfl, trivial⟩ ?_
    refine nm_thn ?_
    refine ws_seqN PolyMay_n28 PolyMay_n29 rfl rfl rfl ?_
    refine ws_draw rfl (by kernel_rfl) S3 38 rfl ?_
    clear S3
    refine wa_takeP (i := 0) (d := 18) 37 rfl (by kernel_rfl) (by kernel_rfl) (by kernel_rfl) rfl rfl rfl (fun w4 => run_fieldAddr rfl rfl Tryd.underlying37 rfl (ce3) (nf3)) ?_
    refine wa_take (i := 1) (d := 19) 36 rfl (by kernel_rfl) (by kernel_rfl) (by kernel_rfl) rfl rfl rfl (fun M2 N2 w5 hle3 S5 => .inl (run_load1 rfl rfl Tryd.underlying3 rfl (S5.suf.boxc (i := 0) rfl rfl))) ?_
    refine wa_takeP (i := 2) (d := 20) 35 rfl (by kernel_rfl) (by kernel_rfl) (by kernel_rfl) rfl rfl rfl (fun w6 => run_lss rfl rfl rfl) ?_
    refine wa_takeP (i := 3) (d := 21) 34 rfl (by kernel_rfl) (by kernel_rfl) (by kernel_rfl) rfl rfl rfl (fun w7 => run_move rfl rfl) ?_
    refine wa_split (t := 21) rfl (fun hg21 => ?_) (fun hg21 => ?_)
    ·replace hg21 := of_decide_eq_true hg21
     refine wa_no (i := 4) (d := 22) 33 rfl (by kernel_rfl) (by kernel_rfl) (by kernel_rfl) ⟨_, _, _, rfl, rfl, rfl, rfl⟩ rfl rfl ?_
     refine wa_no (i := 5) (d := 23) 32 rfl (by kernel_rfl) (by kernel_rfl) (by kernel_rfl) ⟨_, _, _, rfl, rfl, rfl, rfl⟩ rfl rfl ?_
     refine wa_no (i := 6) (d := 24) 31 rfl (by kernel_rfl) (by kernel_rfl) (by kernel_rfl) ⟨_, _, _, rfl, rfl, rfl, rfl⟩ rfl rfl ?_
     refine wa_takeP (i := 7) (d := 25) 30 rfl (by kernel_rfl) (by kernel_rfl) (by kernel_rfl) rfl rfl rfl (fun w8 => run_pickT rfl rfl rfl) ?_
     refine wa_takeP (i := 8) (d := 26) 29 rfl (by kernel_rfl) (by kernel_rfl) (by kernel_rfl) rfl rfl rfl (fun w9 => run_move rfl rfl) ?_
     refine wa_no (i := 9) (d := 27) 28 rfl (by kernel_rfl) (by kernel_rfl) (by kernel_rfl) ⟨_, _, _, rfl, rfl, rfl, rfl⟩ rfl rfl ?_
     refine wa_no (i := 10) (d := 28) 27 rfl (by kernel_rfl) (by kernel_rfl) (by kernel_rfl) ⟨_, _, _, rfl, rfl, rfl, rfl⟩ rfl rfl ?_
     refine wa_no (i := 11) (d := 29) 26 rfl (by kernel_rfl) (by kernel_rfl) (by kernel_rfl) ⟨_, _, _, rfl, rfl, rfl, rfl⟩ rfl rfl ?_
     refine wa_takeP (i := 12) (d := 30) 25 rfl (by kernel_rfl) (by kernel_rfl) (by kernel_rfl) rfl rfl rfl (fun w10 => run_pickT rfl rfl rfl) ?_
     refine wa_takeP (i := 13) (d := 31) 24 rfl (by kernel_rfl) (by kernel_rfl) (by kernel_rfl) rfl rfl rfl (fun w11 => run_move rfl rfl) ?_
     refine wa_no (i := 14) (d := 32) 23 rfl (by kernel_rfl) (by kernel_rfl) (by kernel_rfl) ⟨_, _, _, rfl, rfl, rfl, rfl⟩ rfl rfl ?_
     refine wa_no (i := 15) (d := 33) 22 rfl (by kernel_rfl) (by kernel_rfl) (by kernel_rfl) ⟨_, _, _, rfl, rfl, rfl, rfl⟩ rfl rfl ?_
     refine wa_no (i := 16) (d := 34) 21 rfl (by kernel_rfl) (by kernel_rfl) (by kernel_rfl) ⟨_, _, _, rfl, rfl, rfl, rfl⟩ rfl rfl ?_
     refine wa_takeP (i := 17) (d := 35) 20 rfl (by kernel_rfl) (by kernel_rfl) (by kernel_rfl) rfl rfl rfl (fun w12 => run_pickT rfl rfl rfl) ?_
     refine wa_takeP (i := 18) (d := 36) 19 rfl (by kernel_rfl) (by kernel_rfl) (by kernel_rfl) rfl rfl rfl (fun w13 => run_move rfl rfl) ?_
     refine wa_no (i := 19) (d := 37) 18 rfl (by kernel_rfl) (by kernel_rfl) (by kernel_rfl) ⟨_, _, _, rfl, rfl, rfl, rfl⟩ rfl rfl ?_
     refine wa_no (i := 20) (d := 38) 17 rfl (by kernel_rfl) (by kernel_rfl) (by kernel_rfl) ⟨_, _, _, rfl, rfl, rfl, rfl⟩ rfl rfl ?_
     refine wa_no (i := 21) (d := 39) 16 rfl (by kernel_rfl) (by kernel_rfl) (by kernel_rfl) ⟨_, _, _, rfl, rfl, rfl, rfl⟩ rfl rfl ?_
     refine wa_takeP (i := 22) (d := 40) 15 rfl (by kernel_rfl) (by kernel_rfl) (by kernel_rfl) rfl rfl rfl (fun w14 => run_pickT rfl rfl rfl) ?_
     refine wa_takeP (i := 23) (d := 41) 14 rfl (by kernel_rfl) (by kernel_rfl) (by kernel_rfl) rfl rfl rfl (fun w15 => run_move rfl rfl) ?_
     refine wa_no (i := 24) (d := 42) 13 rfl (by kernel_rfl) (by kernel_rfl) (by kernel_rfl) ⟨_, _, _, rfl, rfl, rfl, rfl⟩ rfl rfl ?_
     refine wa_no (i := 25) (d := 43) 12 rfl (by kernel_rfl) (by kernel_rfl) (by kernel_rfl) ⟨_, _, _, rfl, rfl, rfl, rfl⟩ rfl rfl ?_
     refine wa_no (i := 26) (d := 44) 11 rfl (by kernel_rfl) (by kernel_rfl) (by kernel_rfl) ⟨_, _, _, rfl, rfl, rfl, rfl⟩ rfl rfl ?_
     refine wa_no (i := 27) (d := 45) 10 rfl (by kernel_rfl) (by kernel_rfl) (by kernel_rfl) ⟨_, _, _, rfl, rfl, rfl, rfl⟩ rfl rfl ?_
     refine wa_no (i := 28) (d := 46) 9 rfl (by kernel_rfl) (by kernel_rfl) (by kernel_rfl) ⟨_, _, _, rfl, rfl, rfl, rfl⟩ rfl rfl ?_
     refine wa_no (i := 29) (d := 47) 8 rfl (by kernel_rfl) (by kernel_rfl) (by kernel_rfl) ⟨_, _, _, rfl, rfl, rfl, rfl⟩ rfl rfl ?_
     refine wa_no (i := 30) (d := 48) 7 rfl (by kernel_rfl) (by kernel_rfl) (by kernel_rfl) ⟨_, _, _, rfl, rfl, rfl, rfl⟩ rfl rfl ?_
     refine wa_no (i := 31) (d := 49) 6 rfl (by kernel_rfl) (by kernel_rfl) (by kernel_rfl) ⟨_, _, _, rfl, rfl, rfl, rfl⟩ rfl rfl ?_
     refine wa_no (i := 32) (d := 50) 5 rfl (by kernel_rfl) (by kernel_rfl) (by kernel_rfl) ⟨_, _, _, rfl, rfl, rfl, rfl⟩ rfl rfl ?_
     refine wa_no (i := 33) (d := 51) 4 rfl (by kernel_rfl) (by kernel_rfl) (by kernel_rfl) ⟨_, _, _, rfl, rfl, rfl, rfl⟩ rfl rfl ?_
     refine wa_no (i := 34) (d := 52) 3 rfl (by kernel_rfl) (by kernel_rfl) (by kernel_rfl) ⟨_, _, _, rfl, rfl, rfl, rfl⟩ rfl rfl ?_
     refine wa_no (i := 35) (d := 53) 2 rfl (by kernel_rfl) (by kernel_rfl) (by kernel_rfl) ⟨_, _, _, rfl, rfl, rfl, rfl⟩ rfl rfl ?_
     refine wa_no (i := 36) (d := 54) 1 rfl (by kernel_rfl) (by kernel_rfl) (by kernel_rfl) ⟨_, _, _, rfl, rfl, rfl, rfl⟩ rfl rfl ?_
     refine wa_takeP (i := 37) (d := 55) 0 rfl (by kernel_rfl) (by kernel_rfl) (by kernel_rfl) rfl rfl rfl (fun w16 => run_pickT rfl rfl rfl) ?_
     refine wa_end (by kernel_rfl) (fun w17 S17 => ?_)
     refine nm_sub [(0, _), (3, _), (55, _)] ⟨rfl, rfl, rfl, trivial⟩ ?_
     refine nm_thn ?_
     refine ws_condTN PolyMay_n30 rfl rfl rfl ?_
     refine ws_seqN PolyMay_n32 PolyMay_n33 rfl rfl rfl ?_
     refine ws_region rfl ?_
     refine wla 0 1 rfl rfl rfl rfl rfl rfl rfl ?_
     refine wl_end rfl ?_
     refine nm_sub [(2, _)] ⟨rfl, trivial⟩ ?_
     refine nm_thn ?_
     refine ws_ret hC [_] rfl rfl ⟨rfl, trivial⟩ ?_
     exact ⟨_, rfl, (S17.pick [] [] (by decide) trivial), (congrArg Value.bool (Eq.symm (decide_eq_false (fun h => by first | (have := h.1; omega) | (have h9 := h.2 i (by omega); unfold okT at h9; omega)))))⟩
    ·replace hg21 := of_decide_eq_false hg21
     refine wa_takeP (i := 4) (d := 22) 33 rfl (by kernel_rfl) (by kernel_rfl) (by kernel_rfl) ⟨_, _, _, rfl, rfl, rfl, rfl⟩ rfl rfl (fun w18 => run_fieldAddr rfl rfl Tryd.underlying37 rfl (ce3) (nf3)) ?_
     refine wa_take (i := 5) (d := 23) 32 rfl (by kernel_rfl) (by kernel_rfl) (by kernel_rfl) ⟨_, _, _, rfl, rfl, rfl, rfl⟩ rfl rfl (fun M15 N15 w19 hle16 S19 => .inl (run_load1 rfl rfl Tryd.underlying3 rfl (S19.suf.boxc (i := 0) rfl rfl))) ?_
     refine wa_takeP (i := 6) (d := 24) 31 rfl (by kernel_rfl) (by kernel_rfl) (by kernel_rfl) ⟨_, _, _, rfl, rfl, rfl, rfl⟩ rfl rfl (fun w20 => run_gtr rfl rfl rfl) ?_
     refine wa_takeP (i := 7) (d := 25) 30 rfl (by kernel_rfl) (by kernel_rfl) (by kernel_rfl) rfl rfl rfl (fun w21 => run_pickF rfl rfl rfl) ?_
     refine wa_takeP (i := 8) (d := 26) 29 rfl (by kernel_rfl) (by kernel_rfl) (by kernel_rfl) rfl rfl rfl (fun w22 => run_move rfl rfl) ?_
     refine wa_split (t := 26) rfl (fun hg26 => ?_) (fun hg26 => ?_)
     ·replace hg26 := of_decide_eq_true hg26
      refine wa_no (i := 9) (d := 27) 28 rfl (by kernel_rfl) (by kernel_rfl) (by kernel_rfl) ⟨_, _, _, rfl, rfl, rfl, rfl⟩ rfl rfl ?_
      refine wa_no (i := 10) (d := 28) 27 rfl (by kernel_rfl) (by kernel_rfl) (by kernel_rfl) ⟨_, _, _, rfl, rfl, rfl, rfl⟩ rfl rfl ?_
      refine wa_no (i := 11) (d := 29) 26 rfl (by kernel_rfl) (by kernel_rfl) (by kernel_rfl) ⟨_, _, _, rfl, rfl, rfl, rfl⟩ rfl rfl ?_
      refine wa_takeP (i := 12) (d := 30) 25 rfl (by kernel_rfl) (by kernel_rfl) (by kernel_rfl) rfl rfl rfl (fun w23 => run_pickT rfl rfl rfl) ?_
      refine wa_takeP (i := 13) (d := 31) 24 rfl (by kernel_rfl) (by kernel_rfl) (by kernel_rfl) rfl rfl rfl (fun w24 => run_move rfl rfl) ?_
      refine wa_no (i := 14) (d := 32) 23 rfl (by kernel_rfl) (by kernel_rfl) (by kernel_rfl) ⟨_, _, _, rfl, rfl, rfl, rfl⟩ rfl rfl ?_
      refine wa_no (i := 15) (d := 33) 22 rfl (by kernel_rfl) (by kernel_rfl) (by kernel_rfl) ⟨_, _, _, rfl, rfl, rfl, rfl⟩ rfl rfl ?_
      refine wa_no (i := 16) (d := 34) 21 rfl (by kernel_rfl) (by kernel_rfl) (by kernel_rfl) ⟨_, _, _, rfl, rfl, rfl, rfl⟩ rfl rfl ?_
      refine wa_takeP (i := 17) (d := 35) 20 rfl (by kernel_rfl) (by kernel_rfl) (by kernel_rfl) rfl rfl rfl (fun w25 => run_pickT rfl rfl rfl) ?_
      refine wa_takeP (i := 18) (d := 36) 19 rfl (by kernel_rfl) (by kernel_rfl) (by kernel_rfl) rfl rfl rfl (fun w26 => run_move rfl rfl) ?_
      refine wa_no (i := 19) (d := 37) 18 rfl (by kernel_rfl) (by kernel_rfl) (by kernel_rfl) ⟨_, _, _, rfl, rfl, rfl, rfl⟩ rfl rfl ?_
      refine wa_no (i := 20) (d := 38) 17 rfl (by kernel_rfl) (by kernel_rfl) (by kernel_rfl) ⟨_, _, _, rfl, rfl, rfl, rfl⟩ rfl rfl ?_
      refine wa_no (i := 21) (d := 39) 16 rfl (by kernel_rfl) (by kernel_rfl) (by kernel_rfl) ⟨_, _, _, rfl, rfl, rfl, rfl⟩ rfl rfl ?_
      refine wa_takeP (i := 22) (d := 40) 15 rfl (by kernel_rfl) (by kernel_rfl) (by kernel_rfl) rfl rfl rfl (fun w27 => run_pickT rfl rfl rfl) ?_
      refine wa_takeP (i := 23) (d := 41) 14 rfl (by kernel_rfl) (by kernel_rfl) (by kernel_rfl) rfl rfl rfl (fun w28 => run_move rfl rfl) ?_
      refine wa_no (i := 24) (d := 42) 13 rfl (by kernel_rfl) (by kernel_rfl) (by kernel_rfl) ⟨_, _, _, rfl, rfl, rfl, rfl⟩ rfl rfl ?_
      refine wa_no (i := 25) (d := 43) 12 rfl (by kernel_rfl) (by kernel_rfl) (by kernel_rfl) ⟨_, _, _, rfl, rfl, rfl, rfl⟩ rfl rfl ?_
      refine wa_no (i := 26) (d := 44) 11 rfl (by kernel_rfl) (by kernel_rfl) (by kernel_rfl) ⟨_, _, _, rfl, rfl, rfl, rfl⟩ rfl rfl ?_
      refine wa_no (i := 27) (d := 45) 10 rfl (by kernel_rfl) (by kernel_rfl) (by kernel_rfl) ⟨_, _, _, rfl, rfl, rfl, rfl⟩ rfl rfl ?_
      refine wa_no (i := 28) (d := 46) 9 rfl (by kernel_rfl) (by kernel_rfl) (by kernel_rfl) ⟨_, _, _, rfl, rfl, rfl, rfl⟩ rfl rfl ?_
      refine wa_no (i := 29) (d := 47) 8 rfl (by kernel_rfl) (by kernel_rfl) (by kernel_rfl) ⟨_, _, _, rfl, rfl, rfl, rfl⟩ rfl rfl ?_
      refine wa_no (i := 30) (d := 48) 7 rfl (by kernel_rfl) (by kernel_rfl) (by kernel_rfl) ⟨_, _, _, rfl, rfl, rfl, rfl⟩ rfl rfl ?_
      refine wa_no (i := 31) (d := 49) 6 rfl (by kernel_rfl) (by kernel_rfl) (by kernel_rfl) ⟨_, _, _, rfl, rfl, rfl, rfl⟩ rfl rfl ?_
      refine wa_no (i := 32) (d := 50) 5 rfl (by kernel_rfl) (by kernel_rfl) (by kernel_rfl) ⟨_, _, _, rfl, rfl, rfl, rfl⟩ rfl rfl ?_
      refine wa_no (i := 33) (d := 51) 4 rfl (by kernel_rfl) (by kernel_rfl) (by kernel_rfl) ⟨_, _, _, rfl, rfl, rfl, rfl⟩ rfl rfl ?_
      refine wa_no (i := 34) (d := 52) 3 rfl (by kernel_rfl) (by kernel_rfl) (by kernel_rfl) ⟨_, _, _, rfl, rfl, rfl, rfl⟩ rfl rfl ?_
      refine wa_no (i := 35) (d := 53) 2 rfl (by kernel_rfl) (by kernel_rfl) (by kernel_rfl) ⟨_, _, _, rfl, rfl, rfl, rfl⟩ rfl rfl ?_
      refine wa_no (i := 36) (d := 54) 1 rfl (by kernel_rfl) (by kernel_rfl) (by kernel_rfl) ⟨_, _, _, rfl, rfl, rfl, rfl⟩ rfl rfl ?_
      refine wa_takeP (i := 37) (d := 55) 0 rfl (by kernel_rfl) (by kernel_rfl) (by kernel_rfl) rfl rfl rfl (fun w29 => run_pickT rfl rfl rfl) ?_
      refine wa_end (by kernel_rfl) (fun w30 S30 => ?_)
      refine nm_sub [(0, _), (3, _), (55, _)] ⟨rfl, rfl, rfl, trivial⟩ ?_
      refine nm_thn ?_
      refine ws_condTN PolyMay_n30 rfl rfl rfl ?_
      refine ws_seqN PolyMay_n32 PolyMay_n33 rfl rfl rfl ?_
      refine ws_region rfl ?_
      refine wla 0 1 rfl rfl rfl rfl rfl rfl rfl ?_
      refine wl_end rfl ?_
      refine nm_sub [(2, _)] ⟨rfl, trivial⟩ ?_
      refine nm_thn ?_
      refine ws_ret hC [_] rfl rfl ⟨rfl, trivial⟩ ?_
      exact ⟨_, rfl, (S30.pick [] [] (by decide) trivial), (congrArg Value.bool (Eq.symm (decide_eq_false (fun h => by first | (have := h.1; omega) | (have h9 := h.2 i (by omega); unfold okT at h9; omega)))))⟩
     ·replace hg26 := of_decide_eq_false hg26
      refine wa_takeP (i := 9) (d := 27) 28 rfl (by kernel_rfl) (by kernel_rfl) (by kernel_rfl) ⟨_, _, _, rfl, rfl, rfl, rfl⟩ rfl rfl (fun w31 => run_fieldAddr rfl rfl Tryd.underlying37 rfl (ce3) (nf3)) ?_
      refine wa_take (i := 10) (d := 28) 27 rfl (by kernel_rfl) (by kernel_rfl) (by kernel_rfl) ⟨_, _, _, rfl, rfl, rfl, rfl⟩ rfl rfl (fun M27 N27 w32 hle28 S32 => .inl (run_load1 rfl rfl Tryd.underlying3 rfl (S32.suf.boxc (i := 0) rfl rfl))) ?_
      refine wa_takeP (i := 11) (d := 29) 26 rfl (by kernel_rfl) (by kernel_rfl) (by kernel_rfl) ⟨_, _, _, rfl, rfl, rfl, rfl⟩ rfl rfl (fun w33 => run_lss rfl rfl rfl) ?_
      refine wa_takeP (i := 12) (d := 30) 25 rfl (by kernel_rfl) (by kernel_rfl) (by kernel_rfl) rfl rfl rfl (fun w34 => run_pickF rfl rfl rfl) ?_
      refine wa_takeP (i := 13) (d := 31) 24 rfl (by kernel_rfl) (by kernel_rfl) (by kernel_rfl) rfl rfl rfl (fun w35 => run_move rfl rfl) ?_
      refine wa_split (t := 31) rfl (fun hg31 => ?_) (fun hg31 => ?_)
      ·replace hg31 := of_decide_eq_true hg31
       refine wa_no (i := 14) (d := 32) 23 rfl (by kernel_rfl) (by kernel_rfl) (by kernel_rfl) ⟨_, _, _, rfl, rfl, rfl, rfl⟩ rfl rfl ?_
       refine wa_no (i := 15) (d := 33) 22 rfl (by kernel_rfl) (by kernel_rfl) (by kernel_rfl) ⟨_, _, _, rfl, rfl, rfl, rfl⟩ rfl rfl ?_
       refine wa_no (i := 16) (d := 34) 21 rfl (by kernel_rfl) (by kernel_rfl) (by kernel_rfl) ⟨_, _, _, rfl, rfl, rfl, rfl⟩ rfl rfl ?_
       refine wa_takeP (i := 17) (d := 35) 20 rfl (by kernel_rfl) (by kernel_rfl) (by kernel_rfl) rfl rfl rfl (fun w36 => run_pickT rfl rfl rfl) ?_
       refine wa_takeP (i := 18) (d := 36) 19 rfl (by kernel_rfl) (by kernel_rfl) (by kernel_rfl) rfl rfl rfl (fun w37 => run_move rfl rfl) ?_
       refine wa_no (i := 19) (d := 37) 18 rfl (by kernel_rfl) (by kernel_rfl) (by kernel_rfl) ⟨_, _, _, rfl, rfl, rfl, rfl⟩ rfl rfl ?_
       refine wa_no (i := 20) (d := 38) 17 rfl (by kernel_rfl) (by kernel_rfl) (by kernel_rfl) ⟨_, _, _, rfl, rfl, rfl, rfl⟩ rfl rfl ?_
       refine wa_no (i := 21) (d := 39) 16 rfl (by kernel_rfl) (by kernel_rfl) (by kernel_rfl) ⟨_, _, _, rfl, rfl, rfl, rfl⟩ rfl rfl ?_
       refine wa_takeP (i := 22) (d := 40) 15 rfl (by kernel_rfl) (by kernel_rfl) (by kernel_rfl) rfl rfl rfl (fun w38 => run_pickT rfl rfl rfl) ?_
       refine wa_takeP (i := 23) (d := 41) 14 rfl (by kernel_rfl) (by kernel_rfl) (by kernel_rfl) rfl rfl rfl (fun w39 => run_move rfl rfl) ?_
       refine wa_no (i := 24) (d := 42) 13 rfl (by kernel_rfl) (by kernel_rfl) (by kernel_rfl) ⟨_, _, _, rfl, rfl, rfl, rfl⟩ rfl rfl ?_
       refine wa_no (i := 25) (d := 43) 12 rfl (by kernel_rfl) (by kernel_rfl) (by kernel_rfl) ⟨_, _, _, rfl, rfl, rfl, rfl⟩ rfl rfl ?_
       refine wa_no (i := 26) (d := 44) 11 rfl (by kernel_rfl) (by kernel_rfl) (by kernel_rfl) ⟨_, _, _, rfl, rfl, rfl, rfl⟩ rfl rfl ?_
       refine wa_no (i := 27) (d := 45) 10 rfl (by kernel_rfl) (by kernel_rfl) (by kernel_rfl) ⟨_, _, _, rfl, rfl, rfl, rfl⟩ rfl rfl ?_
       refine wa_no (i := 28) (d := 46) 9 rfl (by kernel_rfl) (by kernel_rfl) (by kernel_rfl) ⟨_, _, _, rfl, rfl, rfl, rfl⟩ rfl rfl ?_
       refine wa_no (i := 29) (d := 47) 8 rfl (by kernel_rfl) (by kernel_rfl) (by kernel_rfl) ⟨_, _, _, rfl, rfl, rfl, rfl⟩ rfl rfl ?_
       refine wa_no (i := 30) (d := 48) 7 rfl (by kernel_rfl) (by kernel_rfl) (by kernel_rfl) ⟨_, _, _, rfl, rfl, rfl, rfl⟩ rfl rfl ?_
       refine wa_no (i := 31) (d := 49) 6 rfl (by kernel_rfl) (by kernel_rfl) (by kernel_rfl) ⟨_, _, _, rfl, rfl, rfl, rfl⟩ rfl rfl ?_
       refine wa_no (i := 32) (d := 50) 5 rfl (by kernel_rfl) (by kernel_rfl) (by kernel_rfl) ⟨_, _, _, rfl, rfl, rfl, rfl⟩ rfl rfl ?_
       refine wa_no (i := 33) (d := 51) 4 rfl (by kernel_rfl) (by kernel_rfl) (by kernel_rfl) ⟨_, _, _, rfl, rfl, rfl, rfl⟩ rfl rfl ?_
       refine wa_no (i := 34) (d := 52) 3 rfl (by kernel_rfl) (by kernel_rfl) (by kernel_rfl) ⟨_, _, _, rfl, rfl, rfl, rfl⟩ rfl rfl ?_
       refine wa_no (i := 35) (d := 53) 2 rfl (by kernel_rfl) (by kernel_rfl) (by kernel_rfl) ⟨_, _, _, rfl, rfl, rfl, rfl⟩ rfl rfl ?_
       refine wa_no (i := 36) (d := 54) 1 rfl (by kernel_rfl) (by kernel_rfl) (by kernel_rfl) ⟨_, _, _, rfl, rfl, rfl, rfl⟩ rfl rfl ?_
       refine wa_takeP (i := 37) (d := 55) 0 rfl (by kernel_rfl) (by kernel_rfl) (by kernel_rfl) rfl rfl rfl (fun w40 => run_pickT rfl rfl rfl) ?_
       refine wa_end (by kernel_rfl) (fun w41 S41 => ?_)
       refine nm_sub [(0, _), (3, _), (55, _)] ⟨rfl, rfl, rfl, trivial⟩ ?_
       refine nm_thn ?_
       refine ws_condTN PolyMay_n30 rfl rfl rfl ?_
       refine ws_seqN PolyMay_n32 PolyMay_n33 rfl rfl rfl ?_
       refine ws_region rfl ?_
       refine wla 0 1 rfl rfl rfl rfl rfl rfl rfl ?_
       refine wl_end rfl ?_
       refine nm_sub [(2, _)] ⟨rfl, trivial⟩ ?_
       refine nm_thn ?_
       refine ws_ret hC [_] rfl rfl ⟨rfl, trivial⟩ ?_
       exact ⟨_, rfl, (S41.pick [] [] (by decide) trivial), (congrArg Value.bool (Eq.symm (decide_eq_false (fun h => by first | (have := h.1; omega) | (have h9 := h.2 i (by omega); unfold okT at h9; omega)))))⟩
      ·replace hg31 := of_decide_eq_false hg31
       refine wa_takeP (i := 14) (d := 32) 23 rfl (by kernel_rfl) (by kernel_rfl) (by kernel_rfl) ⟨_, _, _, rfl, rfl, rfl, rfl⟩ rfl rfl (fun w42 => run_fieldAddr rfl rfl Tryd.underlying37 rfl (ce3) (nf3)) ?_
       refine wa_take (i := 15) (d := 33) 22 rfl (by kernel_rfl) (by kernel_rfl) (by kernel_rfl) ⟨_, _, _, rfl, rfl, rfl, rfl⟩ rfl rfl (fun M37 N37 w43 hle38 S43 => .inl (run_load1 rfl rfl Tryd.underlying3 rfl (S43.suf.boxc (i := 0) rfl rfl))) ?_
       refine wa_takeP (i := 16) (d := 34) 21 rfl (by kernel_rfl) (by kernel_rfl) (by kernel_rfl) ⟨_, _, _, rfl, rfl, rfl, rfl⟩ rfl rfl (fun w44 => run_gtr rfl rfl rfl) ?_
       refine wa_takeP (i := 17) (d := 35) 20 rfl (by kernel_rfl) (by kernel_rfl) (by kernel_rfl) rfl rfl rfl (fun w45 => run_pickF rfl rfl rfl) ?_
       refine wa_takeP (i := 18) (d := 36) 19 rfl (by kernel_rfl) (by kernel_rfl) (by kernel_rfl) rfl rfl rfl (fun w46 => run_move rfl rfl) ?_
       refine wa_split (t := 36) rfl (fun hg36 => ?_) (fun hg36 => ?_)
       ·replace hg36 := of_decide_eq_true hg36
        refine wa_no (i := 19) (d := 37) 18 rfl (by kernel_rfl) (by kernel_rfl) (by kernel_rfl) ⟨_, _, _, rfl, rfl, rfl, rfl⟩ rfl rfl ?_
        refine wa_no (i := 20) (d := 38) 17 rfl (by kernel_rfl) (by kernel_rfl) (by kernel_rfl) ⟨_, _, _, rfl, rfl, rfl, rfl⟩ rfl rfl ?_
        refine wa_no (i := 21) (d := 39) 16 rfl (by kernel_rfl) (by kernel_rfl) (by kernel_rfl) ⟨_, _, _, rfl, rfl, rfl, rfl⟩ rfl rfl ?_
        refine wa_takeP (i := 22) (d := 40) 15 rfl (by kernel_rfl) (by kernel_rfl) (by kernel_rfl) rfl rfl rfl (fun w47 => run_pickT rfl rfl rfl) ?_
        refine wa_takeP (i := 23) (d := 41) 14 rfl (by kernel_rfl) (by kernel_rfl) (by kernel_rfl) rfl rfl rfl (fun w48 => run_move rfl rfl) ?_
        refine wa_no (i := 24) (d := 42) 13 rfl (by kernel_rfl) (by kernel_rfl) (by kernel_rfl) ⟨_, _, _, rfl, rfl, rfl, rfl⟩ rfl rfl ?_
        refine wa_no (i := 25) (d := 43) 12 rfl (by kernel_rfl) (by kernel_rfl) (by kernel_rfl) ⟨_, _, _, rfl, rfl, rfl, rfl⟩ rfl rfl ?_
        refine wa_no (i := 26) (d := 44) 11 rfl (by kernel_rfl) (by kernel_rfl) (by kernel_rfl) ⟨_, _, _, rfl, rfl, rfl, rfl⟩ rfl rfl ?_
        refine wa_no (i := 27) (d := 45) 10 rfl (by kernel_rfl) (by kernel_rfl) (by kernel_rfl) ⟨_, _, _, rfl, rfl, rfl, rfl⟩ rfl rfl ?_
        refine wa_no (i := 28) (d := 46) 9 rfl (by kernel_rfl) (by kernel_rfl) (by kernel_rfl) ⟨_, _, _, rfl, rfl, rfl, rfl⟩ rfl rfl ?_
        refine wa_no (i := 29) (d := 47) 8 rfl (by kernel_rfl) (by kernel_rfl) (by kernel_rfl) ⟨_, _, _, rfl, rfl, rfl, rfl⟩ rfl rfl ?_
        refine wa_no (i := 30) (d := 48) 7 rfl (by kernel_rfl) (by kernel_rfl) (by kernel_rfl) ⟨_, _, _, rfl, rfl, rfl, rfl⟩ rfl rfl ?_
        refine wa_no (i := 31) (d := 49) 6 rfl (by kernel_rfl) (by kernel_rfl) (by kernel_rfl) ⟨_, _, _, rfl, rfl, rfl, rfl⟩ rfl rfl ?_
        refine wa_no (i := 32) (d := 50) 5 rfl (by kernel_rfl) (by kernel_rfl) (by kernel_rfl) ⟨_, _, _, rfl, rfl, rfl, rfl⟩ rfl rfl ?_
        refine wa_no (i := 33) (d := 51) 4 rfl (by kernel_rfl) (by kernel_rfl) (by kernel_rfl) ⟨_, _, _, rfl, rfl, rfl, rfl⟩ rfl rfl ?_
        refine wa_no (i := 34) (d := 52) 3 rfl (by kernel_rfl) (by kernel_rfl) (by kernel_rfl) ⟨_, _, _, rfl, rfl, rfl, rfl⟩ rfl rfl ?_
        refine wa_no (i := 35) (d := 53) 2 rfl (by kernel_rfl) (by kernel_rfl) (by kernel_rfl) ⟨_, _, _, rfl, rfl, rfl, rfl⟩ rfl rfl ?_
        refine wa_no (i := 36) (d := 54) 1 rfl (by kernel_rfl) (by kernel_rfl) (by kernel_rfl) ⟨_, _, _, rfl, rfl, rfl, rfl⟩ rfl rfl ?_
        refine wa_takeP (i := 37) (d := 55) 0 rfl (by kernel_rfl) (by kernel_rfl) (by kernel_rfl) rfl rfl rfl (fun w49 => run_pickT rfl rfl rfl) ?_
        refine wa_end (by kernel_rfl) (fun w50 S50 => ?_)
        refine nm_sub [(0, _), (3, _), (55, _)] ⟨rfl, rfl, rfl, trivial⟩ ?_
        refine nm_thn ?_
        refine ws_condTN PolyMay_n30 rfl rfl rfl ?_
        refine ws_seqN PolyMay_n32 PolyMay_n33 rfl rfl rfl ?_
        refine ws_region rfl ?_
        refine wla 0 1 rfl rfl rfl rfl rfl rfl rfl ?_
        refine wl_end rfl ?_
        refine nm_sub [(2, _)] ⟨rfl, trivial⟩ ?_
        refine nm_thn ?_
        refine ws_ret hC [_] rfl rfl ⟨rfl, trivial⟩ ?_
        exact ⟨_, rfl, (S50.pick [] [] (by decide) trivial), (congrArg Value.bool (Eq.symm (decide_eq_false (fun h => by first | (have := h.1; omega) | (have h9 := h.2 i (by omega); unfold okT at h9; omega)))))⟩
       ·replace hg36 := of_decide_eq_false hg36
        refine wa_takeP (i := 19) (d := 37) 18 rfl (by kernel_rfl) (by kernel_rfl) (by kernel_rfl) ⟨_, _, _, rfl, rfl, rfl, rfl⟩ rfl rfl (fun w51 => run_fieldAddr rfl rfl Tryd.underlying37 rfl (ce3) (nf3)) ?_
        refine wa_take (i := 20) (d := 38) 17 rfl (by kernel_rfl) (by kernel_rfl) (by kernel_rfl) ⟨_, _, _, rfl, rfl, rfl, rfl⟩ rfl rfl (fun M45 N45 w52 hle46 S52 => .inl (run_load1 rfl rfl Tryd.underlying3 rfl (S52.suf.boxc (i := 0) rfl rfl))) ?_
        refine wa_takeP (i := 21) (d := 39) 16 rfl (by kernel_rfl) (by kernel_rfl) (by kernel_rfl) ⟨_, _, _, rfl, rfl, rfl, rfl⟩ rfl rfl (fun w53 => run_eql rfl rfl rfl) ?_
        refine wa_takeP (i := 22) (d := 40) 15 rfl (by kernel_rfl) (by kernel_rfl) (by kernel_rfl) rfl rfl rfl (fun w54 => run_pickF rfl rfl rfl) ?_
        refine wa_takeP (i := 23) (d := 41) 14 rfl (by kernel_rfl) (by kernel_rfl) (by kernel_rfl) rfl rfl rfl (fun w55 => run_move rfl rfl) ?_
        refine wa_split (t := 41) rfl (fun hg41 => ?_) (fun hg41 => ?_)
        ·replace hg41 := of_decide_eq_true hg41
         refine wa_no (i := 24) (d := 42) 13 rfl (by kernel_rfl) (by kernel_rfl) (by kernel_rfl) ⟨_, _, _, rfl, rfl, rfl, rfl⟩ rfl rfl ?_
         refine wa_no (i := 25) (d := 43) 12 rfl (by kernel_rfl) (by kernel_rfl) (by kernel_rfl) ⟨_, _, _, rfl, rfl, rfl, rfl⟩ rfl rfl ?_
         refine wa_no (i := 26) (d := 44) 11 rfl (by kernel_rfl) (by kernel_rfl) (by kernel_rfl) ⟨_, _, _, rfl, rfl, rfl, rfl⟩ rfl rfl ?_
         refine wa_no (i := 27) (d := 45) 10 rfl (by kernel_rfl) (by kernel_rfl) (by kernel_rfl) ⟨_, _, _, rfl, rfl, rfl, rfl⟩ rfl rfl ?_
         refine wa_no (i := 28) (d := 46) 9 rfl (by kernel_rfl) (by kernel_rfl) (by kernel_rfl) ⟨_, _, _, rfl, rfl, rfl, rfl⟩ rfl rfl ?_
         refine wa_no (i := 29) (d := 47) 8 rfl (by kernel_rfl) (by kernel_rfl) (by kernel_rfl) ⟨_, _, _, rfl, rfl, rfl, rfl⟩ rfl rfl ?_
         refine wa_no (i := 30) (d := 48) 7 rfl (by kernel_rfl) (by kernel_rfl) (by kernel_rfl) ⟨_, _, _, rfl, rfl, rfl, rfl⟩ rfl rfl ?_
         refine wa_no (i := 31) (d := 49) 6 rfl (by kernel_rfl) (by kernel_rfl) (by kernel_rfl) ⟨_, _, _, rfl, rfl, rfl, rfl⟩ rfl rfl ?_
         refine wa_no (i := 32) (d := 50) 5 rfl (by kernel_rfl) (by kernel_rfl) (by kernel_rfl) ⟨_, _, _, rfl, rfl, rfl, rfl⟩ rfl rfl ?_
         refine wa_no (i := 33) (d := 51) 4 rfl (by kernel_rfl) (by kernel_rfl) (by kernel_rfl) ⟨_, _, _, rfl, rfl, rfl, rfl⟩ rfl rfl ?_
         refine wa_no (i := 34) (d := 52) 3 rfl (by kernel_rfl) (by kernel_rfl) (by kernel_rfl) ⟨_, _, _, rfl, rfl, rfl, rfl⟩ rfl rfl ?_
         refine wa_no (i := 35) (d := 53) 2 rfl (by kernel_rfl) (by kernel_rfl) (by kernel_rfl) ⟨_, _, _, rfl, rfl, rfl, rfl⟩ rfl rfl ?_
         refine wa_no (i := 36) (d := 54) 1 rfl (by kernel_rfl) (by kernel_rfl) (by kernel_rfl) ⟨_, _, _, rfl, rfl, rfl, rfl⟩ rfl rfl ?_
         refine wa_takeP (i := 37) (d := 55) 0 rfl (by kernel_rfl) (by kernel_rfl) (by kernel_rfl) rfl rfl rfl (fun w56 => run_pickT rfl rfl rfl) ?_
         refine wa_end (by kernel_rfl) (fun w57 S57 => ?_)
         refine nm_sub [(0, _), (3, _), (55, _)] ⟨rfl, rfl, rfl, trivial⟩ ?_
         refine nm_thn ?_
         refine ws_condTN PolyMay_n30 rfl rfl rfl ?_
         refine ws_seqN PolyMay_n32 PolyMay_n33 rfl rfl rfl ?_
         refine ws_region rfl ?_
         refine wla 0 1 rfl rfl rfl rfl rfl rfl rfl ?_
         refine wl_end rfl ?_
         refine nm_sub [(2, _)] ⟨rfl, trivial⟩ ?_
         refine nm_thn ?_
         refine ws_ret hC [_] rfl rfl ⟨rfl, trivial⟩ ?_
         exact ⟨_, rfl, (S57.pick [] [] (by decide) trivial), (congrArg Value.bool (Eq.symm (decide_eq_false (fun h => by first | (have := h.1; omega) | (have h9 := h.2 i (by omega); unfold okT at h9; omega)))))⟩
        ·replace hg41 := of_decide_eq_false hg41
         refine wa_takeP (i := 24) (d := 42) 13 rfl (by kernel_rfl) (by kernel_rfl) (by kernel_rfl) ⟨_, _, _, rfl, rfl, rfl, rfl⟩ rfl rfl (fun w58 => run_move rfl rfl) ?_
         refine wa_takeP (i := 25) (d := 43) 12 rfl (by kernel_rfl) (by kernel_rfl) (by kernel_rfl) ⟨_, _, _, rfl, rfl, rfl, rfl⟩ rfl rfl (fun w59 => run_gtr rfl rfl rfl) ?_
         refine wa_takeP (i := 26) (d := 44) 11 rfl (by kernel_rfl) (by kernel_rfl) (by kernel_rfl) ⟨_, _, _, rfl, rfl, rfl, rfl⟩ rfl rfl (fun w60 => run_move rfl rfl) ?_
         refine wa_split (t := 44) rfl (fun hg44 => ?_) (fun hg44 => ?_)
         ·replace hg44 := of_decide_eq_true hg44
          refine wa_takeP (i := 27) (d := 45) 10 rfl (by kernel_rfl) (by kernel_rfl) (by kernel_rfl) ⟨_, _, _, rfl, rfl, rfl, rfl⟩ rfl rfl (fun w61 => run_move rfl rfl) ?_
          refine wa_takeP (i := 28) (d := 46) 9 rfl (by kernel_rfl) (by kernel_rfl) (by kernel_rfl) ⟨_, _, _, rfl, rfl, rfl, rfl⟩ rfl rfl (fun w62 => run_move rfl rfl) ?_
          refine wa_takeP (i := 29) (d := 47) 8 rfl (by kernel_rfl) (by kernel_rfl) (by kernel_rfl) ⟨_, _, _, rfl, rfl, rfl, rfl⟩ rfl rfl (fun w63 => run_sub rfl rfl rfl (by first | omega | (simp only [lens]; omega))) ?_
          refine wa_take (i := 30) (d := 48) 7 rfl (by kernel_rfl) (by kernel_rfl) (by kernel_rfl) ⟨_, _, _, rfl, rfl, rfl, rfl⟩ rfl rfl (fun M56 N56 w64 hle57 S64 => .inl (run_indexM (C := cdTm) (((i : Int) - 1).toNat) rfl rfl rfl sl22 (by first | rfl | omega) (ha.mono (Hp.un_mono hle57 S64.mx)) (by first | omega | (simp only [lens]; omega)))) ?_
          refine wa_takeP (i := 31) (d := 49) 6 rfl (by kernel_rfl) (by kernel_rfl) (by kernel_rfl) ⟨_, _, _, rfl, rfl, rfl, rfl⟩ rfl rfl (fun w65 => run_fieldAddr rfl rfl Tryd.underlying37 rfl (ce3) (nf3)) ?_
          refine wa_take (i := 32) (d := 50) 5 rfl (by kernel_rfl) (by kernel_rfl) (by kernel_rfl) ⟨_, _, _, rfl, rfl, rfl, rfl⟩ rfl rfl (fun M58 N58 w66 hle59 S66 => .inl (run_load1 rfl rfl Tryd.underlying3 rfl ((ha.mono (Hp.un_mono hle59 S66.mx)).cell S66.um (i := ((i : Int) - 1).toNat) (by first | omega | (simp only [lens]; omega)) 0 rfl rfl))) ?_
          refine wa_takeP (i := 33) (d := 51) 4 rfl (by kernel_rfl) (by kernel_rfl) (by kernel_rfl) ⟨_, _, _, rfl, rfl, rfl, rfl⟩ rfl rfl (fun w67 => run_fieldAddr rfl rfl Tryd.underlying37 rfl (ce3) (nf3)) ?_
          refine wa_take (i := 34) (d := 52) 3 rfl (by kernel_rfl) (by kernel_rfl) (by kernel_rfl) ⟨_, _, _, rfl, rfl, rfl, rfl⟩ rfl rfl (fun M60 N60 w68 hle61 S68 => .inl (run_load1 rfl rfl Tryd.underlying3 rfl (S68.suf.boxc (i := 0) rfl rfl))) ?_
          refine wa_takeP (i := 35) (d := 53) 2 rfl (by kernel_rfl) (by kernel_rfl) (by kernel_rfl) ⟨_, _, _, rfl, rfl, rfl, rfl⟩ rfl rfl (fun w69 => run_geq rfl rfl rfl) ?_
          refine wa_takeP (i := 36) (d := 54) 1 rfl (by kernel_rfl) (by kernel_rfl) (by kernel_rfl) ⟨_, _, _, rfl, rfl, rfl, rfl⟩ rfl rfl (fun w70 => run_pickT rfl rfl rfl) ?_
          refine wa_takeP (i := 37) (d := 55) 0 rfl (by kernel_rfl) (by kernel_rfl) (by kernel_rfl) rfl rfl rfl (fun w71 => run_pickF rfl rfl rfl) ?_
          refine wa_end (by kernel_rfl) (fun w72 S72 => ?_)
          refine nm_sub [(0, _), (3, _), (55, _)] ⟨rfl, rfl, rfl, trivial⟩ ?_
          refine nm_thn ?_
          refine ws_condN PolyMay_n30 PolyMay_n31 rfl rfl rfl rfl (fun hb55 => ?_) (fun hb55 => ?_)
          ·replace hb55 := of_decide_eq_true hb55
           refine ws_seqN PolyMay_n32 PolyMay_n33 rfl rfl rfl ?_
           refine ws_region rfl ?_
           refine wla 0 1 rfl rfl rfl rfl rfl rfl rfl ?_
           refine wl_end rfl ?_
           refine nm_sub [(2, _)] ⟨rfl, trivial⟩ ?_
           refine nm_thn ?_
           refine ws_ret hC [_] rfl rfl ⟨rfl, trivial⟩ ?_
           exact ⟨_, rfl, (S72.pick [] [] (by decide) trivial), (congrArg Value.bool (Eq.symm (decide_eq_false (fun h => by first | (have := h.1; omega) | (have h9 := h.2 i (by omega); unfold okT at h9; omega)))))⟩
          ·replace hb55 := of_decide_eq_false hb55
           refine ws_skip rfl ?_
           refine nm_blk ?_
           refine nm_sub [(0, _), (3, _)] ⟨rfl, rfl, trivial⟩ ?_
           refine nm_thn ?_
           refine ws_region rfl ?_
           refine wlm 0 1 rfl rfl rfl rfl rfl rfl rfl ?_
           refine wlo 1 2 rfl rfl rfl (wo_run rfl rfl (run_add rfl rfl rfl (by first | omega | (simp only [lens]; omega))) ?_)
           refine wla 2 3 rfl rfl rfl rfl rfl rfl rfl ?_
           refine wl_end rfl ?_
           refine nm_lp ?_
           intro ax_ hax_
           refine ⟨_, ?hq2m, ⟨i + 1, rfl, hax_.sub ⟨rfl, rfl, trivial⟩, S72.pick [] [] (by decide) trivial, ?hq2f0, ?hq2f1⟩⟩
           case hq2f0 => omega
           case hq2f1 => (intro j hj; by_cases h : j = i; (subst h; unfold okT; first | omega | (simp_all; omega)); exact hok j (by omega))
           case hq2m => omega
         ·replace hg44 := of_decide_eq_false hg44
          refine wa_no (i := 27) (d := 45) 10 rfl (by kernel_rfl) (by kernel_rfl) (by kernel_rfl) ⟨_, _, _, rfl, rfl, rfl, rfl⟩ rfl rfl ?_
          refine wa_no (i := 28) (d := 46) 9 rfl (by kernel_rfl) (by kernel_rfl) (by kernel_rfl) ⟨_, _, _, rfl, rfl, rfl, rfl⟩ rfl rfl ?_
          refine wa_no (i := 29) (d := 47) 8 rfl (by kernel_rfl) (by kernel_rfl) (by kernel_rfl) ⟨_, _, _, rfl, rfl, rfl, rfl⟩ rfl rfl ?_
          refine wa_no (i := 30) (d := 48) 7 rfl (by kernel_rfl) (by kernel_rfl) (by kernel_rfl) ⟨_, _, _, rfl, rfl, rfl, rfl⟩ rfl rfl ?_
          refine wa_no (i := 31) (d := 49) 6 rfl (by kernel_rfl) (by kernel_rfl) (by kernel_rfl) ⟨_, _, _, rfl, rfl, rfl, rfl⟩ rfl rfl ?_
          refine wa_no (i := 32) (d := 50) 5 rfl (by kernel_rfl) (by kernel_rfl) (by kernel_rfl) ⟨_, _, _, rfl, rfl, rfl, rfl⟩ rfl rfl ?_
          refine wa_no (i := 33) (d := 51) 4 rfl (by kernel_rfl) (by kernel_rfl) (by kernel_rfl) ⟨_, _, _, rfl, rfl, rfl, rfl⟩ rfl rfl ?_
          refine wa_no (i := 34) (d := 52) 3 rfl (by kernel_rfl) (by kernel_rfl) (by kernel_rfl) ⟨_, _, _, rfl, rfl, rfl, rfl⟩ rfl rfl ?_
          refine wa_no (i := 35) (d := 53) 2 rfl (by kernel_rfl) (by kernel_rfl) (by kernel_rfl) ⟨_, _, _, rfl, rfl, rfl, rfl⟩ rfl rfl ?_
          refine wa_takeP (i := 36) (d := 54) 1 rfl (by kernel_rfl) (by kernel_rfl) (by kernel_rfl) ⟨_, _, _, rfl, rfl, rfl, rfl⟩ rfl rfl (fun w73 => run_pickF rfl rfl rfl) ?_
          refine wa_takeP (i := 37) (d := 55) 0 rfl (by kernel_rfl) (by kernel_rfl) (by kernel_rfl) rfl rfl rfl (fun w74 => run_pickF rfl rfl rfl) ?_
          refine wa_end (by kernel_rfl) (fun w75 S75 => ?_)
          refine nm_sub [(0, _), (3, _), (55, _)] ⟨rfl, rfl, rfl, trivial⟩ ?_
          refine nm_thn ?_
          refine ws_condFN PolyMay_n31 rfl rfl rfl ?_
          refine ws_skip rfl ?_
          refine nm_blk ?_
          refine nm_sub [(0, _), (3, _)] ⟨rfl, rfl, trivial⟩ ?_
          refine nm_thn ?_
          refine ws_region rfl ?_
          refine wlm 0 1 rfl rfl rfl rfl rfl rfl rfl ?_
          refine wlo 1 2 rfl rfl rfl (wo_run rfl rfl (run_add rfl rfl rfl (by first | omega | (simp only [lens]; omega))) ?_)
          refine wla 2 3 rfl rfl rfl rfl rfl rfl rfl ?_
          refine wl_end rfl ?_
          refine nm_lp ?_
          intro ax_ hax_
          refine ⟨_, ?hq3m, ⟨i + 1, rfl, hax_.sub ⟨rfl, rfl, trivial⟩, S75.pick [] [] (by decide) trivial, ?hq3f0, ?hq3f1⟩⟩
          case hq3f0 => omega
          case hq3f1 => (intro j hj; by_cases h : j = i; (subst h; unfold okT; first | omega | (simp_all; omega)); exact hok j (by omega))
          case hq3m => omega
   ·replace hb11 := of_decide_eq_false hb11
    refine ws_exit rfl rfl ?_
    refine nm_sub [] trivial ?_
    refine nm_thn ?_
    refine ws_seqN PolyMay_n34 PolyMay_n35 rfl rfl rfl ?_
    refine ws_region rfl ?_
    refine wla 0 1 rfl rfl rfl rfl rfl rfl rfl ?_
    refine wl_end rfl ?_
    refine nm_thn ?_
    refine ws_ret hC [_] rfl rfl ⟨rfl, trivial⟩ ?_
    exact ⟨_, rfl, (S1.pick [] [] (by decide) trivial), (congrArg Value.bool (Eq.symm (decide_eq_true ⟨by omega, fun j hj => hok j (by omega)⟩)))⟩
end Go.Proofs.YtakmjhkgilijiaaDoor
