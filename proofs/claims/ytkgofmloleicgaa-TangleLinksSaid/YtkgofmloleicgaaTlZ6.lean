/- Part 6 of the proof of the law TangleLinks: the walks through its functions and the plain laws that they need. -/
import Derived.Test.YtkgofmloleicgaaTlZ5
set_option linter.unusedSimpArgs false
set_option linter.unusedVariables false
namespace Go.Proofs.Ytkgofmloleicgaa
open Go.ChangeShapes Go.WideShapes Go.ChangeAt Go.RowKit
theorem SH.pubB {w : World} {M : Hp} {X : Fr} {H H' : List Rs} {i g : Nat} {T : TypeId} {l : List Value} (S : SH w M X H) (hi : nth H i = some (Rs.box g T l)) (hH : H.set i Rs.emp = H') : ∃ M', M.le M' ∧ SH w M' X H' ∧ BxM M' g T l := by
 obtain ⟨h1, h2, h3⟩ := S.pub hi hH
 refine ⟨_, h1, h2, ?_⟩
 show (M.put w _) g = _
 rw [h3 g (by simp [Rs.box])]
 exact S.get hi
theorem pmN_get {pl : List A4} {n : Nat} {sg : Nat → Bool} (hpl : ∀ c, c < n → ga pl c = pla (sg c)) {y : Sp} (hy : Rl n y) : ∀ k, k ≤ 4 * n → mg y (pmN pl k) = if 4 * y.c.toNat + (plc (sg y.c.toNat) y.a).toNat < k then some (plc (sg y.c.toNat) y.a) else none := by
 have hb := plc_bd (sg y.c.toNat) y.a
 intro k
 induction k with
 | zero => intro _; rw [if_neg (by omega)]; rfl
 | succ k ih =>
  intro hk
  show mg y (mp (⟨(k / 4 : Nat), a4g (ga pl (k / 4)) (k % 4)⟩ : Sp) ((k % 4 : Nat) : Int) (pmN pl k)) = _
  rw [mg_mp, ih (by omega), hpl _ (by omega)]
  obtain ⟨c1, c2, c3⟩ := crn_plc (sg (k / 4)) (p := ((k % 4 : Nat) : Int)) ⟨by omega, by omega⟩
  have e1 : a4g (pla (sg (k / 4))) (k % 4) = crn (sg (k / 4)) ((k % 4 : Nat) : Int) := by unfold crn; rw [Int.toNat_natCast]
  rw [e1]
  by_cases h : y = ⟨((k / 4 : Nat) : Int), crn (sg (k / 4)) ((k % 4 : Nat) : Int)⟩
  ·have a1 : y.c.toNat = k / 4 := by rw [h]; show ((k / 4 : Nat) : Int).toNat = k / 4; rw [Int.toNat_natCast]
   have a2 : plc (sg y.c.toNat) y.a = ((k % 4 : Nat) : Int) := by rw [a1, show y.a = crn (sg (k / 4)) ((k % 4 : Nat) : Int) by rw [h]]; exact c1
   rw [if_pos h, if_pos (by rw [a2, a1]; omega), a2]
  ·rw [if_neg h]
   have hne : 4 * y.c.toNat + (plc (sg y.c.toNat) y.a).toNat ≠ k := by
    intro e
    have a1 : y.c.toNat = k / 4 := by omega
    have a2 : plc (sg (k / 4)) y.a = ((k % 4 : Nat) : Int) := by rw [← a1]; omega
    refine h ?_
    have a3 : y.a = crn (sg (k / 4)) ((k % 4 : Nat) : Int) := plc_inj hy.2.2 ⟨c2, c3⟩ (a2.trans c1.symm)
    obtain ⟨c, a⟩ := y
    have := hy.1
    simp only at a1 a3 this ⊢
    rw [a3]
    congr 1
    omega
   by_cases h2 : 4 * y.c.toNat + (plc (sg y.c.toNat) y.a).toNat < k
   ·rw [if_pos h2, if_pos (by omega)]
   ·rw [if_neg h2, if_neg (by omega)]
def sgT (ts : List (Bool × Bool)) (i : Nat) : Bool := (ga ts i).2
theorem fin_ts (ts : List (Bool × Bool)) : Fin ts (sgT ts) := fin_all (jn_all _ ts fun _ _ => rfl)
theorem fin_pok (ts : List (Bool × Bool)) : PiOk ts.length (oth (endL (dcs ts))) := fun s hs => by
 obtain ⟨_, _, _, _, _, h5, h6, h7⟩ := (fin_ts ts).pi hs
 exact ⟨h5, h6, h7⟩
theorem fin_ways (ts : List (Bool × Bool)) : Ways ts.length (tgE ts).pl (tgE ts).ties (pmN (tgE ts).pl (4 * ts.length)) (oth (endL (dcs ts))) := by
 have F := fin_ts ts
 have hpl : ∀ c, c < ts.length → ga (tgE ts).pl c = pla (sgT ts c) := fun c hc => by rw [F.pl, ga_map _ _ _ hc]; rfl
 refine ⟨by rw [F.pl, List.length_map], fun s hs => ?_⟩
 obtain ⟨y, h1, h2, h3, _⟩ := F.pi hs
 have ek : (⟨s.c, a4g (ga (tgE ts).pl s.c.toNat) s.a.toNat⟩ : Sp) = crf (sgT ts) s := by
  have := hs.2.1
  have := hs.1
  rw [hpl _ (by omega)]; rfl
 rw [ek, h1]
 show y.c = _ ∧ (mg y _).getD 0 = _
 rw [← h3]
 have hb := plc_bd (sgT ts y.c.toNat) y.a
 rw [pmN_get hpl h2 _ (Nat.le_refl _), if_pos (by have := h2.1; have := h2.2.1; omega)]
 exact ⟨rfl, rfl⟩
theorem jn_or (ts : List (Bool × Bool)) {j : Nat} (hj : j < 4) : ((tgs ts).E j).ic = true ∨ ((tgs ts).E j).o = (fl j : Int) := by
 cases h : ((tgs ts).E j).ic with
 | true => exact .inl rfl
 | false => exact .inr ((jn_all (sgT ts) ts fun _ _ => rfl).inv.ef j hj h).1
theorem join_E (ts : List (Bool × Bool)) : (joinG (tgs ts) 0 1).E = (tgs ts).E ∧ 0 ≤ (joinG (tgs ts) 0 1).loops ∧ (joinG (tgs ts) 0 1).loops ≤ 1 := by
 have J := jn_all (sgT ts) ts fun _ _ => rfl
 obtain ⟨_, h, _, r, _, h2⟩ := join_one J.inv (spf_spk _) (i := 0) (by omega) (by show (1 : Nat) < 4; omega) J.x1 J.d1
 have hl := J.lp
 refine ⟨h, ?_⟩
 have h2' : (joinG (tgs ts) 0 1).loops = (tgs ts).loops ∨ (joinG (tgs ts) 0 1).loops = (tgs ts).loops + 1 := h2.imp (·.2) (·.2)
 omega
def sumA (l : List Int) : Nat → Int
 | 0 => 0
 | i + 1 => sumA l i + ((ga l i).natAbs : Int)
def badA (a : Int) : Bool := decide (a < -16 ∨ 16 < a)
def listE (l : List Int) : Int := if l.any badA = true then 3 else if l.length % 2 = 0 ∨ 16 < sumA l l.length then 2 else 0
theorem any_false_ga {l : List Int} (h : l.any badA = false) {i : Nat} (hi : i < l.length) : -16 ≤ ga l i ∧ ga l i ≤ 16 := by
 have := List.any_eq_false.1 h (ga l i) (ga_mem hi)
 unfold badA at this
 simp at this
 omega
theorem any_take {l : List Int} {i : Nat} (hi : i < l.length) (h : (l.take i).any badA = false) (hb : badA (ga l i) = false) : (l.take (i + 1)).any badA = false := by
 rw [take_ga l i hi, List.any_append, h]; simp [hb]
theorem sumA_bd (l : List Int) : ∀ i, 0 ≤ sumA l i ∧ ((l.take i).any badA = false → i ≤ l.length → sumA l i ≤ 16 * i) := by
 intro i
 induction i with
 | zero => exact ⟨Int.le_refl _, fun _ _ => by simp [sumA]⟩
 | succ i ih =>
  refine ⟨by unfold sumA; omega, fun h hi => ?_⟩
  rw [take_ga l i (by omega), List.any_append, Bool.or_eq_false_iff] at h
  have h1 := ih.2 h.1 (by omega)
  have h2 : badA (ga l i) = false := by simpa using h.2
  unfold badA at h2
  rw [decide_eq_false_iff_not] at h2
  unfold sumA
  push_cast
  omega
theorem sumA_mono (l : List Int) : ∀ i j, i ≤ j → sumA l i ≤ sumA l j := by
 intro i j h
 induction j with
 | zero => obtain rfl : i = 0 := (by omega); exact Int.le_refl _
 | succ j ih =>
  by_cases e : i = j + 1
  ·rw [e]; exact Int.le_refl _
  ·have := ih (by omega)
   show _ ≤ sumA l j + _
   omega
/-- The twists of the first i numbers. -/
def twX (l : List Int) (i : Nat) : Bool × Bool := (decide ((i : Int) % 2 = 1), decide (0 < ga l i))
def twP (l : List Int) : Nat → List (Bool × Bool)
 | 0 => []
 | i + 1 => twP l i ++ List.replicate (ga l i).natAbs (twX l i)
theorem twP_len (l : List Int) : ∀ i, ((twP l i).length : Int) = sumA l i := by
 intro i
 induction i with
 | zero => rfl
 | succ i ih => show ((twP l i ++ _).length : Int) = sumA l i + _; rw [List.length_append, List.length_replicate, ← ih]; omega
def twQ (l : List Int) (i k : Nat) : List (Bool × Bool) := twP l i ++ List.replicate k (twX l i)
theorem twQ_len {l : List Int} {i k : Nat} (hi : i < l.length) (hk : k ≤ (ga l i).natAbs) (h : sumA l l.length ≤ 16) : (twQ l i k).length ≤ 16 := by
 unfold twQ
 have h1 := twP_len l i
 have h2 := sumA_mono l (i + 1) l.length hi
 rw [List.length_append, List.length_replicate]
 have h3 : sumA l (i + 1) = sumA l i + ((ga l i).natAbs : Int) := rfl
 omega
theorem twQ_succ (l : List Int) (i k : Nat) : twQ l i (k + 1) = twQ l i k ++ [twX l i] := by unfold twQ; rw [List.replicate_succ', List.append_assoc]
def dgL (ts : List (Bool × Bool)) : Dg := dgW (oth (endL (dcs ts))) ts.length (tgE ts).loops
def linkR (l : List Int) : Dg × Int := if listE l ≠ 0 then (⟨[], 0⟩, listE l) else (dgL (twP l l.length), 0)
noncomputable def abs_n0 : Code := Try.f25.body.getD .skip
noncomputable def abs_n1 : Code := cL abs_n0
noncomputable def abs_n2 : Code := cR abs_n0
noncomputable def abs_n3 : Code := cL abs_n2
noncomputable def abs_n4 : Code := cR abs_n2
noncomputable def abs_n5 : Code := cL abs_n3
noncomputable def abs_n6 : Code := cR abs_n3
noncomputable def abs_n7 : Code := cL abs_n6
noncomputable def abs_n8 : Code := cR abs_n6
noncomputable def abs_n9 : Code := cL abs_n7
noncomputable def abs_n10 : Code := cR abs_n7
noncomputable def abs_n11 : Code := cL abs_n4
noncomputable def abs_n12 : Code := cR abs_n4
set_option maxRecDepth 10000 in
theorem abs_q {w : World} {M : Hp} {X : Fr} (a : Int) (ha : -9223372036854775807 ≤ a) (S : SH w M X []) : Cq Try.prog 25 [.int .i64 a] w M X (fun u => u = .int .i64 (a.natAbs : Int)) := by
 unfold Cq
 refine calls_in (b := abs_n0) Try.func25 rfl Try.ntmps25 rfl (fun C hC => ?_)
 refine ws_sub [(0, _)] ⟨rfl, trivial⟩ ?_
 refine ws_seqN abs_n1 abs_n2 rfl rfl rfl ?_
 refine ws_region rfl ?_
 refine wla 0 1 rfl rfl rfl rfl rfl rfl rfl ?_
 refine wl_end rfl ?_
 refine nm_sub [(0, _)] ⟨rfl, trivial⟩ ?_
 refine nm_thn ?_
 refine ws_seqN abs_n3 abs_n4 rfl rfl rfl ?_
 refine ws_seqN abs_n5 abs_n6 rfl rfl rfl ?_
 refine ws_region rfl ?_
 refine wlm 0 1 rfl rfl rfl rfl rfl rfl rfl ?_
 refine wlo 1 2 rfl rfl rfl (wo_run rfl rfl (run_lss rfl rfl rfl) ?_)
 refine wl_end rfl ?_
 refine nm_sub [(0, _), (4, _)] ⟨rfl, rfl, trivial⟩ ?_
 refine nm_thn ?_
 refine ws_condN abs_n7 abs_n8 rfl rfl rfl rfl (fun hb4 => ?_) (fun hb4 => ?_)
 ·replace hb4 := of_decide_eq_true hb4
  refine ws_seqN abs_n9 abs_n10 rfl rfl rfl ?_
  refine ws_region rfl ?_
  refine wlm 0 1 rfl rfl rfl rfl rfl rfl rfl ?_
  refine wlo 1 2 rfl rfl rfl (wo_run rfl rfl (run_neg rfl rfl (by first | omega | (simp only [lens]; omega))) ?_)
  refine wla 2 3 rfl rfl rfl rfl rfl rfl rfl ?_
  refine wl_end rfl ?_
  refine nm_sub [(2, _)] ⟨rfl, trivial⟩ ?_
  refine nm_thn ?_
  refine ws_ret hC [_] rfl rfl ⟨rfl, trivial⟩ ?_
  exact ⟨_, rfl, (S.pick [] [] (by decide) trivial), (by show Value.int .i64 (-a) = Value.int .i64 (a.natAbs : Int); congr 1; omega)⟩
 ·replace hb4 := of_decide_eq_false hb4
  refine ws_skip rfl ?_
  refine nm_sub [(0, _)] ⟨rfl, trivial⟩ ?_
  refine nm_thn ?_
  refine ws_seqN abs_n11 abs_n12 rfl rfl rfl ?_
  refine ws_region rfl ?_
  refine wlm 0 1 rfl rfl rfl rfl rfl rfl rfl ?_
  refine wla 1 2 rfl rfl rfl rfl rfl rfl rfl ?_
  refine wl_end rfl ?_
  refine nm_sub [(2, _)] ⟨rfl, trivial⟩ ?_
  refine nm_thn ?_
  refine ws_ret hC [_] rfl rfl ⟨rfl, trivial⟩ ?_
  exact ⟨_, rfl, (S.pick [] [] (by decide) trivial), (by show Value.int .i64 (a) = Value.int .i64 (a.natAbs : Int); congr 1; omega)⟩
noncomputable def check_n0 : Code := Try.f23.body.getD .skip
noncomputable def check_n1 : Code := cL check_n0
noncomputable def check_n2 : Code := cR check_n0
noncomputable def check_n3 : Code := cL check_n2
noncomputable def check_n4 : Code := cR check_n2
noncomputable def check_n5 : Code := cL check_n4
noncomputable def check_n6 : Code := cR check_n4
noncomputable def check_n7 : Code := cL check_n5
noncomputable def check_n8 : Code := cR check_n5
noncomputable def check_n9 : Code := cL check_n8
noncomputable def check_n10 : Code := cL check_n9
noncomputable def check_n11 : Code := cL check_n10
noncomputable def check_n12 : Code := cR check_n10
noncomputable def check_n13 : Code := cL check_n12
noncomputable def check_n14 : Code := cR check_n12
noncomputable def check_n15 : Code := cL check_n13
noncomputable def check_n16 : Code := cR check_n13
noncomputable def check_n17 : Code := cL check_n14
noncomputable def check_n18 : Code := cR check_n14
noncomputable def check_n19 : Code := cL check_n17
noncomputable def check_n20 : Code := cL check_n19
noncomputable def check_n21 : Code := cR check_n19
noncomputable def check_n22 : Code := cL check_n21
noncomputable def check_n23 : Code := cR check_n21
noncomputable def check_n24 : Code := cL check_n22
noncomputable def check_n25 : Code := cR check_n22
noncomputable def check_n26 : Code := cL check_n25
noncomputable def check_n27 : Code := cR check_n25
noncomputable def check_n28 : Code := cL check_n26
noncomputable def check_n29 : Code := cR check_n26
noncomputable def check_n30 : Code := cL check_n6
noncomputable def check_n31 : Code := cR check_n6
noncomputable def check_n32 : Code := cL check_n30
noncomputable def check_n33 : Code := cR check_n30
noncomputable def check_n34 : Code := cL check_n33
noncomputable def check_n35 : Code := cR check_n33
noncomputable def check_n36 : Code := cL check_n34
noncomputable def check_n37 : Code := cR check_n34
noncomputable def check_n38 : Code := cL check_n31
noncomputable def check_n39 : Code := cR check_n31
set_option maxRecDepth 10000 in
theorem check_q {w : World} {M : Hp} {X : Fr} (l : List Int) {lA : Option Addr} {lc : Nat} (hl : RdA cdInt (M.un X.h) lA lc l) (S : SH w M X []) : Cq Try.prog 23 [.slice lA l.length lc] w M X (fun u => u = .int .i64 (listE l)) := by
 unfold Cq
 have rmhl : l.length * 8 ≤ 140737488355328 := hl.room
 refine calls_in (b := check_n0) Try.func23 rfl Try.ntmps23 rfl (fun C hC => ?_)
 refine ws_sub [(0, _)] ⟨rfl, trivial⟩ ?_
 refine ws_seqN check_n1 check_n2 rfl rfl rfl ?_
 refine ws_region rfl ?_
 refine wla 0 1 rfl rfl rfl rfl rfl rfl rfl ?_
 refine wl_end rfl ?_
 refine nm_sub [(0, _)] ⟨rfl, trivial⟩ ?_
 refine nm_thn ?_
 refine ws_seqN check_n3 check_n4 rfl rfl rfl ?_
 refine ws_region rfl ?_
 refine wla 0 1 rfl rfl rfl rfl rfl rfl rfl ?_
 refine wl_end rfl ?_
 refine nm_thn ?_
 refine ws_seqN check_n5 check_n6 rfl rfl rfl ?_
 refine ws_seqN check_n7 check_n8 rfl rfl rfl ?_
 refine ws_region rfl ?_
 refine wlm 0 1 rfl rfl rfl rfl rfl rfl rfl ?_
 refine wlo 1 2 rfl rfl rfl (wo_run rfl rfl (run_len rfl rfl rfl rfl rfl rfl Try.underlying27) ?_)
 refine wlm 2 3 rfl rfl rfl rfl rfl rfl rfl ?_
 refine wl_end rfl ?_
 refine nm_thn ?_
 refine ws_blockN check_n9 0 rfl rfl rfl ?_
 refine ws_loopE (fun mx_ ax_ wx_ => ∃ (i : Nat), mx_ = l.length - 1 * i ∧ Env 33 [(0, .slice lA l.length lc), (3, .int .i64 (sumA l i)), (6, .slice lA l.length lc), (7, .int .i64 (l.length : Int)), (8, .int .i64 (i : Int))] ax_ ∧ SH wx_ M X [] ∧ i ≤ l.length ∧ (l.take i).any badA = false) rfl ?_ ?_
 ·intro ax_ hax_
  refine ⟨_, ⟨0, rfl, hax_.sub ⟨rfl, rfl, rfl, rfl, rfl, trivial⟩, S.pick [] [] (by decide) trivial, ?hq1f0, ?hq1f1⟩⟩
  case hq1f0 => exact Nat.zero_le _
  case hq1f1 => rfl
 ·rintro m1 a1 w1 ⟨i, rfl, he1, S1, hi, hna⟩
  clear S
  refine ws_in he1 (c := check_n10) rfl ?_
  clear he1 a1
  have hsb := sumA_bd l i
  have hsb2 := hsb.2 hna hi
  refine ws_seqN check_n11 check_n12 rfl rfl rfl ?_
  refine ws_region rfl ?_
  refine wlo 0 1 rfl rfl rfl (wo_run rfl rfl (run_lss rfl rfl rfl) ?_)
  refine wl_end rfl ?_
  refine nm_thn ?_
  refine ws_seqN check_n13 check_n14 rfl rfl rfl ?_
  refine ws_condN check_n15 check_n16 rfl rfl rfl rfl (fun hb9 => ?_) (fun hb9 => ?_)
  ·replace hb9 := of_decide_eq_true hb9
   refine ws_skip rfl ?_
   refine nm_sub [(0, _), (3, _), (6, _), (7, _), (8, _)] ⟨rfl, rfl, rfl, rfl, rfl, trivial⟩ ?_
   refine nm_thn ?_
   refine ws_seqN check_n17 check_n18 rfl rfl rfl ?_
   refine ws_blockN check_n19 1 rfl rfl rfl ?_
   refine ws_seqN check_n20 check_n21 rfl rfl rfl ?_
   refine ws_region rfl ?_
   refine wlo 0 1 rfl rfl rfl (wo_run rfl rfl (run_indexM (C := cdInt) i rfl rfl rfl sl27 (by first | rfl | omega) hl (by first | omega | (simp only [lens]; omega))) ?_)
   refine wlo 1 2 rfl rfl rfl (wo_run rfl rfl (run_load1 rfl rfl Try.underlying3 rfl (hl.cell S1.um (i := i) (by first | omega | (simp only [lens]; omega)) 0 rfl rfl)) ?_)
   refine wla 2 3 rfl rfl rfl rfl rfl rfl rfl ?_
   refine wl_end rfl ?_
   refine nm_sub [(0, _), (3, _), (6, _), (7, _), (8, _), (5, _)] ⟨rfl, rfl, rfl, rfl, rfl, rfl, trivial⟩ ?_
   refine nm_thn ?_
   refine ws_seqN check_n22 check_n23 rfl rfl rfl ?_
   refine ws_seqN check_n24 check_n25 rfl rfl rfl ?_
   refine ws_region rfl ?_
   refine wlm 0 1 rfl rfl rfl rfl rfl rfl rfl ?_
   refine wlo 1 2 rfl rfl rfl (wo_run rfl rfl (run_lss rfl rfl rfl) ?_)
   refine wlm 2 3 rfl rfl rfl rfl rfl rfl rfl ?_
   refine wl_split (t := 14) rfl (fun hg14 => ?_) (fun hg14 => ?_)
   ·replace hg14 := of_decide_eq_true hg14
    refine wl_no (k := 3) (k' := 4) (d := 15) rfl rfl ⟨_, _, _, rfl, rfl, rfl, rfl⟩ rfl rfl ?_
    refine wl_no (k := 4) (k' := 5) (d := 16) rfl rfl ⟨_, _, _, rfl, rfl, rfl, rfl⟩ rfl rfl ?_
    refine wlo 5 6 rfl rfl rfl (wo_run rfl rfl (run_pickT rfl rfl rfl) ?_)
    refine wl_end rfl ?_
    refine nm_sub [(0, _), (3, _), (6, _), (7, _), (8, _), (5, _), (17, _)] ⟨rfl, rfl, rfl, rfl, rfl, rfl, rfl, trivial⟩ ?_
    refine nm_thn ?_
    refine ws_condTN check_n26 rfl rfl rfl ?_
    refine ws_seqN check_n28 check_n29 rfl rfl rfl ?_
    refine ws_region rfl ?_
    refine wla 0 1 rfl rfl rfl rfl rfl rfl rfl ?_
    refine wl_end rfl ?_
    refine nm_sub [(2, _)] ⟨rfl, trivial⟩ ?_
    refine nm_thn ?_
    refine ws_ret hC [_] rfl rfl ⟨rfl, trivial⟩ ?_
    exact ⟨_, rfl, (S1.pick [] [] (by decide) trivial), (by (have e9 : listE l = 3 := (by have hil : i < l.length := (by omega); unfold listE; rw [if_pos (List.any_eq_true.2 ⟨ga l i, ga_mem hil, by unfold badA; exact decide_eq_true (by omega)⟩)])); show Value.int .i64 3 = Value.int .i64 (listE l); rw [e9])⟩
   ·replace hg14 := of_decide_eq_false hg14
    refine wl_opG (k := 3) (k' := 4) rfl rfl ⟨_, _, _, rfl, rfl, rfl, rfl⟩ rfl (wo_run rfl rfl (run_move rfl rfl) ?_)
    refine wl_opG (k := 4) (k' := 5) rfl rfl ⟨_, _, _, rfl, rfl, rfl, rfl⟩ rfl (wo_run rfl rfl (run_gtr rfl rfl rfl) ?_)
    refine wlo 5 6 rfl rfl rfl (wo_run rfl rfl (run_pickF rfl rfl rfl) ?_)
    refine wl_end rfl ?_
    refine nm_sub [(0, _), (3, _), (6, _), (7, _), (8, _), (5, _), (17, _)] ⟨rfl, rfl, rfl, rfl, rfl, rfl, rfl, trivial⟩ ?_
    refine nm_thn ?_
    refine ws_condN check_n26 check_n27 rfl rfl rfl rfl (fun hb17 => ?_) (fun hb17 => ?_)
    ·replace hb17 := of_decide_eq_true hb17
     refine ws_seqN check_n28 check_n29 rfl rfl rfl ?_
     refine ws_region rfl ?_
     refine wla 0 1 rfl rfl rfl rfl rfl rfl rfl ?_
     refine wl_end rfl ?_
     refine nm_sub [(2, _)] ⟨rfl, trivial⟩ ?_
     refine nm_thn ?_
     refine ws_ret hC [_] rfl rfl ⟨rfl, trivial⟩ ?_
     exact ⟨_, rfl, (S1.pick [] [] (by decide) trivial), (by (have e9 : listE l = 3 := (by have hil : i < l.length := (by omega); unfold listE; rw [if_pos (List.any_eq_true.2 ⟨ga l i, ga_mem hil, by unfold badA; exact decide_eq_true (by omega)⟩)])); show Value.int .i64 3 = Value.int .i64 (listE l); rw [e9])⟩
    ·replace hb17 := of_decide_eq_false hb17
     refine ws_skip rfl ?_
     refine nm_sub [(0, _), (3, _), (6, _), (7, _), (8, _), (5, _)] ⟨rfl, rfl, rfl, rfl, rfl, rfl, trivial⟩ ?_
     refine nm_thn ?_
     refine ws_region rfl ?_
     refine wlm 0 1 rfl rfl rfl rfl rfl rfl rfl ?_
     refine wlm 1 2 rfl rfl rfl rfl rfl rfl rfl ?_
     refine wlm 2 3 rfl rfl rfl rfl rfl rfl rfl ?_
     refine wlo 3 4 rfl rfl rfl (wo_run rfl rfl (run_neg rfl rfl (by first | omega | (simp only [lens]; omega))) ?_)
     refine wlo 4 5 rfl rfl rfl (wo_run rfl rfl (run_max rfl rfl rfl rfl rfl) ?_)
     refine wlo 5 6 rfl rfl rfl (wo_run rfl rfl (run_add rfl rfl rfl (by first | omega | (simp only [lens]; omega))) ?_)
     refine wla 6 7 rfl rfl rfl rfl rfl rfl rfl ?_
     refine wl_end rfl ?_
     refine nm_blk ?_
     refine nm_sub [(0, _), (3, _), (6, _), (7, _), (8, _)] ⟨rfl, rfl, rfl, rfl, rfl, trivial⟩ ?_
     refine nm_thn ?_
     refine ws_region rfl ?_
     refine wlo 0 1 rfl rfl rfl (wo_run rfl rfl (run_add rfl rfl rfl (by first | omega | (simp only [lens]; omega))) ?_)
     refine wlm 1 2 rfl rfl rfl rfl rfl rfl rfl ?_
     refine wl_end rfl ?_
     refine nm_lp ?_
     rw [show (sumA l i) + (max (ga l i) (-(ga l i))) = sumA l (i + 1) from (by show _ = sumA l i + _; omega)]
     intro ax_ hax_
     refine ⟨_, ?hq2m, ⟨i + 1, rfl, hax_.sub ⟨rfl, rfl, rfl, rfl, rfl, trivial⟩, S1.pick [] [] (by decide) trivial, ?hq2f0, ?hq2f1⟩⟩
     case hq2f0 => omega
     case hq2f1 => exact any_take (by omega) hna (by unfold badA; exact decide_eq_false (by omega))
     case hq2m => omega
  ·replace hb9 := of_decide_eq_false hb9
   refine ws_exit rfl rfl ?_
   refine nm_sub [(0, _), (3, _)] ⟨rfl, rfl, trivial⟩ ?_
   refine nm_thn ?_
   refine ws_seqN check_n30 check_n31 rfl rfl rfl ?_
   refine ws_seqN check_n32 check_n33 rfl rfl rfl ?_
   refine ws_region rfl ?_
   refine wlm 0 1 rfl rfl rfl rfl rfl rfl rfl ?_
   refine wlo 1 2 rfl rfl rfl (wo_run rfl rfl (run_len rfl rfl rfl rfl rfl rfl Try.underlying27) ?_)
   refine wlo 2 3 rfl rfl rfl (wo_run rfl rfl (run_rem rfl rfl rfl (by first | omega | (simp only [lens]; omega))) ?_)
   refine wlo 3 4 rfl rfl rfl (wo_run rfl rfl (run_eql rfl rfl rfl) ?_)
   refine wlm 4 5 rfl rfl rfl rfl rfl rfl rfl ?_
   refine wl_split (t := 29) rfl (fun hg29 => ?_) (fun hg29 => ?_)
   ·replace hg29 := of_decide_eq_true hg29
    refine wl_no (k := 5) (k' := 6) (d := 30) rfl rfl ⟨_, _, _, rfl, rfl, rfl, rfl⟩ rfl rfl ?_
    refine wl_no (k := 6) (k' := 7) (d := 31) rfl rfl ⟨_, _, _, rfl, rfl, rfl, rfl⟩ rfl rfl ?_
    refine wlo 7 8 rfl rfl rfl (wo_run rfl rfl (run_pickT rfl rfl rfl) ?_)
    refine wl_end rfl ?_
    refine nm_sub [(32, _)] ⟨rfl, trivial⟩ ?_
    refine nm_thn ?_
    refine ws_condTN check_n34 rfl rfl rfl ?_
    refine ws_seqN check_n36 check_n37 rfl rfl rfl ?_
    refine ws_region rfl ?_
    refine wla 0 1 rfl rfl rfl rfl rfl rfl rfl ?_
    refine wl_end rfl ?_
    refine nm_sub [(2, _)] ⟨rfl, trivial⟩ ?_
    refine nm_thn ?_
    refine ws_ret hC [_] rfl rfl ⟨rfl, trivial⟩ ?_
    exact ⟨_, rfl, (S1.pick [] [] (by decide) trivial), (by (have e9 : listE l = 2 := (by obtain rfl : i = l.length := (by omega); rw [List.take_length] at hna; unfold listE; rw [if_neg (by rw [hna]; decide)]; rw [if_pos (by omega)])); show Value.int .i64 2 = Value.int .i64 (listE l); rw [e9])⟩
   ·replace hg29 := of_decide_eq_false hg29
    refine wl_opG (k := 5) (k' := 6) rfl rfl ⟨_, _, _, rfl, rfl, rfl, rfl⟩ rfl (wo_run rfl rfl (run_move rfl rfl) ?_)
    refine wl_opG (k := 6) (k' := 7) rfl rfl ⟨_, _, _, rfl, rfl, rfl, rfl⟩ rfl (wo_run rfl rfl (run_gtr rfl rfl rfl) ?_)
    refine wlo 7 8 rfl rfl rfl (wo_run rfl rfl (run_pickF rfl rfl rfl) ?_)
    refine wl_end rfl ?_
    refine nm_sub [(32, _)] ⟨rfl, trivial⟩ ?_
    refine nm_thn ?_
    refine ws_condN check_n34 check_n35 rfl rfl rfl rfl (fun hb32 => ?_) (fun hb32 => ?_)
    ·replace hb32 := of_decide_eq_true hb32
     refine ws_seqN check_n36 check_n37 rfl rfl rfl ?_
     refine ws_region rfl ?_
     refine wla 0 1 rfl rfl rfl rfl rfl rfl rfl ?_
     refine wl_end rfl ?_
     refine nm_sub [(2, _)] ⟨rfl, trivial⟩ ?_
     refine nm_thn ?_
     refine ws_ret hC [_] rfl rfl ⟨rfl, trivial⟩ ?_
     exact ⟨_, rfl, (S1.pick [] [] (by decide) trivial), (by (have e9 : listE l = 2 := (by obtain rfl : i = l.length := (by omega); rw [List.take_length] at hna; unfold listE; rw [if_neg (by rw [hna]; decide)]; rw [if_pos (by omega)])); show Value.int .i64 2 = Value.int .i64 (listE l); rw [e9])⟩
    ·replace hb32 := of_decide_eq_false hb32
     refine ws_skip rfl ?_
     refine nm_sub [] trivial ?_
     refine nm_thn ?_
     refine ws_seqN check_n38 check_n39 rfl rfl rfl ?_
     refine ws_region rfl ?_
     refine wla 0 1 rfl rfl rfl rfl rfl rfl rfl ?_
     refine wl_end rfl ?_
     refine nm_thn ?_
     refine ws_ret hC [_] rfl rfl ⟨rfl, trivial⟩ ?_
     exact ⟨_, rfl, (S1.pick [] [] (by decide) trivial), (by (have e9 : listE l = 0 := (by obtain rfl : i = l.length := (by omega); rw [List.take_length] at hna; unfold listE; rw [if_neg (by rw [hna]; decide)]; rw [if_neg (by omega)])); show Value.int .i64 0 = Value.int .i64 (listE l); rw [e9])⟩
noncomputable def ListMay_n0 : Code := Try.f15.body.getD .skip
noncomputable def ListMay_n1 : Code := cL ListMay_n0
noncomputable def ListMay_n2 : Code := cR ListMay_n0
noncomputable def ListMay_n3 : Code := cL ListMay_n2
noncomputable def ListMay_n4 : Code := cR ListMay_n2
noncomputable def ListMay_n5 : Code := cL ListMay_n4
noncomputable def ListMay_n6 : Code := cR ListMay_n4
noncomputable def ListMay_n7 : Code := cL ListMay_n5
noncomputable def ListMay_n8 : Code := cR ListMay_n5
noncomputable def ListMay_n9 : Code := cL ListMay_n8
noncomputable def ListMay_n10 : Code := cL ListMay_n9
noncomputable def ListMay_n11 : Code := cL ListMay_n10
noncomputable def ListMay_n12 : Code := cR ListMay_n10
noncomputable def ListMay_n13 : Code := cL ListMay_n11
noncomputable def ListMay_n14 : Code := cR ListMay_n11
noncomputable def ListMay_n15 : Code := cL ListMay_n14
noncomputable def ListMay_n16 : Code := cR ListMay_n14
noncomputable def ListMay_n17 : Code := cL ListMay_n12
noncomputable def ListMay_n18 : Code := cR ListMay_n12
noncomputable def ListMay_n19 : Code := cL ListMay_n17
noncomputable def ListMay_n20 : Code := cL ListMay_n19
noncomputable def ListMay_n21 : Code := cR ListMay_n19
noncomputable def ListMay_n22 : Code := cL ListMay_n20
noncomputable def ListMay_n23 : Code := cR ListMay_n20
noncomputable def ListMay_n24 : Code := cL ListMay_n23
noncomputable def ListMay_n25 : Code := cR ListMay_n23
noncomputable def ListMay_n26 : Code := cL ListMay_n24
noncomputable def ListMay_n27 : Code := cR ListMay_n24
noncomputable def ListMay_n28 : Code := cL ListMay_n6
noncomputable def ListMay_n29 : Code := cR ListMay_n6
noncomputable def ListMay_n30 : Code := cL ListMay_n28
noncomputable def ListMay_n31 : Code := cR ListMay_n28
noncomputable def ListMay_n32 : Code := cL ListMay_n31
noncomputable def ListMay_n33 : Code := cR ListMay_n31
noncomputable def ListMay_n34 : Code := cL ListMay_n32
noncomputable def ListMay_n35 : Code := cR ListMay_n32
noncomputable def ListMay_n36 : Code := cL ListMay_n29
noncomputable def ListMay_n37 : Code := cR ListMay_n29
set_option maxRecDepth 10000 in
theorem ListMay_q {w : World} {M : Hp} {X : Fr} (l : List Int) {lA : Option Addr} {lc : Nat} (hl : RdA cdInt (M.un X.h) lA lc l) (S : SH w M X []) : Cq Try.prog 15 [.slice lA l.length lc] w M X (fun u => u = .int .i64 (listE l)) := by
 unfold Cq
 have rmhl : l.length * 8 ≤ 140737488355328 := hl.room
 refine calls_in (b := ListMay_n0) Try.func15 rfl Try.ntmps15 rfl (fun C hC => ?_)
 refine ws_sub [(0, _)] ⟨rfl, trivial⟩ ?_
 refine ws_seqN ListMay_n1 ListMay_n2 rfl rfl rfl ?_
 refine ws_region rfl ?_
 refine wla 0 1 rfl rfl rfl rfl rfl rfl rfl ?_
 refine wl_end rfl ?_
 refine nm_sub [(0, _)] ⟨rfl, trivial⟩ ?_
 refine nm_thn ?_
 refine ws_seqN ListMay_n3 ListMay_n4 rfl rfl rfl ?_
 refine ws_region rfl ?_
 refine wla 0 1 rfl rfl rfl rfl rfl rfl rfl ?_
 refine wl_end rfl ?_
 refine nm_thn ?_
 refine ws_seqN ListMay_n5 ListMay_n6 rfl rfl rfl ?_
 refine ws_seqN ListMay_n7 ListMay_n8 rfl rfl rfl ?_
 refine ws_region rfl ?_
 refine wla 0 1 rfl rfl rfl rfl rfl rfl rfl ?_
 refine wl_end rfl ?_
 refine nm_thn ?_
 refine ws_blockN ListMay_n9 0 rfl rfl rfl ?_
 refine ws_loopE (fun mx_ ax_ wx_ => ∃ (i : Nat), mx_ = l.length - 1 * i ∧ Env 38 [(0, .slice lA l.length lc), (3, .int .i64 (sumA l i)), (4, .int .i64 (i : Int))] ax_ ∧ SH wx_ M X [] ∧ i ≤ l.length ∧ (l.take i).any badA = false) rfl ?_ ?_
 ·intro ax_ hax_
  refine ⟨_, ⟨0, rfl, hax_.sub ⟨rfl, rfl, rfl, trivial⟩, S.pick [] [] (by decide) trivial, ?hq1f0, ?hq1f1⟩⟩
  case hq1f0 => exact Nat.zero_le _
  case hq1f1 => rfl
 ·rintro m1 a1 w1 ⟨i, rfl, he1, S1, hi, hna⟩
  clear S
  refine ws_in he1 (c := ListMay_n10) rfl ?_
  clear he1 a1
  have hsb := sumA_bd l i
  have hsb2 := hsb.2 hna hi
  refine ws_seqN ListMay_n11 ListMay_n12 rfl rfl rfl ?_
  refine ws_seqN ListMay_n13 ListMay_n14 rfl rfl rfl ?_
  refine ws_region rfl ?_
  refine wlm 0 1 rfl rfl rfl rfl rfl rfl rfl ?_
  refine wlm 1 2 rfl rfl rfl rfl rfl rfl rfl ?_
  refine wlo 2 3 rfl rfl rfl (wo_run rfl rfl (run_len rfl rfl rfl rfl rfl rfl Try.underlying27) ?_)
  refine wlo 3 4 rfl rfl rfl (wo_run rfl rfl (run_lss rfl rfl rfl) ?_)
  refine wl_end rfl ?_
  refine nm_sub [(0, _), (3, _), (4, _), (8, _)] ⟨rfl, rfl, rfl, rfl, trivial⟩ ?_
  refine nm_thn ?_
  refine ws_condN ListMay_n15 ListMay_n16 rfl rfl rfl rfl (fun hb8 => ?_) (fun hb8 => ?_)
  ·replace hb8 := of_decide_eq_true hb8
   refine ws_skip rfl ?_
   refine nm_sub [(0, _), (3, _), (4, _)] ⟨rfl, rfl, rfl, trivial⟩ ?_
   refine nm_thn ?_
   refine ws_seqN ListMay_n17 ListMay_n18 rfl rfl rfl ?_
   refine ws_blockN ListMay_n19 1 rfl rfl rfl ?_
   refine ws_seqN ListMay_n20 ListMay_n21 rfl rfl rfl ?_
   refine ws_seqN ListMay_n22 ListMay_n23 rfl rfl rfl ?_
   refine ws_region rfl ?_
   refine wlm 0 1 rfl rfl rfl rfl rfl rfl rfl ?_
   refine wlm 1 2 rfl rfl rfl rfl rfl rfl rfl ?_
   refine wlo 2 3 rfl rfl rfl (wo_run rfl rfl (run_indexM (C := cdInt) i rfl rfl rfl sl27 (by first | rfl | omega) hl (by first | omega | (simp only [lens]; omega))) ?_)
   refine wlo 3 4 rfl rfl rfl (wo_run rfl rfl (run_load1 rfl rfl Try.underlying3 rfl (hl.cell S1.um (i := i) (by first | omega | (simp only [lens]; omega)) 0 rfl rfl)) ?_)
   refine wlo 4 5 rfl rfl rfl (wo_run rfl rfl (run_lss rfl rfl rfl) ?_)
   refine wlm 5 6 rfl rfl rfl rfl rfl rfl rfl ?_
   refine wl_split (t := 16) rfl (fun hg16 => ?_) (fun hg16 => ?_)
   ·replace hg16 := of_decide_eq_true hg16
    refine wl_no (k := 6) (k' := 7) (d := 17) rfl rfl ⟨_, _, _, rfl, rfl, rfl, rfl⟩ rfl rfl ?_
    refine wl_no (k := 7) (k' := 8) (d := 18) rfl rfl ⟨_, _, _, rfl, rfl, rfl, rfl⟩ rfl rfl ?_
    refine wl_no (k := 8) (k' := 9) (d := 19) rfl rfl ⟨_, _, _, rfl, rfl, rfl, rfl⟩ rfl rfl ?_
    refine wl_no (k := 9) (k' := 10) (d := 20) rfl rfl ⟨_, _, _, rfl, rfl, rfl, rfl⟩ rfl rfl ?_
    refine wl_no (k := 10) (k' := 11) (d := 21) rfl rfl ⟨_, _, _, rfl, rfl, rfl, rfl⟩ rfl rfl ?_
    refine wlo 11 12 rfl rfl rfl (wo_run rfl rfl (run_pickT rfl rfl rfl) ?_)
    refine wl_end rfl ?_
    refine nm_sub [(0, _), (3, _), (4, _), (22, _)] ⟨rfl, rfl, rfl, rfl, trivial⟩ ?_
    refine nm_thn ?_
    refine ws_condTN ListMay_n24 rfl rfl rfl ?_
    refine ws_seqN ListMay_n26 ListMay_n27 rfl rfl rfl ?_
    refine ws_region rfl ?_
    refine wla 0 1 rfl rfl rfl rfl rfl rfl rfl ?_
    refine wl_end rfl ?_
    refine nm_sub [(2, _)] ⟨rfl, trivial⟩ ?_
    refine nm_thn ?_
    refine ws_ret hC [_] rfl rfl ⟨rfl, trivial⟩ ?_
    exact ⟨_, rfl, (S1.pick [] [] (by decide) trivial), (by (have e9 : listE l = 3 := (by have hil : i < l.length := (by omega); unfold listE; rw [if_pos (List.any_eq_true.2 ⟨ga l i, ga_mem hil, by unfold badA; exact decide_eq_true (by omega)⟩)])); show Value.int .i64 3 = Value.int .i64 (listE l); rw [e9])⟩
   ·replace hg16 := of_decide_eq_false hg16
    refine wl_opG (k := 6) (k' := 7) rfl rfl ⟨_, _, _, rfl, rfl, rfl, rfl⟩ rfl (wo_run rfl rfl (run_move rfl rfl) ?_)
    refine wl_opG (k := 7) (k' := 8) rfl rfl ⟨_, _, _, rfl, rfl, rfl, rfl⟩ rfl (wo_run rfl rfl (run_move rfl rfl) ?_)
    refine wl_opG (k := 8) (k' := 9) rfl rfl ⟨_, _, _, rfl, rfl, rfl, rfl⟩ rfl (wo_run rfl rfl (run_indexM (C := cdInt) i rfl rfl rfl sl27 (by first | rfl | omega) hl (by first | omega | (simp only [lens]; omega))) ?_)
    refine wl_opG (k := 9) (k' := 10) rfl rfl ⟨_, _, _, rfl, rfl, rfl, rfl⟩ rfl (wo_run rfl rfl (run_load1 rfl rfl Try.underlying3 rfl (hl.cell S1.um (i := i) (by first | omega | (simp only [lens]; omega)) 0 rfl rfl)) ?_)
    refine wl_opG (k := 10) (k' := 11) rfl rfl ⟨_, _, _, rfl, rfl, rfl, rfl⟩ rfl (wo_run rfl rfl (run_gtr rfl rfl rfl) ?_)
    refine wlo 11 12 rfl rfl rfl (wo_run rfl rfl (run_pickF rfl rfl rfl) ?_)
    refine wl_end rfl ?_
    refine nm_sub [(0, _), (3, _), (4, _), (22, _)] ⟨rfl, rfl, rfl, rfl, trivial⟩ ?_
    refine nm_thn ?_
    refine ws_condN ListMay_n24 ListMay_n25 rfl rfl rfl rfl (fun hb22 => ?_) (fun hb22 => ?_)
    ·replace hb22 := of_decide_eq_true hb22
     refine ws_seqN ListMay_n26 ListMay_n27 rfl rfl rfl ?_
     refine ws_region rfl ?_
     refine wla 0 1 rfl rfl rfl rfl rfl rfl rfl ?_
     refine wl_end rfl ?_
     refine nm_sub [(2, _)] ⟨rfl, trivial⟩ ?_
     refine nm_thn ?_
     refine ws_ret hC [_] rfl rfl ⟨rfl, trivial⟩ ?_
     exact ⟨_, rfl, (S1.pick [] [] (by decide) trivial), (by (have e9 : listE l = 3 := (by have hil : i < l.length := (by omega); unfold listE; rw [if_pos (List.any_eq_true.2 ⟨ga l i, ga_mem hil, by unfold badA; exact decide_eq_true (by omega)⟩)])); show Value.int .i64 3 = Value.int .i64 (listE l); rw [e9])⟩
    ·replace hb22 := of_decide_eq_false hb22
     refine ws_skip rfl ?_
     refine nm_sub [(0, _), (3, _), (4, _)] ⟨rfl, rfl, rfl, trivial⟩ ?_
     refine nm_thn ?_
     refine ws_region rfl ?_
     refine wlm 0 1 rfl rfl rfl rfl rfl rfl rfl ?_
     refine wlm 1 2 rfl rfl rfl rfl rfl rfl rfl ?_
     refine wlm 2 3 rfl rfl rfl rfl rfl rfl rfl ?_
     refine wlo 3 4 rfl rfl rfl (wo_run rfl rfl (run_indexM (C := cdInt) i rfl rfl rfl sl27 (by first | rfl | omega) hl (by first | omega | (simp only [lens]; omega))) ?_)
     refine wlo 4 5 rfl rfl rfl (wo_run rfl rfl (run_load1 rfl rfl Try.underlying3 rfl (hl.cell S1.um (i := i) (by first | omega | (simp only [lens]; omega)) 0 rfl rfl)) ?_)
     refine wlo 5 6 rfl rfl rfl (wo_cq rfl rfl rfl rfl rfl rfl rfl cf25 S1 (abs_q (ga l i) (by omega) S1.lend) ?_)
     rintro _ w2 S2 rfl; clear S1
     refine wlo 6 7 rfl rfl rfl (wo_run rfl rfl (run_add rfl rfl rfl (by first | omega | (simp only [lens]; omega))) ?_)
     refine wla 7 8 rfl rfl rfl rfl rfl rfl rfl ?_
     refine wl_end rfl ?_
     refine nm_blk ?_
     refine nm_sub [(0, _), (3, _), (4, _)] ⟨rfl, rfl, rfl, trivial⟩ ?_
     refine nm_thn ?_
     refine ws_region rfl ?_
     refine wlm 0 1 rfl rfl rfl rfl rfl rfl rfl ?_
     refine wlo 1 2 rfl rfl rfl (wo_run rfl rfl (run_add rfl rfl rfl (by first | omega | (simp only [lens]; omega))) ?_)
     refine wla 2 3 rfl rfl rfl rfl rfl rfl rfl ?_
     refine wl_end rfl ?_
     refine nm_lp ?_
     rw [show (sumA l i) + ((ga l i).natAbs : Int) = sumA l (i + 1) from (by show _ = sumA l i + _; omega)]
     intro ax_ hax_
     refine ⟨_, ?hq2m, ⟨i + 1, rfl, hax_.sub ⟨rfl, rfl, rfl, trivial⟩, S2.pick [] [] (by decide) trivial, ?hq2f0, ?hq2f1⟩⟩
     case hq2f0 => omega
     case hq2f1 => exact any_take (by omega) hna (by unfold badA; exact decide_eq_false (by omega))
     case hq2m => omega
  ·replace hb8 := of_decide_eq_false hb8
   refine ws_exit rfl rfl ?_
   refine nm_sub [(0, _), (3, _)] ⟨rfl, rfl, trivial⟩ ?_
   refine nm_thn ?_
   refine ws_seqN ListMay_n28 ListMay_n29 rfl rfl rfl ?_
   refine ws_seqN ListMay_n30 ListMay_n31 rfl rfl rfl ?_
   refine ws_region rfl ?_
   refine wlm 0 1 rfl rfl rfl rfl rfl rfl rfl ?_
   refine wlo 1 2 rfl rfl rfl (wo_run rfl rfl (run_len rfl rfl rfl rfl rfl rfl Try.underlying27) ?_)
   refine wlo 2 3 rfl rfl rfl (wo_run rfl rfl (run_rem rfl rfl rfl (by first | omega | (simp only [lens]; omega))) ?_)
   refine wlo 3 4 rfl rfl rfl (wo_run rfl rfl (run_eql rfl rfl rfl) ?_)
   refine wlm 4 5 rfl rfl rfl rfl rfl rfl rfl ?_
   refine wl_split (t := 34) rfl (fun hg34 => ?_) (fun hg34 => ?_)
   ·replace hg34 := of_decide_eq_true hg34
    refine wl_no (k := 5) (k' := 6) (d := 35) rfl rfl ⟨_, _, _, rfl, rfl, rfl, rfl⟩ rfl rfl ?_
    refine wl_no (k := 6) (k' := 7) (d := 36) rfl rfl ⟨_, _, _, rfl, rfl, rfl, rfl⟩ rfl rfl ?_
    refine wlo 7 8 rfl rfl rfl (wo_run rfl rfl (run_pickT rfl rfl rfl) ?_)
    refine wl_end rfl ?_
    refine nm_sub [(37, _)] ⟨rfl, trivial⟩ ?_
    refine nm_thn ?_
    refine ws_condTN ListMay_n32 rfl rfl rfl ?_
    refine ws_seqN ListMay_n34 ListMay_n35 rfl rfl rfl ?_
    refine ws_region rfl ?_
    refine wla 0 1 rfl rfl rfl rfl rfl rfl rfl ?_
    refine wl_end rfl ?_
    refine nm_sub [(2, _)] ⟨rfl, trivial⟩ ?_
    refine nm_thn ?_
    refine ws_ret hC [_] rfl rfl ⟨rfl, trivial⟩ ?_
    exact ⟨_, rfl, (S1.pick [] [] (by decide) trivial), (by (have e9 : listE l = 2 := (by obtain rfl : i = l.length := (by omega); rw [List.take_length] at hna; unfold listE; rw [if_neg (by rw [hna]; decide)]; rw [if_pos (by omega)])); show Value.int .i64 2 = Value.int .i64 (listE l); rw [e9])⟩
   ·replace hg34 := of_decide_eq_false hg34
    refine wl_opG (k := 5) (k' := 6) rfl rfl ⟨_, _, _, rfl, rfl, rfl, rfl⟩ rfl (wo_run rfl rfl (run_move rfl rfl) ?_)
    refine wl_opG (k := 6) (k' := 7) rfl rfl ⟨_, _, _, rfl, rfl, rfl, rfl⟩ rfl (wo_run rfl rfl (run_gtr rfl rfl rfl) ?_)
    refine wlo 7 8 rfl rfl rfl (wo_run rfl rfl (run_pickF rfl rfl rfl) ?_)
    refine wl_end rfl ?_
    refine nm_sub [(37, _)] ⟨rfl, trivial⟩ ?_
    refine nm_thn ?_
    refine ws_condN ListMay_n32 ListMay_n33 rfl rfl rfl rfl (fun hb37 => ?_) (fun hb37 => ?_)
    ·replace hb37 := of_decide_eq_true hb37
     refine ws_seqN ListMay_n34 ListMay_n35 rfl rfl rfl ?_
     refine ws_region rfl ?_
     refine wla 0 1 rfl rfl rfl rfl rfl rfl rfl ?_
     refine wl_end rfl ?_
     refine nm_sub [(2, _)] ⟨rfl, trivial⟩ ?_
     refine nm_thn ?_
     refine ws_ret hC [_] rfl rfl ⟨rfl, trivial⟩ ?_
     exact ⟨_, rfl, (S1.pick [] [] (by decide) trivial), (by (have e9 : listE l = 2 := (by obtain rfl : i = l.length := (by omega); rw [List.take_length] at hna; unfold listE; rw [if_neg (by rw [hna]; decide)]; rw [if_pos (by omega)])); show Value.int .i64 2 = Value.int .i64 (listE l); rw [e9])⟩
    ·replace hb37 := of_decide_eq_false hb37
     refine ws_skip rfl ?_
     refine nm_sub [] trivial ?_
     refine nm_thn ?_
     refine ws_seqN ListMay_n36 ListMay_n37 rfl rfl rfl ?_
     refine ws_region rfl ?_
     refine wla 0 1 rfl rfl rfl rfl rfl rfl rfl ?_
     refine wl_end rfl ?_
     refine nm_thn ?_
     refine ws_ret hC [_] rfl rfl ⟨rfl, trivial⟩ ?_
     exact ⟨_, rfl, (S1.pick [] [] (by decide) trivial), (by (have e9 : listE l = 0 := (by obtain rfl : i = l.length := (by omega); rw [List.take_length] at hna; unfold listE; rw [if_neg (by rw [hna]; decide)]; rw [if_neg (by omega)])); show Value.int .i64 0 = Value.int .i64 (listE l); rw [e9])⟩
end Go.Proofs.Ytkgofmloleicgaa
namespace Go.Proofs.Ytkgofmloleicgaa
open Go.ChangeShapes Go.WideShapes Go.ChangeAt Go.RowKit
theorem listE_ok {l : List Int} (h : listE l = 0) : l.any badA = false ∧ sumA l l.length ≤ 16 ∧ l.length % 2 = 1 := by
 unfold listE at h
 split at h
 ·cases h
 ·split at h
  ·cases h
  ·rename_i h1 h2
   exact ⟨by simpa using h1, by omega, by omega⟩
noncomputable def Link_n0 : Code := Try.f17.body.getD .skip
noncomputable def Link_n1 : Code := cL Link_n0
noncomputable def Link_n2 : Code := cR Link_n0
noncomputable def Link_n3 : Code := cL Link_n2
noncomputable def Link_n4 : Code := cR Link_n2
noncomputable def Link_n5 : Code := cL Link_n3
noncomputable def Link_n6 : Code := cR Link_n3
noncomputable def Link_n7 : Code := cL Link_n6
noncomputable def Link_n8 : Code := cR Link_n6
noncomputable def Link_n9 : Code := cL Link_n8
noncomputable def Link_n10 : Code := cR Link_n8
noncomputable def Link_n11 : Code := cL Link_n9
noncomputable def Link_n12 : Code := cR Link_n9
noncomputable def Link_n13 : Code := cL Link_n4
noncomputable def Link_n14 : Code := cR Link_n4
noncomputable def Link_n15 : Code := cL Link_n14
noncomputable def Link_n16 : Code := cR Link_n14
noncomputable def Link_n17 : Code := cL Link_n15
noncomputable def Link_n18 : Code := cR Link_n15
noncomputable def Link_n19 : Code := cL Link_n18
noncomputable def Link_n20 : Code := cL Link_n19
noncomputable def Link_n21 : Code := cL Link_n20
noncomputable def Link_n22 : Code := cR Link_n20
noncomputable def Link_n23 : Code := cL Link_n22
noncomputable def Link_n24 : Code := cR Link_n22
noncomputable def Link_n25 : Code := cL Link_n23
noncomputable def Link_n26 : Code := cR Link_n23
noncomputable def Link_n27 : Code := cL Link_n24
noncomputable def Link_n28 : Code := cR Link_n24
noncomputable def Link_n29 : Code := cL Link_n27
noncomputable def Link_n30 : Code := cL Link_n29
noncomputable def Link_n31 : Code := cR Link_n29
noncomputable def Link_n32 : Code := cL Link_n31
noncomputable def Link_n33 : Code := cR Link_n31
noncomputable def Link_n34 : Code := cL Link_n33
noncomputable def Link_n35 : Code := cL Link_n34
noncomputable def Link_n36 : Code := cL Link_n35
noncomputable def Link_n37 : Code := cR Link_n35
noncomputable def Link_n38 : Code := cL Link_n37
noncomputable def Link_n39 : Code := cR Link_n37
noncomputable def Link_n40 : Code := cL Link_n38
noncomputable def Link_n41 : Code := cR Link_n38
noncomputable def Link_n42 : Code := cL Link_n39
noncomputable def Link_n43 : Code := cR Link_n39
noncomputable def Link_n44 : Code := cL Link_n42
noncomputable def Link_n45 : Code := cL Link_n16
noncomputable def Link_n46 : Code := cR Link_n16
noncomputable def Link_n47 : Code := cL Link_n46
noncomputable def Link_n48 : Code := cR Link_n46
noncomputable def Link_n49 : Code := cL Link_n48
noncomputable def Link_n50 : Code := cR Link_n48
set_option maxHeartbeats 2000000 in
set_option maxRecDepth 10000 in
theorem Link_t {w : World} {M : Hp} {X : Fr} (l : List Int) {lA : Option Addr} {lc : Nat} (hl : RdA cdInt (M.un X.h) lA lc l) (S : SH w M X []) : Ct Try.prog 17 [.slice lA l.length lc] w M X (DgE (linkR l)) := by
 unfold Ct
 have rmhl : l.length * 8 ≤ 140737488355328 := hl.room
 refine calls_in (b := Link_n0) Try.func17 rfl Try.ntmps17 rfl (fun C hC => ?_)
 refine ws_sub [(0, _)] ⟨rfl, trivial⟩ ?_
 refine ws_seqN Link_n1 Link_n2 rfl rfl rfl ?_
 refine ws_region rfl ?_
 refine wlo 0 1 rfl rfl rfl (wo_alloc (l := [_, _]) rfl rfl rfl zr41 rfl S ?_)
 intro gb1 w1 S1; clear S
 refine wla 1 2 rfl rfl rfl rfl rfl rfl rfl ?_
 refine wl_end rfl ?_
 refine nm_sub [(0, _), (2, _)] ⟨rfl, rfl, trivial⟩ ?_
 refine nm_thn ?_
 refine ws_seqN Link_n3 Link_n4 rfl rfl rfl ?_
 refine ws_seqN Link_n5 Link_n6 rfl rfl rfl ?_
 refine ws_region rfl ?_
 refine wlm 0 1 rfl rfl rfl rfl rfl rfl rfl ?_
 refine wlo 1 2 rfl rfl rfl (wo_cq rfl rfl rfl rfl rfl rfl rfl cf23 S1 (check_q l (hl.mono S1.un_XH) S1.lend) ?_)
 rintro _ w2 S2 rfl; clear S1
 refine wla 2 3 rfl rfl rfl rfl rfl rfl rfl ?_
 refine wl_end rfl ?_
 refine nm_sub [(0, _), (2, _), (4, _)] ⟨rfl, rfl, rfl, trivial⟩ ?_
 refine nm_thn ?_
 refine ws_seqN Link_n7 Link_n8 rfl rfl rfl ?_
 refine ws_region rfl ?_
 refine wlm 0 1 rfl rfl rfl rfl rfl rfl rfl ?_
 refine wlo 1 2 rfl rfl rfl (wo_run rfl rfl (run_neq rfl rfl rfl) ?_)
 refine wl_end rfl ?_
 refine nm_sub [(0, _), (2, _), (4, _), (11, _)] ⟨rfl, rfl, rfl, rfl, trivial⟩ ?_
 refine nm_thn ?_
 refine ws_condN Link_n9 Link_n10 rfl rfl rfl rfl (fun hb11 => ?_) (fun hb11 => ?_)
 ·replace hb11 := of_decide_eq_true hb11
  refine ws_seqN Link_n11 Link_n12 rfl rfl rfl ?_
  refine ws_region rfl ?_
  refine wlo 0 1 rfl rfl rfl (wo_run rfl rfl (run_build (l := [_, _]) rfl rfl st41 rfl rfl) ?_)
  refine wlm 1 2 rfl rfl rfl rfl rfl rfl rfl ?_
  refine wlo 2 3 rfl rfl rfl (wo_storeB (i := 0) (us := [_, _]) (l' := [_, _]) (H' := [_]) rfl rfl S2 rfl rfl rfl rfl sz41 rfl rfl rfl rfl ?_)
  intro w3 S3; clear S2
  refine wla 3 4 rfl rfl rfl rfl rfl rfl rfl ?_
  refine wl_end rfl ?_
  refine nm_sub [(2, _), (3, _)] ⟨rfl, rfl, trivial⟩ ?_
  refine nm_thn ?_
  refine ws_ret hC [_, _] rfl rfl ⟨⟨_, rfl, loadVarN (us := [_, _]) Try.underlying41 rfl sz41 (S3.boxcs (i := 0) rfl ⟨rfl, rfl, trivial⟩)⟩, rfl, trivial⟩ ?_
  refine ⟨_, rfl, _, Hp.le_refl _, (S3.pick [] [] (by decide) trivial), ?_⟩
  unfold linkR
  rw [if_pos hb11]
  exact ⟨none, 0, rfl, RdA.nil_⟩
 ·replace hb11 := of_decide_eq_false hb11
  obtain ⟨hok1, hok2, hok3⟩ := listE_ok (l := l) (by omega)
  refine ws_skip rfl ?_
  refine nm_sub [(0, _), (2, _)] ⟨rfl, rfl, trivial⟩ ?_
  refine nm_thn ?_
  refine ws_seqN Link_n13 Link_n14 rfl rfl rfl ?_
  refine ws_region rfl ?_
  refine wlo 0 1 rfl rfl rfl (wo_co rfl rfl rfl rfl rfl rfl rfl cf26 S2 (First_o   S2.lend) ?_)
  intro vw4 w4 Nw4 S4 hRw4; clear S2
  obtain ⟨gt1, vpl1, gti1, rfl, rfl⟩ := hRw4
  have S5 : SH _ _ _ [_, _, _, _] := S4; clear S4
  refine wla 1 2 rfl rfl rfl rfl rfl rfl rfl ?_
  refine wl_end rfl ?_
  refine nm_sub [(0, _), (2, _), (5, _)] ⟨rfl, rfl, rfl, trivial⟩ ?_
  refine nm_thn ?_
  refine ws_seqN Link_n15 Link_n16 rfl rfl rfl ?_
  refine ws_seqN Link_n17 Link_n18 rfl rfl rfl ?_
  have eT1 : tg0 = tgs (twP l 0) := rfl
  rw [eT1] at S5; clear eT1
  refine ws_region rfl ?_
  refine wlm 0 1 rfl rfl rfl rfl rfl rfl rfl ?_
  refine wlo 1 2 rfl rfl rfl (wo_run rfl rfl (run_len rfl rfl rfl rfl rfl rfl Try.underlying27) ?_)
  refine wlm 2 3 rfl rfl rfl rfl rfl rfl rfl ?_
  refine wl_end rfl ?_
  refine nm_sub [(2, _), (5, _), (15, _), (16, _), (17, _)] ⟨rfl, rfl, rfl, rfl, rfl, trivial⟩ ?_
  refine nm_thn ?_
  refine ws_blockN Link_n19 0 rfl rfl rfl ?_
  refine ws_loopE (fun mx_ ax_ wx_ => ∃ (i : Nat) (vplx : Value), mx_ = l.length - 1 * i ∧ Env 43 [(2, .pointer (some ⟨gb1, 0, none⟩)), (5, .pointer (some ⟨gt1, 0, none⟩)), (15, .slice lA l.length lc), (16, .int .i64 (l.length : Int)), (17, .int .i64 (i : Int))] ax_ ∧ SH wx_ M X [Rs.box gt1 72 [.bool (((tgs (twP l i)).E 0).ic), .int .i64 (((tgs (twP l i)).E 0).c), .int .i64 (((tgs (twP l i)).E 0).a), .int .i64 (((tgs (twP l i)).E 0).o), .bool (((tgs (twP l i)).E 1).ic), .int .i64 (((tgs (twP l i)).E 1).c), .int .i64 (((tgs (twP l i)).E 1).a), .int .i64 (((tgs (twP l i)).E 1).o), .bool (((tgs (twP l i)).E 2).ic), .int .i64 (((tgs (twP l i)).E 2).c), .int .i64 (((tgs (twP l i)).E 2).a), .int .i64 (((tgs (twP l i)).E 2).o), .bool (((tgs (twP l i)).E 3).ic), .int .i64 (((tgs (twP l i)).E 3).c), .int .i64 (((tgs (twP l i)).E 3).a), .int .i64 (((tgs (twP l i)).E 3).o), vplx, .map (some gti1), .int .i64 ((tgs (twP l i)).loops)], Rs.row cdA4 vplx ((tgs (twP l i)).pl), Rs.mp (fun x => Value.agg (cdCo.f x).toArray) (fun x => Value.agg (cdCo.f x).toArray) gti1 ((tgs (twP l i)).ties), Rs.box gb1 41 [.slice none 0 0, .int .i64 0]] ∧ i ≤ l.length) rfl ?_ ?_
  ·intro ax_ hax_
   refine ⟨_, ⟨0, _, rfl, hax_.sub ⟨rfl, rfl, rfl, rfl, rfl, trivial⟩, S5.pick [0, 1, 2, 3] [_, _, _, _] (by decide) ⟨rfl, rfl, rfl, rfl, trivial⟩, ?hq1f0⟩⟩
   case hq1f0 => exact Nat.zero_le _
  ·rintro m2 a1 w5 ⟨i, vplx, rfl, he1, S6, hi⟩
   clear S5
   refine ws_in he1 (c := Link_n20) rfl ?_
   clear he1 a1
   have hab := fun h => any_false_ga hok1 (i := i) h
   have hlt := fun h h2 => twQ_len (l := l) (i := i) (k := (ga l i).natAbs) h h2 hok2
   refine ws_seqN Link_n21 Link_n22 rfl rfl rfl ?_
   refine ws_region rfl ?_
   refine wlo 0 1 rfl rfl rfl (wo_run rfl rfl (run_lss rfl rfl rfl) ?_)
   refine wl_end rfl ?_
   refine nm_thn ?_
   refine ws_seqN Link_n23 Link_n24 rfl rfl rfl ?_
   refine ws_condN Link_n25 Link_n26 rfl rfl rfl rfl (fun hb18 => ?_) (fun hb18 => ?_)
   ·replace hb18 := of_decide_eq_true hb18
    refine ws_skip rfl ?_
    refine nm_sub [(2, _), (5, _), (15, _), (16, _), (17, _)] ⟨rfl, rfl, rfl, rfl, rfl, trivial⟩ ?_
    refine nm_thn ?_
    refine ws_seqN Link_n27 Link_n28 rfl rfl rfl ?_
    refine ws_blockN Link_n29 1 rfl rfl rfl ?_
    refine ws_seqN Link_n30 Link_n31 rfl rfl rfl ?_
    refine ws_region rfl ?_
    refine wlm 0 1 rfl rfl rfl rfl rfl rfl rfl ?_
    refine wlo 1 2 rfl rfl rfl (wo_run rfl rfl (run_indexM (C := cdInt) i rfl rfl rfl sl27 (by first | rfl | omega) hl (by first | omega | (simp only [lens]; omega))) ?_)
    refine wlo 2 3 rfl rfl rfl (wo_run rfl rfl (run_load1 rfl rfl Try.underlying3 rfl (hl.cell S6.um (i := i) (by first | omega | (simp only [lens]; omega)) 0 rfl rfl)) ?_)
    refine wla 3 4 rfl rfl rfl rfl rfl rfl rfl ?_
    refine wla 4 5 rfl rfl rfl rfl rfl rfl rfl ?_
    refine wl_end rfl ?_
    refine nm_sub [(2, _), (5, _), (15, _), (16, _), (17, _), (6, _), (7, _)] ⟨rfl, rfl, rfl, rfl, rfl, rfl, rfl, trivial⟩ ?_
    refine nm_thn ?_
    refine ws_seqN Link_n32 Link_n33 rfl rfl rfl ?_
    refine ws_region rfl ?_
    refine wlm 0 1 rfl rfl rfl rfl rfl rfl rfl ?_
    refine wlm 1 2 rfl rfl rfl rfl rfl rfl rfl ?_
    refine wlo 2 3 rfl rfl rfl (wo_run rfl rfl (run_neg rfl rfl (by first | omega | (simp only [lens]; omega))) ?_)
    refine wlo 3 4 rfl rfl rfl (wo_run rfl rfl (run_max rfl rfl rfl rfl rfl) ?_)
    refine wlm 4 5 rfl rfl rfl rfl rfl rfl rfl ?_
    refine wl_end rfl ?_
    refine nm_sub [(2, _), (5, _), (15, _), (16, _), (17, _), (6, _), (7, _), (25, _), (26, _)] ⟨rfl, rfl, rfl, rfl, rfl, rfl, rfl, rfl, rfl, trivial⟩ ?_
    refine nm_thn ?_
    refine ws_blockN Link_n34 2 rfl rfl rfl ?_
    have eT2 : tgs (twP l i) = tgs (twQ l i 0) := by (show tgs (twP l i) = tgs (twP l i ++ []); rw [List.append_nil])
    rw [eT2] at S6; clear eT2
    refine ws_loopE (fun mx_ ax_ wx_ => ∃ (k : Nat) (vply : Value), mx_ = (ga l i).natAbs - 1 * k ∧ Env 43 [(2, .pointer (some ⟨gb1, 0, none⟩)), (5, .pointer (some ⟨gt1, 0, none⟩)), (15, .slice lA l.length lc), (16, .int .i64 (l.length : Int)), (17, .int .i64 (i : Int)), (6, .int .i64 (i : Int)), (7, .int .i64 (ga l i)), (25, .int .i64 (max (ga l i) (-(ga l i)))), (26, .int .i64 (k : Int))] ax_ ∧ SH wx_ M X [Rs.box gt1 72 [.bool (((tgs (twQ l i k)).E 0).ic), .int .i64 (((tgs (twQ l i k)).E 0).c), .int .i64 (((tgs (twQ l i k)).E 0).a), .int .i64 (((tgs (twQ l i k)).E 0).o), .bool (((tgs (twQ l i k)).E 1).ic), .int .i64 (((tgs (twQ l i k)).E 1).c), .int .i64 (((tgs (twQ l i k)).E 1).a), .int .i64 (((tgs (twQ l i k)).E 1).o), .bool (((tgs (twQ l i k)).E 2).ic), .int .i64 (((tgs (twQ l i k)).E 2).c), .int .i64 (((tgs (twQ l i k)).E 2).a), .int .i64 (((tgs (twQ l i k)).E 2).o), .bool (((tgs (twQ l i k)).E 3).ic), .int .i64 (((tgs (twQ l i k)).E 3).c), .int .i64 (((tgs (twQ l i k)).E 3).a), .int .i64 (((tgs (twQ l i k)).E 3).o), vply, .map (some gti1), .int .i64 ((tgs (twQ l i k)).loops)], Rs.row cdA4 vply ((tgs (twQ l i k)).pl), Rs.mp (fun x => Value.agg (cdCo.f x).toArray) (fun x => Value.agg (cdCo.f x).toArray) gti1 ((tgs (twQ l i k)).ties), Rs.box gb1 41 [.slice none 0 0, .int .i64 0]] ∧ k ≤ (ga l i).natAbs) rfl ?_ ?_
    ·intro ax_ hax_
     refine ⟨_, ⟨0, _, rfl, hax_.sub ⟨rfl, rfl, rfl, rfl, rfl, rfl, rfl, rfl, rfl, trivial⟩, S6.pick [0, 1, 2, 3] [_, _, _, _] (by decide) ⟨rfl, rfl, rfl, rfl, trivial⟩, ?hq2f0⟩⟩
     case hq2f0 => exact Nat.zero_le _
    ·rintro m3 a2 w6 ⟨k, vply, rfl, he2, S7, hk⟩
     clear S6
     refine ws_in he2 (c := Link_n35) rfl ?_
     clear he2 a2
     have hE := eok_tgs (twQ l i k)
     have hpl9 := (tgs_pl (twQ l i k)).1
     have hlt9 := twQ_len (l := l) (i := i) (k := k) (by omega) (by omega) hok2
     refine ws_seqN Link_n36 Link_n37 rfl rfl rfl ?_
     refine ws_region rfl ?_
     refine wlo 0 1 rfl rfl rfl (wo_run rfl rfl (run_lss rfl rfl rfl) ?_)
     refine wl_end rfl ?_
     refine nm_thn ?_
     refine ws_seqN Link_n38 Link_n39 rfl rfl rfl ?_
     refine ws_condN Link_n40 Link_n41 rfl rfl rfl rfl (fun hb27 => ?_) (fun hb27 => ?_)
     ·replace hb27 := of_decide_eq_true hb27
      refine ws_skip rfl ?_
      refine nm_sub [(2, _), (5, _), (15, _), (16, _), (17, _), (6, _), (7, _), (25, _), (26, _)] ⟨rfl, rfl, rfl, rfl, rfl, rfl, rfl, rfl, rfl, trivial⟩ ?_
      refine nm_thn ?_
      refine ws_seqN Link_n42 Link_n43 rfl rfl rfl ?_
      refine ws_blockN Link_n44 3 rfl rfl rfl ?_
      refine ws_region rfl ?_
      refine wlm 0 1 rfl rfl rfl rfl rfl rfl rfl ?_
      refine wlm 1 2 rfl rfl rfl rfl rfl rfl rfl ?_
      refine wlo 2 3 rfl rfl rfl (wo_run rfl rfl (run_rem rfl rfl rfl (by first | omega | (simp only [lens]; omega))) ?_)
      refine wlo 3 4 rfl rfl rfl (wo_run rfl rfl (run_eql rfl rfl rfl) ?_)
      refine wlm 4 5 rfl rfl rfl rfl rfl rfl rfl ?_
      refine wlo 5 6 rfl rfl rfl (wo_run rfl rfl (run_gtr rfl rfl rfl) ?_)
      have S8 := S7.pick [0, 1, 2, 3] [_, _, _, _] (by decide) ⟨rfl, rfl, rfl, rfl, trivial⟩; clear S7
      have S9 : SH _ _ _ (Rs.bun [_, _, _] :: [_]) := SH.bunC (A := [_, _, _]) (B := [_]) S8; clear S8
      have S10 : SH _ _ _ [_, _] := S9.less (i := 0) rfl
      have hcall1 := Twist_b (q := (tgs (twQ l i k))) (decide (((i : Int) % 2) = 1)) (decide (0 < (ga l i))) (by exact hE) (by omega) (S9.lend1 (i := 0) rfl); clear S10
      refine wlo 6 7 rfl rfl rfl (wo_c1 (i := 0) rfl rfl rfl rfl rfl rfl rfl cf27 S9 rfl hcall1 ?_)
      intro vw7 w7 M1 rw7 hle3 S11 hR1; clear S9
      obtain ⟨huhMX1, hMX1, hR2⟩ := hR1
      rw [hMX1] at S11
      clear hMX1
      subst huhMX1
      obtain ⟨v9w7, rfl⟩ := hR2
      replace S11 : SH _ _ _ (Rs.bun [_, _, _] :: [_]) := S11
      have S12 : SH _ _ _ [_, _, _, _] := SH.unbunC (A := [_, _, _]) (B := [_]) S11; clear S11
      obtain ⟨vpl2, evpl2⟩ : ∃ v, v = v9w7 := ⟨_, rfl⟩
      rw [← evpl2] at S12; clear evpl2
      have eT3 : twG (decide (((i : Int) % 2) = 1)) (decide (0 < (ga l i))) (tgs (twQ l i k)) = tgs (twQ l i (k + 1)) := by (rw [twQ_succ, tgs_snoc]; rfl)
      rw [eT3] at S12; clear eT3
      refine wl_end rfl ?_
      refine nm_blk ?_
      refine nm_sub [(2, _), (5, _), (15, _), (16, _), (17, _), (6, _), (7, _), (25, _), (26, _)] ⟨rfl, rfl, rfl, rfl, rfl, rfl, rfl, rfl, rfl, trivial⟩ ?_
      refine nm_thn ?_
      refine ws_region rfl ?_
      refine wlo 0 1 rfl rfl rfl (wo_run rfl rfl (run_add rfl rfl rfl (by first | omega | (simp only [lens]; omega))) ?_)
      refine wlm 1 2 rfl rfl rfl rfl rfl rfl rfl ?_
      refine wl_end rfl ?_
      refine nm_lp ?_
      intro ax_ hax_
      refine ⟨_, ?hq3m, ⟨k + 1, _, rfl, hax_.sub ⟨rfl, rfl, rfl, rfl, rfl, rfl, rfl, rfl, rfl, trivial⟩, S12.pick [0, 1, 2, 3] [_, _, _, _] (by decide) ⟨rfl, rfl, rfl, rfl, trivial⟩, ?hq3f0⟩⟩
      case hq3f0 => first | assumption | omega
      case hq3m => omega
     ·replace hb27 := of_decide_eq_false hb27
      refine ws_exit rfl rfl ?_
      refine nm_blk ?_
      refine nm_sub [(2, _), (5, _), (15, _), (16, _), (17, _)] ⟨rfl, rfl, rfl, rfl, rfl, trivial⟩ ?_
      refine nm_thn ?_
      refine ws_region rfl ?_
      refine wlo 0 1 rfl rfl rfl (wo_run rfl rfl (run_add rfl rfl rfl (by first | omega | (simp only [lens]; omega))) ?_)
      refine wlm 1 2 rfl rfl rfl rfl rfl rfl rfl ?_
      refine wl_end rfl ?_
      refine nm_lp ?_
      have eT4 : tgs (twQ l i k) = tgs (twP l (i + 1)) := by (rw [show k = (ga l i).natAbs by omega]; rfl)
      rw [eT4] at S7; clear eT4
      intro ax_ hax_
      refine ⟨_, ?hq4m, ⟨i + 1, _, rfl, hax_.sub ⟨rfl, rfl, rfl, rfl, rfl, trivial⟩, S7.pick [0, 1, 2, 3] [_, _, _, _] (by decide) ⟨rfl, rfl, rfl, rfl, trivial⟩, ?hq4f0⟩⟩
      case hq4f0 => first | assumption | omega
      case hq4m => omega
   ·replace hb18 := of_decide_eq_false hb18
    refine ws_exit rfl rfl ?_
    refine nm_sub [(2, _), (5, _)] ⟨rfl, rfl, trivial⟩ ?_
    refine nm_thn ?_
    refine ws_seqN Link_n45 Link_n46 rfl rfl rfl ?_
    have eT5 : tgs (twP l i) = tgs (twP l l.length) := by rw [show i = l.length by omega]
    rw [eT5] at S6; clear eT5
    have hE := eok_tgs (twP l l.length)
    have hE2 := hE.join 0 1
    have hj2 := join_E (twP l l.length)
    have hlen : (twP l l.length).length ≤ 16 := by have := twP_len l l.length; omega
    refine ws_region rfl ?_
    refine wlm 0 1 rfl rfl rfl rfl rfl rfl rfl ?_
    have S13 := S6.pick [0, 1, 2, 3] [_, _, _, _] (by decide) ⟨rfl, rfl, rfl, rfl, trivial⟩; clear S6
    have S14 : SH _ _ _ (Rs.bun [_, _, _] :: [_]) := SH.bunC (A := [_, _, _]) (B := [_]) S13; clear S13
    have S15 : SH _ _ _ [_, _] := S14.less (i := 0) rfl
    have hcall2 := Join_b (q := (tgs (twP l l.length))) 0 1 (by exact hE) (by decide) (by decide) (by exact jn_or _ (by decide)) (by (have := (tgs_pl (twP l l.length)).2; omega)) (S14.lend1 (i := 0) rfl); clear S15
    refine wlo 1 2 rfl rfl rfl (wo_c1 (i := 0) rfl rfl rfl rfl rfl rfl rfl cf28 S14 rfl hcall2 ?_)
    intro vw8 w8 M2 rw8 hle4 S16 hR3; clear S14
    obtain ⟨huhMX2, hMX2, hR4⟩ := hR3
    rw [hMX2] at S16
    clear hMX2
    subst huhMX2
    subst hR4
    replace S16 : SH _ _ _ (Rs.bun [_, _, _] :: [_]) := S16
    have S17 : SH _ _ _ [_, _, _, _] := SH.unbunC (A := [_, _, _]) (B := [_]) S16; clear S16
    have eT6 : joinG (tgs (twP l l.length)) 0 1 = joinG (tgs (twP l l.length)) 0 1 := rfl
    rw [eT6] at S17; clear eT6
    refine wl_end rfl ?_
    refine nm_sub [(2, _), (5, _)] ⟨rfl, rfl, trivial⟩ ?_
    refine nm_thn ?_
    refine ws_seqN Link_n47 Link_n48 rfl rfl rfl ?_
    refine ws_region rfl ?_
    refine wlm 0 1 rfl rfl rfl rfl rfl rfl rfl ?_
    have S18 := S17.pick [0, 1, 2, 3] [_, _, _, _] (by decide) ⟨rfl, rfl, rfl, rfl, trivial⟩; clear S17
    have S19 : SH _ _ _ (Rs.bun [_, _, _] :: [_]) := SH.bunC (A := [_, _, _]) (B := [_]) S18; clear S18
    have S20 : SH _ _ _ [_, _] := S19.less (i := 0) rfl
    have hcall3 := Join_b (q := (joinG (tgs (twP l l.length)) 0 1)) 2 3 (by exact hE2) (by decide) (by decide) (by (rw [hj2.1]; exact jn_or _ (by decide))) (by omega) (S19.lend1 (i := 0) rfl); clear S20
    refine wlo 1 2 rfl rfl rfl (wo_c1 (i := 0) rfl rfl rfl rfl rfl rfl rfl cf28 S19 rfl hcall3 ?_)
    intro vw9 w9 M3 rw9 hle5 S21 hR5; clear S19
    obtain ⟨huhMX3, hMX3, hR6⟩ := hR5
    rw [hMX3] at S21
    clear hMX3
    subst huhMX3
    subst hR6
    replace S21 : SH _ _ _ (Rs.bun [_, _, _] :: [_]) := S21
    have S22 : SH _ _ _ [_, _, _, _] := SH.unbunC (A := [_, _, _]) (B := [_]) S21; clear S21
    have eT7 : joinG (joinG (tgs (twP l l.length)) 0 1) 2 3 = tgE (twP l l.length) := rfl
    rw [eT7] at S22; clear eT7
    refine wl_end rfl ?_
    refine nm_sub [(2, _), (5, _)] ⟨rfl, rfl, trivial⟩ ?_
    refine nm_thn ?_
    refine ws_seqN Link_n49 Link_n50 rfl rfl rfl ?_
    have hplE : (tgE (twP l l.length)).pl.length = (twP l l.length).length := by rw [(fin_ts (twP l l.length)).pl, List.length_map]
    obtain ⟨M4, hle6, S23, ⟨A1, c1, e1, hr1⟩⟩ := S22.pubrow (i := 1) (H' := [_, _, _, _]) rfl rfl (by show _ * 32 ≤ _; first | omega | (simp only [lens]; omega))
    clear S22; subst e1
    replace hl := hl.mono (Hp.un_mono hle6 S23.mx)
    obtain ⟨M5, hle7, S24, hm1⟩ := S23.pubmap (i := 2) (H' := [_, _, _, _]) rfl rfl; clear S23
    replace hl := hl.mono (Hp.un_mono hle7 S24.mx)
    replace hr1 := hr1.mono hle7
    obtain ⟨M6, hle8, S25, hbx1⟩ := S24.pubB (i := 0) (H' := [_, _, _, _]) rfl rfl
    clear S24
    replace hl := hl.mono (Hp.un_mono hle8 S25.mx)
    replace hr1 := hr1.mono hle8
    replace hm1 := hm1.mono hle8
    refine ws_region rfl ?_
    refine wlm 0 1 rfl rfl rfl rfl rfl rfl rfl ?_
    refine wlo 1 2 rfl rfl rfl (wo_ct rfl rfl rfl rfl rfl rfl rfl cf29 S25 (Diagram_t (E := (tgE (twP l l.length)).E) hbx1 hr1 hm1 (fin_pok (twP l l.length)) (fin_ways (twP l l.length)) (by exact hlen) S25.lend) ?_)
    intro vw10 w10 M7 hle9 S26 hRw10; clear S25
    replace hl := hl.mono (Hp.un_mono hle9 S26.mx)
    replace hr1 := hr1.mono hle9
    replace hm1 := hm1.mono hle9
    replace hbx1 := hbx1.mono hle9
    obtain ⟨A2, c2, rfl, hr2⟩ := hRw10
    refine wlo 2 3 rfl rfl rfl (wo_storeB (i := 3) (us := [_, _]) (l' := [_, _]) (H' := [_, _, _, _]) rfl rfl S26 rfl rfl rfl rfl sz41 rfl rfl rfl rfl ?_)
    intro w11 S27; clear S26
    refine wla 3 4 rfl rfl rfl rfl rfl rfl rfl ?_
    refine wl_end rfl ?_
    refine nm_sub [(2, _), (3, _)] ⟨rfl, rfl, trivial⟩ ?_
    refine nm_thn ?_
    refine ws_ret hC [_, _] rfl rfl ⟨⟨_, rfl, loadVarN (us := [_, _]) Try.underlying41 rfl sz41 (S27.boxcs (i := 3) rfl ⟨rfl, rfl, trivial⟩)⟩, rfl, trivial⟩ ?_
    refine ⟨_, rfl, _, ((hle6.trans hle7).trans hle8).trans hle9, (S27.pick [] [] (by decide) trivial), ?_⟩
    have e : linkR l = (dgL (twP l l.length), 0) := by unfold linkR; rw [if_neg (by omega)]
    rw [e]
    exact ⟨_, _, rfl, hr2⟩
end Go.Proofs.Ytkgofmloleicgaa
namespace Go.Proofs.Ytkgofmloleicgaa
open Go.ChangeShapes Go.WideShapes Go.ChangeAt Go.RowKit
/-- Ties, as the document holds them. -/
structure Pr where
 a : List Sp
 b : List Sp
def zL (t : Pr) : List (Sp × Sp) := t.a.zip t.b
theorem zL_drop (t : Pr) {i : Nat} (h1 : i < t.a.length) (h2 : t.a.length = t.b.length) : (zL t).drop i = (ga t.a i, ga t.b i) :: (zL t).drop (i + 1) := by
 unfold zL
 have hl : i < (t.a.zip t.b).length := by rw [List.length_zip]; omega
 rw [List.drop_eq_getElem_cons hl]
 congr 1
 rw [List.getElem_zip, ga_eq h1, ga_eq (by omega)]
theorem tieF_a {t : Pr} {i : Nat} {s : Sp} {r : Option Sp} (h1 : i < t.a.length) (h2 : t.a.length = t.b.length) (h : tieF ((zL t).drop i) s = r) (he : ga t.a i = s) : r = some (ga t.b i) := by
 rw [zL_drop t h1 h2, tieF, if_pos he] at h; exact h.symm
theorem tieF_b {t : Pr} {i : Nat} {s : Sp} {r : Option Sp} (h1 : i < t.a.length) (h2 : t.a.length = t.b.length) (h : tieF ((zL t).drop i) s = r) (hn : ¬ ga t.a i = s) (he : ga t.b i = s) : r = some (ga t.a i) := by
 rw [zL_drop t h1 h2, tieF, if_neg hn, if_pos he] at h; exact h.symm
theorem tieF_n {t : Pr} {i : Nat} {s : Sp} {r : Option Sp} (h1 : i < t.a.length) (h2 : t.a.length = t.b.length) (h : tieF ((zL t).drop i) s = r) (hn : ¬ ga t.a i = s) (hm : ¬ ga t.b i = s) : tieF ((zL t).drop (i + 1)) s = r := by
 rw [zL_drop t h1 h2, tieF, if_neg hn, if_neg hm] at h; exact h
theorem tieF_z {t : Pr} {i : Nat} {s : Sp} {r : Option Sp} (h1 : t.a.length ≤ i) (h : tieF ((zL t).drop i) s = r) : r = none := by
 rw [List.drop_eq_nil_of_le (by unfold zL; rw [List.length_zip]; omega)] at h; exact h.symm
theorem sp_eq {x y : Sp} : (x.c = y.c ∧ x.a = y.a) ↔ x = y := ⟨fun h => by cases x; cases y; simp at h; simp [h], fun h => by rw [h]; exact ⟨rfl, rfl⟩⟩
/-- Where a search stands: at the place itself, or at the other end of a first arc. -/
def AtOk (L : List (Sp × Sp)) (s : Sp) (r : Nat) (at_ : Sp) : Prop := (r = 0 ∧ at_ = s) ∨ (r = 1 ∧ tieF L at_ = some (oth L s))
theorem at_some {L : List (Sp × Sp)} {s x : Sp} {r : Nat} (h : Thr (tieF L) s (oth L s)) (ha : AtOk L s r x) : ∃ y, tieF L x = some y := by
 rcases ha with ⟨_, h9⟩ | ⟨_, h9⟩
 ·rw [h9]
  obtain ⟨_, h8 | ⟨v, _, _, h8, _⟩⟩ := h
  ·exact ⟨_, h8⟩
  ·exact ⟨_, h8⟩
 ·exact ⟨_, h9⟩
/-- What a search finds. -/
theorem at_found {L : List (Sp × Sp)} {s x y : Sp} {r : Nat} (h : Thr (tieF L) s (oth L s)) (ha : AtOk L s r x) (hx : tieF L x = some y) :
  (0 ≤ y.c → y = oth L s) ∧ (y.c < 0 → r = 0 ∧ y.c = -1 ∧ 0 ≤ y.a ∧ y.a < 4 ∧ tieF L ⟨-1, flp y.a⟩ = some (oth L s)) := by
 rcases ha with ⟨rfl, rfl⟩ | ⟨rfl, h1⟩
 ·obtain ⟨h0, h1 | ⟨v, v0, v4, h1, h2⟩⟩ := h
  ·rw [hx] at h1
   injection h1 with h1
   refine ⟨fun _ => h1, fun hn => ?_⟩
   rw [h1] at hn; omega
  ·have h1' := h1
   rw [hx] at h1
   injection h1 with h1
   refine ⟨fun hp => ?_, fun _ => ?_⟩
   ·rw [h1] at hp; unfold vt at hp; simp only at hp; omega
   ·rw [h1]; exact ⟨rfl, rfl, v0, v4, h2⟩
 ·rw [hx] at h1
  injection h1 with h1
  refine ⟨fun _ => h1, fun hn => ?_⟩
  have := h.1
  rw [h1] at hn; omega
noncomputable def Tied_n0 : Code := Try.f30.body.getD .skip
noncomputable def Tied_n1 : Code := cL Tied_n0
noncomputable def Tied_n2 : Code := cR Tied_n0
noncomputable def Tied_n3 : Code := cL Tied_n2
noncomputable def Tied_n4 : Code := cR Tied_n2
set_option maxRecDepth 10000 in
theorem Tied_b {w : World} {M : Hp} {X : Fr} {vra vrb : Value} (xs ys : List Sp) (a : Sp) (b : Sp) (hx : xs.length ≤ 1000) (hy : ys.length ≤ 1000) (S : SH w M X [Rs.bun [Rs.row cdSp vra xs, Rs.row cdSp vrb ys]]) : C1 Try.prog 30 [.agg [vra, vrb].toArray, .agg [.int .i64 a.c, .int .i64 a.a].toArray, .agg [.int .i64 b.c, .int .i64 b.a].toArray] w M X (fun u M' r' => True ∧ M' = M ∧ ∃ va vb, u = .agg [va, vb].toArray ∧ r' = Rs.bun [Rs.row cdSp va (xs ++ [a]), Rs.row cdSp vb (ys ++ [b])]) := by
 unfold C1
 replace S := S.unbun
 refine calls_in (b := Tied_n0) Try.func30 rfl Try.ntmps30 rfl (fun C hC => ?_)
 refine ws_sub [(0, _), (1, _), (2, _)] ⟨rfl, rfl, rfl, trivial⟩ ?_
 refine ws_seqN Tied_n1 Tied_n2 rfl rfl rfl ?_
 refine ws_region rfl ?_
 refine wlo 0 1 rfl rfl rfl (wo_box (l := [_, _]) rfl rfl rfl rfl rfl S ?_)
 intro gb1 w1 S1; clear S
 refine wlo 1 2 rfl rfl rfl (wo_box (l := [_, _]) rfl rfl rfl rfl rfl S1 ?_)
 intro gb2 w2 S2; clear S1
 refine wlo 2 3 rfl rfl rfl (wo_box (l := [_, _]) rfl rfl rfl rfl rfl S2 ?_)
 intro gb3 w3 S3; clear S2
 refine wlo 3 4 rfl rfl rfl (wo_alloc (l := [_, _]) rfl rfl rfl zr59 rfl S3 ?_)
 intro gb4 w4 S4; clear S3
 refine wl_end rfl ?_
 refine nm_sub [(3, _), (4, _), (5, _), (6, _)] ⟨rfl, rfl, rfl, rfl, trivial⟩ ?_
 refine nm_thn ?_
 refine ws_seqN Tied_n3 Tied_n4 rfl rfl rfl ?_
 have S5 := S4.pick [4, 5, 0, 1, 2, 3] [_, _, _, _, _, _] (by decide) ⟨rfl, rfl, rfl, rfl, rfl, rfl, trivial⟩; clear S4
 refine ws_drawN [_, _] [_, _, _, _] rfl (by kernel_rfl) S5 12 rfl ?_
 clear S5
 change WA _ _ _ _ _ _ _ _ _ _ _ _ [_, _, _, _, _, _]
 refine wa_takeP (i := 0) (d := 7) 11 rfl (by kernel_rfl) (by kernel_rfl) (by kernel_rfl) rfl rfl rfl (fun w5 => run_fieldAddr rfl rfl Try.underlying59 rfl (ce57) (nf57)) ?_
 refine wa_take (i := 1) (d := 8) 10 rfl (by kernel_rfl) (by kernel_rfl) (by kernel_rfl) rfl rfl rfl (fun M2 N2 w6 hle2 S7 => .inl (run_load1 rfl rfl Try.underlying57 rfl (S7.suf.boxc (i := 3) rfl rfl))) ?_
 refine wa_take (i := 2) (d := 9) 9 rfl (by kernel_rfl) (by kernel_rfl) (by kernel_rfl) rfl rfl rfl (fun M3 N3 w7 hle3 S8 => .inl (run_loadN (us := [_, _]) rfl rfl Try.underlying61 rfl sz61 (S8.suf.boxcs (i := 2) rfl ⟨rfl, rfl, trivial⟩))) ?_
 refine wa_takeP (i := 5) (d := 12) 8 rfl (by kernel_rfl) (by kernel_rfl) (by kernel_rfl) rfl rfl rfl (fun w9 => run_fieldAddr rfl rfl Try.underlying59 rfl (ce57) (nf57)) ?_
 refine wa_take (i := 6) (d := 13) 7 rfl (by kernel_rfl) (by kernel_rfl) (by kernel_rfl) rfl rfl rfl (fun M7 N7 w11 hle7 S12 => .inl (run_load1 rfl rfl Try.underlying57 rfl (S12.suf.boxc (i := 3) rfl rfl))) ?_
 refine wa_take (i := 7) (d := 14) 6 rfl (by kernel_rfl) (by kernel_rfl) (by kernel_rfl) rfl rfl rfl (fun M9 N9 w13 hle9 S14 => .inl (run_loadN (us := [_, _]) rfl rfl Try.underlying61 rfl sz61 (S14.suf.boxcs (i := 1) rfl ⟨rfl, rfl, trivial⟩))) ?_
 refine wa_two (i := 3) (j := 8) 5 rfl rfl (by kernel_rfl) rfl rfl rfl rfl (fun w16 S17 => ?_) (fun w16 S17 => ?_)
 ·refine (wo_buildSlice1 (C := cdSp) (l := [_, _]) rfl rfl rfl rfl sl57 rfl rfl rfl rfl S17 ?_)
  intro gb5 w17 S18; clear S17
  refine LeftW.grow [_, _, _] (Hp.le_refl _) S18 ?_; clear S18
  change WA _ _ _ _ _ _ _ _ _ _ _ _ [_, _, _, _, _, _, _]
  refine wa_two (i := 4) (j := 8) 4 rfl rfl (by kernel_rfl) rfl rfl rfl rfl (fun w20 S21 => ?_) (fun w20 S21 => ?_)
  ·refine (wo_append1 (C := cdSp) (i := 1) (q := 0) (⟨a.c, a.a⟩ : Sp) rfl rfl rfl rfl rfl rfl rfl rfl sl57 S21 rfl rfl rfl (by show (_ + 1) * 16 ≤ _; first | omega | (simp only [lens]; omega)) ?_)
   intro vra1 w21 S22; clear S21
   have S23 := S22.pick [1, 2, 3, 4, 5, 6] [_, _, _, _, _, _] (by decide) ⟨rfl, rfl, rfl, rfl, rfl, rfl, trivial⟩; clear S22
   refine LeftW.grow [_, _] (Hp.le_refl _) S23 ?_; clear S23
   change WA _ _ _ _ _ _ _ _ _ _ _ _ [_, _, _, _, _, _]
   refine wa_only (i := 8) 3 rfl (by kernel_rfl) rfl rfl (fun w23 S25 => ?_)
   refine (wo_buildSlice1 (C := cdSp) (l := [_, _]) rfl rfl rfl rfl sl57 rfl rfl rfl rfl S25 ?_)
   intro gb6 w24 S26; clear S25
   refine LeftW.grow [_, _, _] (Hp.le_refl _) S26 ?_; clear S26
   change WA _ _ _ _ _ _ _ _ _ _ _ _ [_, _, _, _, _, _, _]
   refine wa_only (i := 9) 2 rfl (by kernel_rfl) rfl rfl (fun w26 S28 => ?_)
   refine (wo_append1 (C := cdSp) (i := 2) (q := 0) (⟨b.c, b.a⟩ : Sp) rfl rfl rfl rfl rfl rfl rfl rfl sl57 S28 rfl rfl rfl (by show (_ + 1) * 16 ≤ _; first | omega | (simp only [lens]; omega)) ?_)
   intro vrb1 w27 S29; clear S28
   have S30 := S29.pick [1, 2, 3, 4, 5, 6] [_, _, _, _, _, _] (by decide) ⟨rfl, rfl, rfl, rfl, rfl, rfl, trivial⟩; clear S29
   refine LeftW.grow [_, _] (Hp.le_refl _) S30 ?_; clear S30
   change WA _ _ _ _ _ _ _ _ _ _ _ _ [_, _, _, _, _, _]
   refine wa_base ?_
   refine wa_take (i := 10) (d := 17) 1 rfl (by kernel_rfl) (by kernel_rfl) (by kernel_rfl) rfl rfl rfl (fun M16 N16 w28 hle16 S31 => .inl (run_build (l := [vra1, vrb1]) rfl rfl st59 rfl (by obtain ⟨_, _, e9, _⟩ := S31.suf.sl (i := 0) rfl; subst e9; obtain ⟨_, _, e9, _⟩ := S31.suf.sl (i := 1) rfl; subst e9; rfl))) ?_
   refine wa_only (i := 11) 0 rfl (by kernel_rfl) rfl rfl (fun w30 S33 => ?_)
   refine (wo_storeB (i := 2) (us := [_, _]) (l' := [_, _]) (H' := [_, _, _, _, _, _]) rfl rfl S33 rfl rfl rfl rfl sz59 rfl (ones_cons (S33.one (i := 0) rfl) (ones_cons (S33.one (i := 1) rfl) rfl)) rfl rfl ?_)
   intro w31 S34; clear S33
   refine LeftW.turn (by kernel_rfl) S34 ?_; clear S34
   change WA _ _ _ _ _ _ _ _ _ _ _ _ [_, _, _, _, _, _]
   refine wa_end (by kernel_rfl) (fun w32 S35 => ?_)
   refine nm_sub [(6, _)] ⟨rfl, trivial⟩ ?_
   refine nm_thn ?_
   refine ws_ret hC [_] rfl rfl ⟨⟨_, rfl, loadVarN (us := [_, _]) Try.underlying59 rfl sz59 (S35.boxcs (i := 2) rfl ⟨rfl, rfl, trivial⟩)⟩, trivial⟩ ?_
   refine ⟨_, rfl, _, _, Hp.le_refl _, (S35.pick [0, 1] [_, _] (by decide) ⟨rfl, rfl, trivial⟩).bun, ?_⟩
   exact ⟨trivial, rfl, _, _, rfl, rfl⟩
  ·refine (wo_buildSlice1 (C := cdSp) (l := [_, _]) rfl rfl rfl rfl sl57 rfl rfl rfl rfl S21 ?_)
   intro gb7 w33 S36; clear S21
   refine LeftW.grow [_, _, _, _] (Hp.le_refl _) S36 ?_; clear S36
   change WA _ _ _ _ _ _ _ _ _ _ _ _ [_, _, _, _, _, _, _, _]
   refine wa_only (i := 4) 3 rfl (by kernel_rfl) rfl rfl (fun w35 S38 => ?_)
   refine (wo_append1 (C := cdSp) (i := 2) (q := 1) (⟨a.c, a.a⟩ : Sp) rfl rfl rfl rfl rfl rfl rfl rfl sl57 S38 rfl rfl rfl (by show (_ + 1) * 16 ≤ _; first | omega | (simp only [lens]; omega)) ?_)
   intro vra2 w36 S39; clear S38
   have S40 := S39.pick [0, 2, 3, 4, 5, 6, 7] [_, _, _, _, _, _, _] (by decide) ⟨rfl, rfl, rfl, rfl, rfl, rfl, rfl, trivial⟩; clear S39
   refine LeftW.grow [_, _, _] (Hp.le_refl _) S40 ?_; clear S40
   change WA _ _ _ _ _ _ _ _ _ _ _ _ [_, _, _, _, _, _, _]
   refine wa_only (i := 9) 2 rfl (by kernel_rfl) rfl rfl (fun w38 S42 => ?_)
   refine (wo_append1 (C := cdSp) (i := 2) (q := 0) (⟨b.c, b.a⟩ : Sp) rfl rfl rfl rfl rfl rfl rfl rfl sl57 S42 rfl rfl rfl (by show (_ + 1) * 16 ≤ _; first | omega | (simp only [lens]; omega)) ?_)
   intro vrb2 w39 S43; clear S42
   have S44 := S43.pick [1, 2, 3, 4, 5, 6] [_, _, _, _, _, _] (by decide) ⟨rfl, rfl, rfl, rfl, rfl, rfl, trivial⟩; clear S43
   refine LeftW.grow [_, _] (Hp.le_refl _) S44 ?_; clear S44
   change WA _ _ _ _ _ _ _ _ _ _ _ _ [_, _, _, _, _, _]
   refine wa_base ?_
   refine wa_take (i := 10) (d := 17) 1 rfl (by kernel_rfl) (by kernel_rfl) (by kernel_rfl) rfl rfl rfl (fun M20 N20 w40 hle20 S45 => .inl (run_build (l := [vra2, vrb2]) rfl rfl st59 rfl (by obtain ⟨_, _, e9, _⟩ := S45.suf.sl (i := 0) rfl; subst e9; obtain ⟨_, _, e9, _⟩ := S45.suf.sl (i := 1) rfl; subst e9; rfl))) ?_
   refine wa_only (i := 11) 0 rfl (by kernel_rfl) rfl rfl (fun w42 S47 => ?_)
   refine (wo_storeB (i := 2) (us := [_, _]) (l' := [_, _]) (H' := [_, _, _, _, _, _]) rfl rfl S47 rfl rfl rfl rfl sz59 rfl (ones_cons (S47.one (i := 0) rfl) (ones_cons (S47.one (i := 1) rfl) rfl)) rfl rfl ?_)
   intro w43 S48; clear S47
   refine LeftW.turn (by kernel_rfl) S48 ?_; clear S48
   change WA _ _ _ _ _ _ _ _ _ _ _ _ [_, _, _, _, _, _]
   refine wa_end (by kernel_rfl) (fun w44 S49 => ?_)
   refine nm_sub [(6, _)] ⟨rfl, trivial⟩ ?_
   refine nm_thn ?_
   refine ws_ret hC [_] rfl rfl ⟨⟨_, rfl, loadVarN (us := [_, _]) Try.underlying59 rfl sz59 (S49.boxcs (i := 2) rfl ⟨rfl, rfl, trivial⟩)⟩, trivial⟩ ?_
   refine ⟨_, rfl, _, _, Hp.le_refl _, (S49.pick [0, 1] [_, _] (by decide) ⟨rfl, rfl, trivial⟩).bun, ?_⟩
   exact ⟨trivial, rfl, _, _, rfl, rfl⟩
 ·refine (wo_buildSlice1 (C := cdSp) (l := [_, _]) rfl rfl rfl rfl sl57 rfl rfl rfl rfl S17 ?_)
  intro gb8 w45 S50; clear S17
  refine LeftW.grow [_, _, _] (Hp.le_refl _) S50 ?_; clear S50
  change WA _ _ _ _ _ _ _ _ _ _ _ _ [_, _, _, _, _, _, _]
  refine wa_only (i := 3) 4 rfl (by kernel_rfl) rfl rfl (fun w47 S52 => ?_)
  refine (wo_buildSlice1 (C := cdSp) (l := [_, _]) rfl rfl rfl rfl sl57 rfl rfl rfl rfl S52 ?_)
  intro gb9 w48 S53; clear S52
  refine LeftW.grow [_, _, _, _] (Hp.le_refl _) S53 ?_; clear S53
  change WA _ _ _ _ _ _ _ _ _ _ _ _ [_, _, _, _, _, _, _, _]
  refine wa_only (i := 4) 3 rfl (by kernel_rfl) rfl rfl (fun w50 S55 => ?_)
  refine (wo_append1 (C := cdSp) (i := 2) (q := 0) (⟨a.c, a.a⟩ : Sp) rfl rfl rfl rfl rfl rfl rfl rfl sl57 S55 rfl rfl rfl (by show (_ + 1) * 16 ≤ _; first | omega | (simp only [lens]; omega)) ?_)
  intro vra3 w51 S56; clear S55
  have S57 := S56.pick [1, 2, 3, 4, 5, 6, 7] [_, _, _, _, _, _, _] (by decide) ⟨rfl, rfl, rfl, rfl, rfl, rfl, rfl, trivial⟩; clear S56
  refine LeftW.grow [_, _, _] (Hp.le_refl _) S57 ?_; clear S57
  change WA _ _ _ _ _ _ _ _ _ _ _ _ [_, _, _, _, _, _, _]
  refine wa_only (i := 9) 2 rfl (by kernel_rfl) rfl rfl (fun w53 S59 => ?_)
  refine (wo_append1 (C := cdSp) (i := 2) (q := 0) (⟨b.c, b.a⟩ : Sp) rfl rfl rfl rfl rfl rfl rfl rfl sl57 S59 rfl rfl rfl (by show (_ + 1) * 16 ≤ _; first | omega | (simp only [lens]; omega)) ?_)
  intro vrb3 w54 S60; clear S59
  have S61 := S60.pick [1, 2, 3, 4, 5, 6] [_, _, _, _, _, _] (by decide) ⟨rfl, rfl, rfl, rfl, rfl, rfl, trivial⟩; clear S60
  refine LeftW.grow [_, _] (Hp.le_refl _) S61 ?_; clear S61
  change WA _ _ _ _ _ _ _ _ _ _ _ _ [_, _, _, _, _, _]
  refine wa_base ?_
  refine wa_take (i := 10) (d := 17) 1 rfl (by kernel_rfl) (by kernel_rfl) (by kernel_rfl) rfl rfl rfl (fun M25 N25 w55 hle25 S62 => .inl (run_build (l := [vra3, vrb3]) rfl rfl st59 rfl (by obtain ⟨_, _, e9, _⟩ := S62.suf.sl (i := 0) rfl; subst e9; obtain ⟨_, _, e9, _⟩ := S62.suf.sl (i := 1) rfl; subst e9; rfl))) ?_
  refine wa_only (i := 11) 0 rfl (by kernel_rfl) rfl rfl (fun w57 S64 => ?_)
  refine (wo_storeB (i := 2) (us := [_, _]) (l' := [_, _]) (H' := [_, _, _, _, _, _]) rfl rfl S64 rfl rfl rfl rfl sz59 rfl (ones_cons (S64.one (i := 0) rfl) (ones_cons (S64.one (i := 1) rfl) rfl)) rfl rfl ?_)
  intro w58 S65; clear S64
  refine LeftW.turn (by kernel_rfl) S65 ?_; clear S65
  change WA _ _ _ _ _ _ _ _ _ _ _ _ [_, _, _, _, _, _]
  refine wa_end (by kernel_rfl) (fun w59 S66 => ?_)
  refine nm_sub [(6, _)] ⟨rfl, trivial⟩ ?_
  refine nm_thn ?_
  refine ws_ret hC [_] rfl rfl ⟨⟨_, rfl, loadVarN (us := [_, _]) Try.underlying59 rfl sz59 (S66.boxcs (i := 2) rfl ⟨rfl, rfl, trivial⟩)⟩, trivial⟩ ?_
  refine ⟨_, rfl, _, _, Hp.le_refl _, (S66.pick [0, 1] [_, _] (by decide) ⟨rfl, rfl, trivial⟩).bun, ?_⟩
  exact ⟨trivial, rfl, _, _, rfl, rfl⟩
noncomputable def Other_n0 : Code := Try.f36.body.getD .skip
noncomputable def Other_n1 : Code := cL Other_n0
noncomputable def Other_n2 : Code := cR Other_n0
noncomputable def Other_n3 : Code := cL Other_n2
noncomputable def Other_n4 : Code := cR Other_n2
noncomputable def Other_n5 : Code := cL Other_n4
noncomputable def Other_n6 : Code := cL Other_n5
noncomputable def Other_n7 : Code := cL Other_n6
noncomputable def Other_n8 : Code := cL Other_n7
noncomputable def Other_n9 : Code := cR Other_n7
noncomputable def Other_n10 : Code := cL Other_n8
noncomputable def Other_n11 : Code := cR Other_n8
noncomputable def Other_n12 : Code := cL Other_n11
noncomputable def Other_n13 : Code := cL Other_n12
noncomputable def Other_n14 : Code := cL Other_n13
noncomputable def Other_n15 : Code := cR Other_n13
noncomputable def Other_n16 : Code := cL Other_n14
noncomputable def Other_n17 : Code := cR Other_n14
noncomputable def Other_n18 : Code := cL Other_n17
noncomputable def Other_n19 : Code := cR Other_n17
noncomputable def Other_n20 : Code := cL Other_n15
noncomputable def Other_n21 : Code := cR Other_n15
noncomputable def Other_n22 : Code := cL Other_n20
noncomputable def Other_n23 : Code := cL Other_n22
noncomputable def Other_n24 : Code := cR Other_n22
noncomputable def Other_n25 : Code := cL Other_n23
noncomputable def Other_n26 : Code := cR Other_n23
noncomputable def Other_n27 : Code := cL Other_n26
noncomputable def Other_n28 : Code := cR Other_n26
noncomputable def Other_n29 : Code := cL Other_n27
noncomputable def Other_n30 : Code := cR Other_n27
noncomputable def Other_n31 : Code := cL Other_n9
noncomputable def Other_n32 : Code := cR Other_n9
noncomputable def Other_n33 : Code := cL Other_n31
noncomputable def Other_n34 : Code := cR Other_n31
noncomputable def Other_n35 : Code := cL Other_n34
noncomputable def Other_n36 : Code := cR Other_n34
noncomputable def Other_n37 : Code := cL Other_n35
noncomputable def Other_n38 : Code := cR Other_n35
noncomputable def Other_n39 : Code := cL Other_n32
noncomputable def Other_n40 : Code := cR Other_n32
noncomputable def Other_n41 : Code := cL Other_n40
noncomputable def Other_n42 : Code := cR Other_n40
noncomputable def Other_n43 : Code := cL Other_n42
noncomputable def Other_n44 : Code := cR Other_n42
noncomputable def Other_n45 : Code := cL Other_n24
noncomputable def Other_n46 : Code := cR Other_n24
noncomputable def Other_n47 : Code := cL Other_n46
noncomputable def Other_n48 : Code := cR Other_n46
noncomputable def Other_n49 : Code := cL Other_n47
noncomputable def Other_n50 : Code := cR Other_n47
set_option maxRecDepth 10000 in
theorem Other_q {w : World} {M : Hp} {X : Fr} (t : Pr) {taA : Option Addr} {tac : Nat} {tbA : Option Addr} {tbc : Nat} (s : Sp) (hta : RdA cdSp (M.un X.h) taA tac t.a) (htb : RdA cdSp (M.un X.h) tbA tbc t.b) (hlen : t.a.length = t.b.length) (hth : Thr (tieF (zL t)) s (oth (zL t) s)) (hs : 0 ≤ s.c) (S : SH w M X []) : Cq Try.prog 36 [.agg [.slice taA t.a.length tac, .slice tbA t.b.length tbc].toArray, .agg [.int .i64 s.c, .int .i64 s.a].toArray] w M X (fun u => u = .agg [.int .i64 (oth (zL t) s).c, .int .i64 (oth (zL t) s).a].toArray) := by
 unfold Cq
 have rmhta : t.a.length * 16 ≤ 140737488355328 := hta.room
 have rmhtb : t.b.length * 16 ≤ 140737488355328 := htb.room
 refine calls_in (b := Other_n0) Try.func36 rfl Try.ntmps36 rfl (fun C hC => ?_)
 refine ws_sub [(0, _), (1, _)] ⟨rfl, rfl, trivial⟩ ?_
 refine ws_seqN Other_n1 Other_n2 rfl rfl rfl ?_
 refine ws_region rfl ?_
 refine wlo 0 1 rfl rfl rfl (wo_box (l := [_, _]) rfl rfl rfl rfl rfl S ?_)
 intro gb1 w1 S1; clear S
 refine wlo 1 2 rfl rfl rfl (wo_box (l := [_, _]) rfl rfl rfl rfl rfl S1 ?_)
 intro gb2 w2 S2; clear S1
 refine wlo 2 3 rfl rfl rfl (wo_alloc (l := [_, _]) rfl rfl rfl zr61 rfl S2 ?_)
 intro gb3 w3 S3; clear S2
 refine wl_end rfl ?_
 refine nm_sub [(2, _), (3, _), (4, _)] ⟨rfl, rfl, rfl, trivial⟩ ?_
 refine nm_thn ?_
 refine ws_seqN Other_n3 Other_n4 rfl rfl rfl ?_
 refine ws_region rfl ?_
 refine wlo 0 1 rfl rfl rfl (wo_run rfl rfl (run_loadN (us := [_, _]) rfl rfl Try.underlying61 rfl sz61 (S3.boxcs (i := 1) rfl ⟨rfl, rfl, trivial⟩)) ?_)
 refine wlo 1 2 rfl rfl rfl (wo_alloc (l := [_, _]) rfl rfl rfl zr61 rfl S3 ?_)
 intro gb4 w4 S4; clear S3
 refine wlo 2 3 rfl rfl rfl (wo_storeB (i := 0) (us := [_, _]) (l' := [_, _]) (H' := [_, _, _, _]) rfl rfl S4 rfl rfl rfl rfl sz61 rfl rfl rfl rfl ?_)
 intro w5 S5; clear S4
 refine wl_end rfl ?_
 refine nm_sub [(2, _), (3, _), (4, _), (5, _)] ⟨rfl, rfl, rfl, rfl, trivial⟩ ?_
 refine nm_thn ?_
 refine ws_blockN Other_n5 0 rfl rfl rfl ?_
 refine ws_loopE (fun mx_ ax_ wx_ => ∃ (r : Nat) (x : Sp), mx_ = 2 - 1 * r ∧ Env 51 [(2, .pointer (some ⟨gb1, 0, none⟩)), (3, .pointer (some ⟨gb2, 0, none⟩)), (4, .pointer (some ⟨gb3, 0, none⟩)), (5, .pointer (some ⟨gb4, 0, none⟩))] ax_ ∧ SH wx_ M X [Rs.box gb4 61 [.int .i64 x.c, .int .i64 x.a], Rs.box gb3 61 [.int .i64 0, .int .i64 0], Rs.box gb2 61 [.int .i64 s.c, .int .i64 s.a], Rs.box gb1 59 [.slice taA t.a.length tac, .slice tbA t.b.length tbc]] ∧ AtOk (zL t) s r x ∧ r ≤ 1) rfl ?_ ?_
 ·intro ax_ hax_
  refine ⟨_, ⟨0, s, rfl, hax_.sub ⟨rfl, rfl, rfl, rfl, trivial⟩, S5.pick [0, 1, 2, 3] [_, _, _, _] (by decide) ⟨rfl, rfl, rfl, rfl, trivial⟩, ?hq1f0, ?hq1f1⟩⟩
  case hq1f0 => exact .inl ⟨rfl, rfl⟩
  case hq1f1 => omega
 ·rintro m1 a1 w6 ⟨r, x, rfl, he1, S6, hat, hr⟩
  clear S5
  refine ws_in he1 (c := Other_n6) rfl ?_
  clear he1 a1
  have hsome := at_some hth hat
  refine ws_blockN Other_n7 1 rfl rfl rfl ?_
  refine ws_seqN Other_n8 Other_n9 rfl rfl rfl ?_
  refine ws_seqN Other_n10 Other_n11 rfl rfl rfl ?_
  refine ws_region rfl ?_
  refine wla 0 1 rfl rfl rfl rfl rfl rfl rfl ?_
  refine wl_end rfl ?_
  refine nm_thn ?_
  refine ws_blockN Other_n12 2 rfl rfl rfl ?_
  refine ws_loopE (fun mx_ ax_ wx_ => ∃ (i : Nat), mx_ = t.a.length - 1 * i ∧ Env 51 [(2, .pointer (some ⟨gb1, 0, none⟩)), (3, .pointer (some ⟨gb2, 0, none⟩)), (4, .pointer (some ⟨gb3, 0, none⟩)), (5, .pointer (some ⟨gb4, 0, none⟩)), (6, .int .i64 (i : Int))] ax_ ∧ SH wx_ M X [Rs.box gb4 61 [.int .i64 x.c, .int .i64 x.a], Rs.box gb3 61 [.int .i64 0, .int .i64 0], Rs.box gb2 61 [.int .i64 s.c, .int .i64 s.a], Rs.box gb1 59 [.slice taA t.a.length tac, .slice tbA t.b.length tbc]] ∧ i ≤ t.a.length ∧ tieF ((zL t).drop i) x = tieF (zL t) x) rfl ?_ ?_
  ·intro ax_ hax_
   refine ⟨_, ⟨0, rfl, hax_.sub ⟨rfl, rfl, rfl, rfl, rfl, trivial⟩, S6.pick [0, 1, 2, 3] [_, _, _, _] (by decide) ⟨rfl, rfl, rfl, rfl, trivial⟩, ?hq2f0, ?hq2f1⟩⟩
   case hq2f0 => exact Nat.zero_le _
   case hq2f1 => rfl
  ·rintro m2 a2 w7 ⟨i, rfl, he2, S7, hi, hdr⟩
   clear S6
   refine ws_in he2 (c := Other_n13) rfl ?_
   clear he2 a2
   refine ws_seqN Other_n14 Other_n15 rfl rfl rfl ?_
   refine ws_seqN Other_n16 Other_n17 rfl rfl rfl ?_
   refine ws_region rfl ?_
   refine wlm 0 1 rfl rfl rfl rfl rfl rfl rfl ?_
   refine wlo 1 2 rfl rfl rfl (wo_run rfl rfl (run_fieldAddr rfl rfl Try.underlying59 rfl (ce57) (nf57)) ?_)
   refine wlo 2 3 rfl rfl rfl (wo_run rfl rfl (run_load1 rfl rfl Try.underlying57 rfl (S7.boxc (i := 3) rfl rfl)) ?_)
   refine wlo 3 4 rfl rfl rfl (wo_run rfl rfl (run_len rfl rfl rfl rfl rfl rfl Try.underlying57) ?_)
   refine wlo 4 5 rfl rfl rfl (wo_run rfl rfl (run_lss rfl rfl rfl) ?_)
   refine wl_end rfl ?_
   refine nm_sub [(2, _), (3, _), (4, _), (5, _), (6, _), (12, _)] ⟨rfl, rfl, rfl, rfl, rfl, rfl, trivial⟩ ?_
   refine nm_thn ?_
   refine ws_condN Other_n18 Other_n19 rfl rfl rfl rfl (fun hb12 => ?_) (fun hb12 => ?_)
   ·replace hb12 := of_decide_eq_true hb12
    have hil : i < t.a.length := by omega
    refine ws_skip rfl ?_
    refine nm_sub [(2, _), (3, _), (4, _), (5, _), (6, _)] ⟨rfl, rfl, rfl, rfl, rfl, trivial⟩ ?_
    refine nm_thn ?_
    refine ws_seqN Other_n20 Other_n21 rfl rfl rfl ?_
    refine ws_blockN Other_n22 3 rfl rfl rfl ?_
    refine ws_seqN Other_n23 Other_n24 rfl rfl rfl ?_
    refine ws_seqN Other_n25 Other_n26 rfl rfl rfl ?_
    refine ws_draw rfl (by kernel_rfl) S7 7 rfl ?_
    clear S7
    refine wa_takeP (i := 0) (d := 15) 6 rfl (by kernel_rfl) (by kernel_rfl) (by kernel_rfl) rfl rfl rfl (fun w8 => run_fieldAddr rfl rfl Try.underlying59 rfl (ce57) (nf57)) ?_
    refine wa_take (i := 1) (d := 16) 5 rfl (by kernel_rfl) (by kernel_rfl) (by kernel_rfl) rfl rfl rfl (fun M2 N2 w9 hle4 S9 => .inl (run_load1 rfl rfl Try.underlying57 rfl (S9.suf.boxc (i := 3) rfl rfl))) ?_
    refine wa_takeP (i := 2) (d := 17) 4 rfl (by kernel_rfl) (by kernel_rfl) (by kernel_rfl) rfl rfl rfl (fun w10 => run_move rfl rfl) ?_
    refine wa_take (i := 3) (d := 18) 3 rfl (by kernel_rfl) (by kernel_rfl) (by kernel_rfl) rfl rfl rfl (fun M4 N4 w11 hle6 S11 => .inl (run_indexM (C := cdSp) i rfl rfl rfl sl57 (by first | rfl | omega) (hta.mono (Hp.un_mono hle6 S11.mx)) (by first | omega | (simp only [lens]; omega)))) ?_
    refine wa_take (i := 4) (d := 19) 2 rfl (by kernel_rfl) (by kernel_rfl) (by kernel_rfl) rfl rfl rfl (fun M5 N5 w12 hle7 S12 => .inl (run_loadN (us := [_, _]) rfl rfl Try.underlying61 rfl sz61 ((hta.mono (Hp.un_mono hle7 S12.mx)).cellsAt S12.um (e := i) (by first | omega | (simp only [lens]; omega)) (j := 0) ⟨rfl, rfl, trivial⟩))) ?_
    refine wa_take (i := 5) (d := 20) 1 rfl (by kernel_rfl) (by kernel_rfl) (by kernel_rfl) rfl rfl rfl (fun M6 N6 w13 hle8 S13 => .inl (run_loadN (us := [_, _]) rfl rfl Try.underlying61 rfl sz61 (S13.suf.boxcs (i := 0) rfl ⟨rfl, rfl, trivial⟩))) ?_
    refine wa_takeP (i := 6) (d := 21) 0 rfl (by kernel_rfl) (by kernel_rfl) (by kernel_rfl) rfl rfl rfl (fun w14 => run_eqSt (Q := ((ga t.a i).c) = x.c ∧ ((ga t.a i).a) = x.a) rfl rfl rfl se61 ⟨_, _, _, _, rfl, rfl, ⟨_, _, _, rfl, rfl, rfl⟩, rfl⟩) ?_
    refine wa_end (by kernel_rfl) (fun w15 S15 => ?_)
    refine nm_sub [(2, _), (3, _), (4, _), (5, _), (6, _), (21, _)] ⟨rfl, rfl, rfl, rfl, rfl, rfl, trivial⟩ ?_
    refine nm_thn ?_
    refine ws_condN Other_n27 Other_n28 rfl rfl rfl rfl (fun hb21 => ?_) (fun hb21 => ?_)
    ·replace hb21 := of_decide_eq_true hb21
     refine ws_seqN Other_n29 Other_n30 rfl rfl rfl ?_
     refine ws_region rfl ?_
     refine wlo 0 1 rfl rfl rfl (wo_run rfl rfl (run_fieldAddr rfl rfl Try.underlying59 rfl (ce57) (nf57)) ?_)
     refine wlo 1 2 rfl rfl rfl (wo_run rfl rfl (run_load1 rfl rfl Try.underlying57 rfl (S15.boxc (i := 3) rfl rfl)) ?_)
     refine wlm 2 3 rfl rfl rfl rfl rfl rfl rfl ?_
     refine wlo 3 4 rfl rfl rfl (wo_run rfl rfl (run_indexM (C := cdSp) i rfl rfl rfl sl57 (by first | rfl | omega) htb (by first | omega | (simp only [lens]; omega))) ?_)
     refine wlo 4 5 rfl rfl rfl (wo_run rfl rfl (run_loadN (us := [_, _]) rfl rfl Try.underlying61 rfl sz61 (htb.cellsAt S15.um (e := i) (by first | omega | (simp only [lens]; omega)) (j := 0) ⟨rfl, rfl, trivial⟩)) ?_)
     refine wlo 5 6 rfl rfl rfl (wo_storeB (i := 0) (us := [_, _]) (l' := [_, _]) (H' := [_, _, _, _]) rfl rfl S15 rfl rfl rfl rfl sz61 rfl rfl rfl rfl ?_)
     intro w16 S16; clear S15
     refine wl_end rfl ?_
     refine nm_sub [(2, _), (3, _), (4, _), (5, _)] ⟨rfl, rfl, rfl, rfl, trivial⟩ ?_
     refine nm_thn ?_
     refine ws_exit rfl rfl ?_
     refine nm_thn ?_
     refine ws_seqN Other_n31 Other_n32 rfl rfl rfl ?_
     refine ws_seqN Other_n33 Other_n34 rfl rfl rfl ?_
     have hX := tieF_a hil hlen hdr (sp_eq.1 hb21)
     obtain ⟨hf1, hf2⟩ := at_found hth hat hX
     refine ws_region rfl ?_
     refine wlo 0 1 rfl rfl rfl (wo_run rfl rfl (run_fieldAddr rfl rfl Try.underlying61 rfl (ce3) (nf3)) ?_)
     refine wlo 1 2 rfl rfl rfl (wo_run rfl rfl (run_load1 rfl rfl Try.underlying3 rfl (S16.boxc (i := 0) rfl rfl)) ?_)
     refine wlo 2 3 rfl rfl rfl (wo_run rfl rfl (run_geq rfl rfl rfl) ?_)
     refine wl_end rfl ?_
     refine nm_sub [(2, _), (3, _), (4, _), (5, _), (41, _)] ⟨rfl, rfl, rfl, rfl, rfl, trivial⟩ ?_
     refine nm_thn ?_
     refine ws_condN Other_n35 Other_n36 rfl rfl rfl rfl (fun hb41 => ?_) (fun hb41 => ?_)
     ·replace hb41 := of_decide_eq_true hb41
      have hy := hf1 (by omega)
      refine ws_seqN Other_n37 Other_n38 rfl rfl rfl ?_
      refine ws_region rfl ?_
      refine wlo 0 1 rfl rfl rfl (wo_run rfl rfl (run_loadN (us := [_, _]) rfl rfl Try.underlying61 rfl sz61 (S16.boxcs (i := 0) rfl ⟨rfl, rfl, trivial⟩)) ?_)
      refine wlo 1 2 rfl rfl rfl (wo_storeB (i := 1) (us := [_, _]) (l' := [_, _]) (H' := [_, _, _, _]) rfl rfl S16 rfl rfl rfl rfl sz61 rfl rfl rfl rfl ?_)
      intro w17 S17; clear S16
      refine wl_end rfl ?_
      refine nm_sub [(4, _)] ⟨rfl, trivial⟩ ?_
      refine nm_thn ?_
      refine ws_ret hC [_] rfl rfl ⟨⟨_, rfl, loadVarN (us := [_, _]) Try.underlying61 rfl sz61 (S17.boxcs (i := 1) rfl ⟨rfl, rfl, trivial⟩)⟩, trivial⟩ ?_
      exact ⟨_, rfl, (S17.pick [] [] (by decide) trivial), (by rw [← hy]; rfl)⟩
     ·replace hb41 := of_decide_eq_false hb41
      obtain ⟨g1, g2, g3, g4, g5⟩ := hf2 (by omega)
      refine ws_skip rfl ?_
      refine nm_sub [(2, _), (3, _), (4, _), (5, _)] ⟨rfl, rfl, rfl, rfl, trivial⟩ ?_
      refine nm_thn ?_
      refine ws_seqN Other_n39 Other_n40 rfl rfl rfl ?_
      refine ws_region rfl ?_
      refine wlo 0 1 rfl rfl rfl (wo_run rfl rfl (run_fieldAddr rfl rfl Try.underlying61 rfl (ce3) (nf3)) ?_)
      refine wlo 1 2 rfl rfl rfl (wo_run rfl rfl (run_load1 rfl rfl Try.underlying3 rfl (S16.boxc (i := 0) rfl rfl)) ?_)
      refine wlo 2 3 rfl rfl rfl (wo_run rfl rfl (run_flp rfl rfl rfl (by constructor <;> first | assumption | omega)) ?_)
      refine wlo 3 4 rfl rfl rfl (wo_run rfl rfl (run_fieldAddr rfl rfl Try.underlying61 rfl (ce3) (nf3)) ?_)
      refine wlo 4 5 rfl rfl rfl (wo_storeB (i := 0) (us := [_]) (l' := [_, _]) (H' := [_, _, _, _]) rfl rfl S16 rfl rfl rfl rfl sz3 rfl rfl rfl rfl ?_)
      intro w18 S18; clear S16
      refine wl_end rfl ?_
      refine nm_sub [(2, _), (3, _), (4, _), (5, _)] ⟨rfl, rfl, rfl, rfl, trivial⟩ ?_
      refine nm_thn ?_
      refine ws_seqN Other_n41 Other_n42 rfl rfl rfl ?_
      refine ws_region rfl ?_
      refine wlo 0 1 rfl rfl rfl (wo_run rfl rfl (run_loadN (us := [_, _]) rfl rfl Try.underlying61 rfl sz61 (S18.boxcs (i := 0) rfl ⟨rfl, rfl, trivial⟩)) ?_)
      refine wlo 1 2 rfl rfl rfl (wo_run rfl rfl (run_loadN (us := [_, _]) rfl rfl Try.underlying61 rfl sz61 (S18.boxcs (i := 2) rfl ⟨rfl, rfl, trivial⟩)) ?_)
      refine wlo 2 3 rfl rfl rfl (wo_run rfl rfl (run_eqSt (Q := ((ga t.b i).c) = s.c ∧ (flp ((ga t.b i).a)) = s.a) rfl rfl rfl se61 ⟨_, _, _, _, rfl, rfl, ⟨_, _, _, rfl, rfl, rfl⟩, rfl⟩) ?_)
      refine wl_end rfl ?_
      refine nm_sub [(2, _), (3, _), (4, _), (5, _), (49, _)] ⟨rfl, rfl, rfl, rfl, rfl, trivial⟩ ?_
      refine nm_thn ?_
      refine ws_condN Other_n43 Other_n44 rfl rfl rfl rfl (fun hb49 => ?_) (fun hb49 => ?_)
      ·replace hb49 := of_decide_eq_true hb49
       exfalso; omega
      ·replace hb49 := of_decide_eq_false hb49
       refine ws_skip rfl ?_
       refine nm_blk ?_
       refine nm_lp ?_
       intro ax_ hax_
       refine ⟨_, ?hq3m, ⟨1, ⟨(ga t.b i).c, flp (ga t.b i).a⟩, rfl, hax_.sub ⟨rfl, rfl, rfl, rfl, trivial⟩, S18.pick [0, 1, 2, 3] [_, _, _, _] (by decide) ⟨rfl, rfl, rfl, rfl, trivial⟩, ?hq3f0, ?hq3f1⟩⟩
       case hq3f0 => (refine .inr ⟨rfl, ?_⟩; obtain ⟨g1, g2, g3, g4, g5⟩ := hf2 (by omega); rw [g2]; exact g5)
       case hq3f1 => omega
       case hq3m => (obtain ⟨g1, _⟩ := hf2 (by omega); omega)
    ·replace hb21 := of_decide_eq_false hb21
     refine ws_skip rfl ?_
     refine nm_sub [(2, _), (3, _), (4, _), (5, _), (6, _)] ⟨rfl, rfl, rfl, rfl, rfl, trivial⟩ ?_
     refine nm_thn ?_
     refine ws_seqN Other_n45 Other_n46 rfl rfl rfl ?_
     refine ws_draw rfl (by kernel_rfl) S15 7 rfl ?_
     clear S15
     refine wa_takeP (i := 0) (d := 27) 6 rfl (by kernel_rfl) (by kernel_rfl) (by kernel_rfl) rfl rfl rfl (fun w19 => run_fieldAddr rfl rfl Try.underlying59 rfl (ce57) (nf57)) ?_
     refine wa_take (i := 1) (d := 28) 5 rfl (by kernel_rfl) (by kernel_rfl) (by kernel_rfl) rfl rfl rfl (fun M9 N9 w20 hle11 S20 => .inl (run_load1 rfl rfl Try.underlying57 rfl (S20.suf.boxc (i := 3) rfl rfl))) ?_
     refine wa_takeP (i := 2) (d := 29) 4 rfl (by kernel_rfl) (by kernel_rfl) (by kernel_rfl) rfl rfl rfl (fun w21 => run_move rfl rfl) ?_
     refine wa_take (i := 3) (d := 30) 3 rfl (by kernel_rfl) (by kernel_rfl) (by kernel_rfl) rfl rfl rfl (fun M11 N11 w22 hle13 S22 => .inl (run_indexM (C := cdSp) i rfl rfl rfl sl57 (by first | rfl | omega) (htb.mono (Hp.un_mono hle13 S22.mx)) (by first | omega | (simp only [lens]; omega)))) ?_
     refine wa_take (i := 4) (d := 31) 2 rfl (by kernel_rfl) (by kernel_rfl) (by kernel_rfl) rfl rfl rfl (fun M12 N12 w23 hle14 S23 => .inl (run_loadN (us := [_, _]) rfl rfl Try.underlying61 rfl sz61 ((htb.mono (Hp.un_mono hle14 S23.mx)).cellsAt S23.um (e := i) (by first | omega | (simp only [lens]; omega)) (j := 0) ⟨rfl, rfl, trivial⟩))) ?_
     refine wa_take (i := 5) (d := 32) 1 rfl (by kernel_rfl) (by kernel_rfl) (by kernel_rfl) rfl rfl rfl (fun M13 N13 w24 hle15 S24 => .inl (run_loadN (us := [_, _]) rfl rfl Try.underlying61 rfl sz61 (S24.suf.boxcs (i := 0) rfl ⟨rfl, rfl, trivial⟩))) ?_
     refine wa_takeP (i := 6) (d := 33) 0 rfl (by kernel_rfl) (by kernel_rfl) (by kernel_rfl) rfl rfl rfl (fun w25 => run_eqSt (Q := ((ga t.b i).c) = x.c ∧ ((ga t.b i).a) = x.a) rfl rfl rfl se61 ⟨_, _, _, _, rfl, rfl, ⟨_, _, _, rfl, rfl, rfl⟩, rfl⟩) ?_
     refine wa_end (by kernel_rfl) (fun w26 S26 => ?_)
     refine nm_sub [(2, _), (3, _), (4, _), (5, _), (6, _), (33, _)] ⟨rfl, rfl, rfl, rfl, rfl, rfl, trivial⟩ ?_
     refine nm_thn ?_
     refine ws_condN Other_n47 Other_n48 rfl rfl rfl rfl (fun hb33 => ?_) (fun hb33 => ?_)
     ·replace hb33 := of_decide_eq_true hb33
      refine ws_seqN Other_n49 Other_n50 rfl rfl rfl ?_
      refine ws_region rfl ?_
      refine wlo 0 1 rfl rfl rfl (wo_run rfl rfl (run_fieldAddr rfl rfl Try.underlying59 rfl (ce57) (nf57)) ?_)
      refine wlo 1 2 rfl rfl rfl (wo_run rfl rfl (run_load1 rfl rfl Try.underlying57 rfl (S26.boxc (i := 3) rfl rfl)) ?_)
      refine wlm 2 3 rfl rfl rfl rfl rfl rfl rfl ?_
      refine wlo 3 4 rfl rfl rfl (wo_run rfl rfl (run_indexM (C := cdSp) i rfl rfl rfl sl57 (by first | rfl | omega) hta (by first | omega | (simp only [lens]; omega))) ?_)
      refine wlo 4 5 rfl rfl rfl (wo_run rfl rfl (run_loadN (us := [_, _]) rfl rfl Try.underlying61 rfl sz61 (hta.cellsAt S26.um (e := i) (by first | omega | (simp only [lens]; omega)) (j := 0) ⟨rfl, rfl, trivial⟩)) ?_)
      refine wlo 5 6 rfl rfl rfl (wo_storeB (i := 0) (us := [_, _]) (l' := [_, _]) (H' := [_, _, _, _]) rfl rfl S26 rfl rfl rfl rfl sz61 rfl rfl rfl rfl ?_)
      intro w27 S27; clear S26
      refine wl_end rfl ?_
      refine nm_sub [(2, _), (3, _), (4, _), (5, _)] ⟨rfl, rfl, rfl, rfl, trivial⟩ ?_
      refine nm_thn ?_
      refine ws_exit rfl rfl ?_
      refine nm_thn ?_
      refine ws_seqN Other_n31 Other_n32 rfl rfl rfl ?_
      refine ws_seqN Other_n33 Other_n34 rfl rfl rfl ?_
      have hX := tieF_b hil hlen hdr (fun e => hb21 (sp_eq.2 e)) (sp_eq.1 hb33)
      obtain ⟨hf1, hf2⟩ := at_found hth hat hX
      refine ws_region rfl ?_
      refine wlo 0 1 rfl rfl rfl (wo_run rfl rfl (run_fieldAddr rfl rfl Try.underlying61 rfl (ce3) (nf3)) ?_)
      refine wlo 1 2 rfl rfl rfl (wo_run rfl rfl (run_load1 rfl rfl Try.underlying3 rfl (S27.boxc (i := 0) rfl rfl)) ?_)
      refine wlo 2 3 rfl rfl rfl (wo_run rfl rfl (run_geq rfl rfl rfl) ?_)
      refine wl_end rfl ?_
      refine nm_sub [(2, _), (3, _), (4, _), (5, _), (41, _)] ⟨rfl, rfl, rfl, rfl, rfl, trivial⟩ ?_
      refine nm_thn ?_
      refine ws_condN Other_n35 Other_n36 rfl rfl rfl rfl (fun hb41 => ?_) (fun hb41 => ?_)
      ·replace hb41 := of_decide_eq_true hb41
       have hy := hf1 (by omega)
       refine ws_seqN Other_n37 Other_n38 rfl rfl rfl ?_
       refine ws_region rfl ?_
       refine wlo 0 1 rfl rfl rfl (wo_run rfl rfl (run_loadN (us := [_, _]) rfl rfl Try.underlying61 rfl sz61 (S27.boxcs (i := 0) rfl ⟨rfl, rfl, trivial⟩)) ?_)
       refine wlo 1 2 rfl rfl rfl (wo_storeB (i := 1) (us := [_, _]) (l' := [_, _]) (H' := [_, _, _, _]) rfl rfl S27 rfl rfl rfl rfl sz61 rfl rfl rfl rfl ?_)
       intro w28 S28; clear S27
       refine wl_end rfl ?_
       refine nm_sub [(4, _)] ⟨rfl, trivial⟩ ?_
       refine nm_thn ?_
       refine ws_ret hC [_] rfl rfl ⟨⟨_, rfl, loadVarN (us := [_, _]) Try.underlying61 rfl sz61 (S28.boxcs (i := 1) rfl ⟨rfl, rfl, trivial⟩)⟩, trivial⟩ ?_
       exact ⟨_, rfl, (S28.pick [] [] (by decide) trivial), (by rw [← hy]; rfl)⟩
      ·replace hb41 := of_decide_eq_false hb41
       obtain ⟨g1, g2, g3, g4, g5⟩ := hf2 (by omega)
       refine ws_skip rfl ?_
       refine nm_sub [(2, _), (3, _), (4, _), (5, _)] ⟨rfl, rfl, rfl, rfl, trivial⟩ ?_
       refine nm_thn ?_
       refine ws_seqN Other_n39 Other_n40 rfl rfl rfl ?_
       refine ws_region rfl ?_
       refine wlo 0 1 rfl rfl rfl (wo_run rfl rfl (run_fieldAddr rfl rfl Try.underlying61 rfl (ce3) (nf3)) ?_)
       refine wlo 1 2 rfl rfl rfl (wo_run rfl rfl (run_load1 rfl rfl Try.underlying3 rfl (S27.boxc (i := 0) rfl rfl)) ?_)
       refine wlo 2 3 rfl rfl rfl (wo_run rfl rfl (run_flp rfl rfl rfl (by constructor <;> first | assumption | omega)) ?_)
       refine wlo 3 4 rfl rfl rfl (wo_run rfl rfl (run_fieldAddr rfl rfl Try.underlying61 rfl (ce3) (nf3)) ?_)
       refine wlo 4 5 rfl rfl rfl (wo_storeB (i := 0) (us := [_]) (l' := [_, _]) (H' := [_, _, _, _]) rfl rfl S27 rfl rfl rfl rfl sz3 rfl rfl rfl rfl ?_)
       intro w29 S29; clear S27
       refine wl_end rfl ?_
       refine nm_sub [(2, _), (3, _), (4, _), (5, _)] ⟨rfl, rfl, rfl, rfl, trivial⟩ ?_
       refine nm_thn ?_
       refine ws_seqN Other_n41 Other_n42 rfl rfl rfl ?_
       refine ws_region rfl ?_
       refine wlo 0 1 rfl rfl rfl (wo_run rfl rfl (run_loadN (us := [_, _]) rfl rfl Try.underlying61 rfl sz61 (S29.boxcs (i := 0) rfl ⟨rfl, rfl, trivial⟩)) ?_)
       refine wlo 1 2 rfl rfl rfl (wo_run rfl rfl (run_loadN (us := [_, _]) rfl rfl Try.underlying61 rfl sz61 (S29.boxcs (i := 2) rfl ⟨rfl, rfl, trivial⟩)) ?_)
       refine wlo 2 3 rfl rfl rfl (wo_run rfl rfl (run_eqSt (Q := ((ga t.a i).c) = s.c ∧ (flp ((ga t.a i).a)) = s.a) rfl rfl rfl se61 ⟨_, _, _, _, rfl, rfl, ⟨_, _, _, rfl, rfl, rfl⟩, rfl⟩) ?_)
       refine wl_end rfl ?_
       refine nm_sub [(2, _), (3, _), (4, _), (5, _), (49, _)] ⟨rfl, rfl, rfl, rfl, rfl, trivial⟩ ?_
       refine nm_thn ?_
       refine ws_condN Other_n43 Other_n44 rfl rfl rfl rfl (fun hb49 => ?_) (fun hb49 => ?_)
       ·replace hb49 := of_decide_eq_true hb49
        exfalso; omega
       ·replace hb49 := of_decide_eq_false hb49
        refine ws_skip rfl ?_
        refine nm_blk ?_
        refine nm_lp ?_
        intro ax_ hax_
        refine ⟨_, ?hq4m, ⟨1, ⟨(ga t.a i).c, flp (ga t.a i).a⟩, rfl, hax_.sub ⟨rfl, rfl, rfl, rfl, trivial⟩, S29.pick [0, 1, 2, 3] [_, _, _, _] (by decide) ⟨rfl, rfl, rfl, rfl, trivial⟩, ?hq4f0, ?hq4f1⟩⟩
        case hq4f0 => (refine .inr ⟨rfl, ?_⟩; obtain ⟨g1, g2, g3, g4, g5⟩ := hf2 (by omega); rw [g2]; exact g5)
        case hq4f1 => omega
        case hq4m => (obtain ⟨g1, _⟩ := hf2 (by omega); omega)
     ·replace hb33 := of_decide_eq_false hb33
      refine ws_skip rfl ?_
      refine nm_blk ?_
      refine nm_sub [(2, _), (3, _), (4, _), (5, _), (6, _)] ⟨rfl, rfl, rfl, rfl, rfl, trivial⟩ ?_
      refine nm_thn ?_
      refine ws_region rfl ?_
      refine wlm 0 1 rfl rfl rfl rfl rfl rfl rfl ?_
      refine wlo 1 2 rfl rfl rfl (wo_run rfl rfl (run_add rfl rfl rfl (by first | omega | (simp only [lens]; omega))) ?_)
      refine wla 2 3 rfl rfl rfl rfl rfl rfl rfl ?_
      refine wl_end rfl ?_
      refine nm_lp ?_
      intro ax_ hax_
      refine ⟨_, ?hq5m, ⟨i + 1, rfl, hax_.sub ⟨rfl, rfl, rfl, rfl, rfl, trivial⟩, S26.pick [0, 1, 2, 3] [_, _, _, _] (by decide) ⟨rfl, rfl, rfl, rfl, trivial⟩, ?hq5f0, ?hq5f1⟩⟩
      case hq5f0 => omega
      case hq5f1 => exact tieF_n hil hlen hdr (fun e => hb21 (sp_eq.2 e)) (fun e => hb33 (sp_eq.2 e))
      case hq5m => omega
   ·replace hb12 := of_decide_eq_false hb12
    exfalso; obtain ⟨y, hy⟩ := hsome; rw [tieF_z (by omega) hdr] at hy; cases hy
end Go.Proofs.Ytkgofmloleicgaa
