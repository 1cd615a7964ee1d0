/- Fractions of lists of twists: the walks. -/
import Derived.Test.YtkgofmloleicgaaFrac0
namespace Go.Proofs.Ytkgofmloleicgaa
open Go.ChangeShapes Go.WideShapes Go.ChangeAt Go.RowKit

theorem gcd_tmod (x y : Int) : Int.gcd y (x.tmod y) = Int.gcd x y := by
  have h : x.tmod y = x - y * (x.tdiv y) := Int.tmod_def x y
  rw [h, Int.gcd_comm x y, Int.sub_eq_add_neg, ← Int.mul_neg, Int.gcd_add_mul_left_right]

set_option maxHeartbeats 400000 in
theorem gcd_one (a b : Int) (w : World) (h0 : -4000000 ≤ a) (h1 : a ≤ 4000000) (h2 : -4000000 ≤ b) (h3 : b ≤ 4000000) (h : Int.gcd a b = 1) :
    Calls Try.prog 32 #[.int .i64 a, .int .i64 b] w fun e w' => e = .returned (.int .i64 1) ∧ Kp w w' := by
  have H := Lib.hid h
  clear h
  go_enter Try.func32, Try.ntmps32
  go_wp2
  go_loopw [0, 1] (fun u v wr => ∃ x y : Int, -4000000 ≤ x ∧ x ≤ 4000000 ∧ -4000000 ≤ y ∧ y ≤ 4000000 ∧ u = .int .i64 x ∧ v = .int .i64 y ∧ Hid (Int.gcd x y = 1) ∧ Kp w wr) (fun _ v _ => (intOf v).natAbs)
  case atStart => exact ⟨a, b, h0, h1, h2, h3, rfl, rfl, H.out, Kp.refl _⟩
  case round =>
    obtain ⟨x, y, hx0, hx1, hy0, hy1, rfl, rfl, hg, hb⟩ := hrel
    by_cases hy0 : y = 0
    · subst hy0
      have hg' := hg.out
      rw [Int.gcd_zero_right] at hg'
      have hc : x = 1 ∨ x = -1 := by omega
      clear hg'
      rcases hc with rfl | rfl
      · go_wp2
        go_ret
        exact ⟨rfl, hb⟩
      · go_wp2
        go_ret
        exact ⟨rfl, hb⟩
    · have m1 : (x.tmod y).natAbs < y.natAbs := by rw [Int.natAbs_tmod]; exact Nat.mod_lt _ (by omega)
      have e1 : ((y != 0) : Bool) = true := by rw [bne_iff_ne]; exact hy0
      go_wp2
      go_quiet (fail)
      go_wp2
      go_roundw
      case rel => exact ⟨y, x.tmod y, by omega, by omega, by omega, by omega, rfl, rfl, by rw [Hid, gcd_tmod]; exact hg.out, hb.drewN _⟩
      case measure => exact m1

def Two64Post (x : Int × Int) (w : World) (e : Ending) (w' : World) : Prop := e = .returned (.tuple #[.int .i64 x.1, .int .i64 x.2]) ∧ Kp w w'

set_option maxHeartbeats 1000000 in
theorem lowest_of (a b : Int) (w : World) (h0 : -4000000 ≤ a) (h1 : a ≤ 4000000) (h2 : -4000000 ≤ b) (h3 : b ≤ 4000000) (h : Int.gcd a b = 1) :
    Calls Try.prog 24 #[.int .i64 a, .int .i64 b] w (Two64Post (nrm (a, b)) w) := by
  rcases nrm_cases (a, b) h with ⟨hb, e, _⟩ | ⟨hb, e⟩ | ⟨hb, e⟩ <;> rw [e] <;> clear e <;> dsimp only at hb <;> have H := Lib.hid h <;> clear h
  · subst hb
    go_enter Try.func24, Try.ntmps24
    go_wp2_with fail
    go_ret2
    exact ⟨rfl, Kp.refl _⟩
  · have e1 : ((b == 0) : Bool) = false := by rw [beq_eq_false_iff_ne]; omega
    go_enter Try.func24, Try.ntmps24
    go_wp2_with (go_at_call 32; refine (gcd_one _ _ _ h0 h1 h2 h3 H.out).mono ?_; rintro e w' ⟨rfl, hk⟩)
    go_quiet (fail)
    go_wp2_with fail
    go_ret2
    exact ⟨by simp, by exact Kp.drewN (by assumption) _⟩
  · have e1 : ((b == 0) : Bool) = false := by rw [beq_eq_false_iff_ne]; omega
    go_enter Try.func24, Try.ntmps24
    go_wp2_with (go_at_call 32; refine (gcd_one _ _ _ h0 h1 h2 h3 H.out).mono ?_; rintro e w' ⟨rfl, hk⟩)
    go_quiet (fail)
    go_wp2_with fail
    go_ret2
    exact ⟨by simp, by exact Kp.drewN (by assumption) _⟩

def ErrPost (n : Int) (w : World) (e : Ending) (w' : World) : Prop := e = .returned (.int .i64 n) ∧ Kp w w'

theorem okA_yes {a : Int} (h : okA a = true) : -16 ≤ a ∧ a ≤ 16 := by unfold okA at h; rwa [decide_eq_true_iff] at h
theorem okA_no {a : Int} (h : okA a = false) : a < -16 ∨ 16 < a := by unfold okA at h; rw [decide_eq_false_iff_not] at h; omega

set_option maxHeartbeats 1000000 in
theorem check_any (v : Value) (l : List Int) (w : World) (hi : Ints w w.heap.size v l) :
    Calls Try.prog 23 #[v] w (ErrPost (chkL l) w) := by
  obtain ⟨A, c, rfl, hc, ha⟩ := hi
  have hr := ha.room
  go_enter Try.func23, Try.ntmps23
  go_wp2_with fail
  go_loop [3, 8] (fun s i => ∃ k : Nat, k ≤ l.length ∧ i = .int .i64 k ∧ s = .int .i64 (sumA (l.take k)) ∧ Hid ((l.take k).all okA = true)) (fun _ i => l.length - (intOf i).toNat)
  case atStart => exact ⟨0, Nat.zero_le _, rfl, rfl, rfl⟩
  case round =>
    obtain ⟨k, hk, rfl, rfl, hall⟩ := hrel
    have hsum := sumA_le _ hall.out
    rw [List.length_take] at hsum
    by_cases hlt : k < l.length
    · obtain ⟨b, off, rfl, hb1, hc1⟩ := ha.at_ hlt
      have hst := Lib.hid (sumA_take l k hlt)
      clear ha
      cases hok : okA (gi l k)
      · have h3 := Lib.hid (chk_bad (not_all l k hlt hok))
        have hbd := okA_no hok
        clear hok
        generalize gi l k = a at *
        rcases hbd with hbd | hbd
        · go_wp2_with fail
          go_ret
          exact ⟨by rw [h3.out]; rfl, Kp.refl _⟩
        · go_wp2_with fail
          go_ret
          exact ⟨by rw [h3.out]; rfl, Kp.refl _⟩
      · have hal := Lib.hid (all_snoc l k hlt hall.out hok)
        have hbd := okA_yes hok
        clear hok
        generalize gi l k = a at *
        go_wp2_with fail
        go_round
        case rel => exact ⟨k + 1, by omega, by go_num, by rw [hst.out]; exact congrArg (Value.int .i64) (by split <;> omega), hal.out⟩
        case measure => simp [intOf] <;> omega
    · obtain rfl : k = l.length := by omega
      have hall' := hall.out
      rw [List.take_length] at *
      have hco := Lib.hid (chk_ok hall')
      clear hall' hall
      by_cases hpar : l.length % 2 = 0
      · have e1 : (((((l.length : Nat) : Int) % 2) == 0) : Bool) = true := by rw [beq_iff_eq]; omega
        have hco' : Hid (chkL l = 2) := by rw [Hid, hco.out, if_pos (.inl hpar)]
        clear hpar
        go_wp2_with fail
        go_ret
        exact ⟨by rw [hco'.out]; rfl, Kp.refl _⟩
      · have e1 : (((((l.length : Nat) : Int) % 2) == 0) : Bool) = false := by rw [beq_eq_false_iff_ne]; omega
        by_cases hbig : 16 < sumA l
        · have hco' : Hid (chkL l = 2) := by rw [Hid, hco.out, if_pos (.inr hbig)]
          clear hpar
          go_wp2_with fail
          go_ret
          exact ⟨by rw [hco'.out]; rfl, Kp.refl _⟩
        · have hco' : Hid (chkL l = 0) := by rw [Hid, hco.out, if_neg (by omega)]
          clear hpar
          go_wp2_with fail
          go_ret
          exact ⟨by rw [hco'.out]; rfl, Kp.refl _⟩

set_option maxHeartbeats 400000 in
theorem abs_any (a : Int) (w : World) (h0 : -9000000000 ≤ a) (h1 : a ≤ 9000000000) :
    Calls Try.prog 25 #[.int .i64 a] w (ErrPost (a.natAbs : Int) w) := by
  by_cases h : a < 0
  · go_enter Try.func25, Try.ntmps25
    go_wp2_with fail
    go_ret
    exact ⟨ret_int (by omega), Kp.refl _⟩
  · go_enter Try.func25, Try.ntmps25
    go_wp2_with fail
    go_ret
    exact ⟨ret_int (by omega), Kp.refl _⟩

set_option maxHeartbeats 1000000 in
theorem listMay_any (v : Value) (l : List Int) (w : World) (hi : Ints w w.heap.size v l) :
    Calls Try.prog 15 #[v] w (ErrPost (chkL l) w) := by
  obtain ⟨A, c, rfl, hc, ha⟩ := hi
  have hr := ha.room
  go_enter Try.func15, Try.ntmps15
  go_wp2_with fail
  go_loopw [3, 4] (fun s i wr => ∃ k : Nat, k ≤ l.length ∧ i = .int .i64 k ∧ s = .int .i64 (sumA (l.take k)) ∧ Hid ((l.take k).all okA = true) ∧ Kp w wr) (fun _ i _ => l.length - (intOf i).toNat)
  case atStart => exact ⟨0, Nat.zero_le _, rfl, rfl, rfl, Kp.refl _⟩
  case round =>
    obtain ⟨k, hk, rfl, rfl, hall, hkp⟩ := hrel
    have hsum := sumA_le _ hall.out
    rw [List.length_take] at hsum
    by_cases hlt : k < l.length
    · obtain ⟨b, off, rfl, hb1, hc1⟩ := (ha.below hkp.below).at_ hlt
      have hst := Lib.hid (sumA_take l k hlt)
      clear ha
      cases hok : okA (gi l k)
      · have h3 := Lib.hid (chk_bad (not_all l k hlt hok))
        have hbd := okA_no hok
        clear hok
        generalize gi l k = a at *
        rcases hbd with hbd | hbd
        · go_wp2_with fail
          go_ret
          exact ⟨by rw [h3.out]; rfl, hkp⟩
        · go_wp2_with fail
          go_ret
          exact ⟨by rw [h3.out]; rfl, hkp⟩
      · have hal := Lib.hid (all_snoc l k hlt hall.out hok)
        have hbd := okA_yes hok
        clear hok
        generalize gi l k = a at *
        go_wp2_with (go_at_call 25; refine (abs_any _ _ (by omega) (by omega)).mono ?_; rintro e w' ⟨rfl, hk2⟩)
        go_roundw
        case rel => exact ⟨k + 1, by omega, by go_num, by rw [hst.out]; go_num, hal.out, hkp.trans (by assumption)⟩
        case measure => simp [intOf] <;> omega
    · obtain rfl : k = l.length := by omega
      have hall' := hall.out
      rw [List.take_length] at *
      have hco := Lib.hid (chk_ok hall')
      clear hall' hall
      by_cases hpar : l.length % 2 = 0
      · have e1 : (((((l.length : Nat) : Int) % 2) == 0) : Bool) = true := by rw [beq_iff_eq]; omega
        have hco' : Hid (chkL l = 2) := by rw [Hid, hco.out, if_pos (.inl hpar)]
        clear hpar
        go_wp2_with fail
        go_ret
        exact ⟨by rw [hco'.out]; rfl, hkp⟩
      · have e1 : (((((l.length : Nat) : Int) % 2) == 0) : Bool) = false := by rw [beq_eq_false_iff_ne]; omega
        by_cases hbig : 16 < sumA l
        · have hco' : Hid (chkL l = 2) := by rw [Hid, hco.out, if_pos (.inr hbig)]
          clear hpar
          go_wp2_with fail
          go_ret
          exact ⟨by rw [hco'.out]; rfl, hkp⟩
        · have hco' : Hid (chkL l = 0) := by rw [Hid, hco.out, if_neg (by omega)]
          clear hpar
          go_wp2_with fail
          go_ret
          exact ⟨by rw [hco'.out]; rfl, hkp⟩

theorem results_tmp3' {fn : Func} {t u v : Tmp} (h : fn.results = #[.tmp t, .tmp u, .tmp v]) (tmps : Array Value) (P : Program) (w : World) :
    (results fn tmps).run P w = .ok (.tuple #[tmps.getD t undef, tmps.getD u undef, tmps.getD v undef]) w := by simp [results, h]

def FracPost (x : Int × Int) (n : Int) (w : World) (e : Ending) (w' : World) : Prop := e = .returned (.tuple #[.int .i64 x.1, .int .i64 x.2, .int .i64 n]) ∧ Kp w w'

theorem chk_zero {l : List Int} (h : chkL l = 0) : l.all okA = true ∧ l.length % 2 = 1 ∧ sumA l ≤ 16 := by
  cases ha : l.all okA
  · rw [chk_bad ha] at h; omega
  · rw [chk_ok ha] at h
    split at h
    · omega
    · exact ⟨rfl, by omega, by omega⟩

set_option maxHeartbeats 1000000 in
theorem fraction_no (v : Value) (l : List Int) (w : World) (hi : Ints w w.heap.size v l) (h : chkL l ≠ 0) :
    Calls Try.prog 13 #[v] w (FracPost (0, 0) (chkL l) w) := by
  have hch := Lib.hid (fun w' (h' : Ints w' w'.heap.size v l) => check_any v l w' h')
  generalize chkL l = n at *
  have e1 : ((n != 0) : Bool) = true := by rw [bne_iff_ne]; exact h
  clear h
  go_enter Try.func13, Try.ntmps13
  go_wp2_with fail
  refine (hch.out _ hi).mono ?_; rintro e w1 ⟨rfl, hk⟩
  go_wp2_with fail
  refine bodyPost_ret (results_tmp3' rfl _ _ _) rfl ?_
  exact ⟨rfl, hk⟩

set_option maxHeartbeats 2000000 in
theorem fraction_yes (v : Value) (l : List Int) (w : World) (hi : Ints w w.heap.size v l) (h : chkL l = 0) :
    Calls Try.prog 13 #[v] w (FracPost (nrm (rf l)) 0 w) := by
  have hch := Lib.hid (fun w' (h' : Ints w' w'.heap.size v l) => check_any v l w' h')
  rw [h] at hch
  obtain ⟨hall, hpar, hsum⟩ := chk_zero h
  have hall' := Lib.hid hall
  clear h hpar hall
  obtain ⟨A, c, rfl, hc, ha⟩ := hi
  have hr := ha.room
  go_enter Try.func13, Try.ntmps13
  go_wp2_with fail
  refine (hch.out _ ⟨A, c, rfl, hc, ha⟩).mono ?_; rintro e w1 ⟨rfl, hk⟩
  go_wp2_with fail
  go_loopw [2, 3, 15] (fun p q i wr => ∃ (k : Nat), k ≤ l.length ∧ i = .int .i64 k ∧ p = .int .i64 (nrm (rf (l.take k))).1 ∧ q = .int .i64 (nrm (rf (l.take k))).2 ∧ Kp w wr) (fun _ _ i _ => l.length - (intOf i).toNat)
  case atStart => exact ⟨0, Nat.zero_le _, rfl, rfl, rfl, hk⟩
  case round =>
    obtain ⟨k, hk, rfl, rfl, rfl, hkp⟩ := hrel
    by_cases hlt : k < l.length
    · obtain ⟨b, off, rfl, hb1, hc1⟩ := (ha.below hkp.below).at_ hlt
      have hg := rf_gcd (l.take k)
      have hsm := rf_small l k hsum
      have hs1 := nrm_size _ 65536 (by omega) hg ⟨hsm.1, hsm.2.1⟩ hsm.2.2
      have hg1 := nrm_gcd _ hg
      have hst := nrm_step (rf (l.take k)) (gi l k) hg
      have hal := List.all_eq_true.1 hall'.out (gi l k) (by rw [gi_eq hlt]; exact List.getElem_mem hlt)
      have hab := okA_yes hal
      rw [← rf_take l k hlt] at hst
      clear hsm hal hg ha
      generalize rf (l.take k) = x at *
      generalize hx : nrm x = y at *
      clear hx
      obtain ⟨y1, y2⟩ := y
      dsimp only at hg1 hs1 hst ⊢
      obtain ⟨s1, s2, s3, s4⟩ := hs1
      have hg2 : Int.gcd y2 y1 = 1 := by rw [Int.gcd_comm]; exact hg1
      have HL := Lib.hid (fun w' => lowest_of y2 y1 w' (by omega) (by omega) (by omega) (by omega) hg2)
      have hs2 := nrm_size (y2, y1) 65536 (by omega) hg2 (by dsimp only; omega) (by dsimp only; omega)
      have hg3 := nrm_gcd (y2, y1) hg2
      generalize hz : nrm (y2, y1) = z at *
      clear hz
      obtain ⟨z1, z2⟩ := z
      dsimp only at hg3 hs2 hst
      obtain ⟨t1, t2, t3, t4⟩ := hs2
      generalize gi l k = a at *
      obtain ⟨a1, a2⟩ := hab
      have hg1' := Lib.hid hg1
      have hg2' := Lib.hid hg2
      clear hg1 hg2
      by_cases hz0 : z2 = 0
      · subst hz0
        rw [if_pos rfl] at hst
        have hst' := Lib.hid hst
        have hg3' := Lib.hid hg3
        clear hst hg3
        go_wp2_with fail
        refine (HL.out _).mono ?_; rintro e w2 ⟨rfl, hk2⟩
        go_wp2_with fail
        go_roundw
        case rel => exact ⟨k + 1, by omega, by go_num, by rw [← hst'.out], by rw [← hst'.out], hkp.trans hk2⟩
        case measure => simp [intOf] <;> omega
      · rw [if_neg hz0] at hst
        have e1 : ((z2 != 0) : Bool) = true := by rw [bne_iff_ne]; exact hz0
        have hm : (a * z2).natAbs ≤ 16 * 65536 := by
          rw [Int.natAbs_mul]
          exact Nat.mul_le_mul (by omega) (by omega)
        have hg4 : Int.gcd (z1 + a * z2) z2 = 1 := by rw [Int.gcd_comm, Int.mul_comm, Int.gcd_add_mul_left_right, Int.gcd_comm]; exact hg3
        have hp0 : -1048576 ≤ a * z2 := by omega
        have hp1 : a * z2 ≤ 1048576 := by omega
        have HM := Lib.hid (fun w' => lowest_of (z1 + a * z2) z2 w' (by omega) (by omega) (by omega) (by omega) hg4)
        have hst' := Lib.hid hst
        have hg3' := Lib.hid hg3
        have hz0' := Lib.hid hz0
        clear hst hg3 hg4 hm hz0
        go_wp2_with fail
        refine (HL.out _).mono ?_; rintro e w2 ⟨rfl, hk2⟩
        go_wp2_with fail
        refine (HM.out _).mono ?_; rintro e w3 ⟨rfl, hk3⟩
        rw [hst'.out]
        go_wp2_with fail
        go_roundw
        case rel => exact ⟨k + 1, by omega, by go_num, rfl, rfl, (hkp.trans hk2).trans hk3⟩
        case measure => simp [intOf] <;> omega
    · obtain rfl : k = l.length := by omega
      rw [List.take_length] at *
      generalize nrm (rf l) = y at *
      go_wp2_with fail
      refine bodyPost_ret (results_tmp3' rfl _ _ _) rfl ?_
      exact ⟨rfl, hkp⟩

theorem rf_one (l : List Int) (h : 0 < l.length) : rf (l.take 1) = (gi l 0, 1) := by
  rw [rf_take l 0 h]; simp [rf]

set_option maxHeartbeats 2000000 in
theorem fractionRef (v : Value) (l : List Int) (w : World) (hi : Ints w w.heap.size v l) (h : chkL l = 0) :
    Calls Try.prog 16 #[v] w (Two64Post (nrm (rf l)) w) := by
  obtain ⟨hall, hpar, hsum⟩ := chk_zero h
  have hall' := Lib.hid hall
  clear h hall
  have hpos : 0 < l.length := by omega
  clear hpar
  obtain ⟨A, c, rfl, hc, ha⟩ := hi
  have hr := ha.room
  obtain ⟨b, off, rfl, hb1, hcs⟩ := ha.all hpos
  have c0 := hcs 0 hpos
  rw [Nat.add_zero] at c0
  have h1 := Lib.hid (rf_one l hpos)
  have hcs' := Lib.hid hcs
  clear hcs
  go_enter Try.func16, Try.ntmps16
  go_wp2_with fail
  go_loop [4, 5, 6] (fun p q i => ∃ (k : Nat), 1 ≤ k ∧ k ≤ l.length ∧ i = .int .i64 k ∧ p = .int .i64 (rf (l.take k)).1 ∧ q = .int .i64 (rf (l.take k)).2) (fun _ _ i => l.length - (intOf i).toNat)
  case atStart => exact ⟨1, by omega, by omega, rfl, by rw [h1.out], by rw [h1.out]⟩
  case round =>
    obtain ⟨k, hk1, hk, rfl, rfl, rfl⟩ := hrel
    have hsm := rf_small l k hsum
    by_cases hlt : k < l.length
    · have hc1 := hcs'.out k hlt
      have hal := List.all_eq_true.1 hall'.out (gi l k) (by rw [gi_eq hlt]; exact List.getElem_mem hlt)
      have hab := okA_yes hal
      have hst := Lib.hid (rf_take l k hlt)
      clear hal c0
      generalize rf (l.take k) = x at *
      obtain ⟨x1, x2⟩ := x
      dsimp only at hsm ⊢
      obtain ⟨s1, s2, s3, s4⟩ := hsm
      generalize gi l k = a at *
      obtain ⟨a1, a2⟩ := hab
      have hm : (a * x1).natAbs ≤ 16 * 65536 := by
        rw [Int.natAbs_mul]
        exact Nat.mul_le_mul (by omega) (by omega)
      have hp0 : -1048576 ≤ a * x1 := by omega
      have hp1 : a * x1 ≤ 1048576 := by omega
      clear hm
      go_wp2_with fail
      go_round
      case rel => exact ⟨k + 1, by omega, by omega, by go_num, by rw [hst.out], by rw [hst.out]⟩
      case measure => simp [intOf] <;> omega
    · obtain rfl : k = l.length := by omega
      have hg := rf_gcd l
      rw [List.take_length] at *
      clear c0
      rcases nrm_cases (rf l) hg with ⟨hb, e, hx⟩ | ⟨hb, e⟩ | ⟨hb, e⟩
      all_goals
        have hg' := Lib.hid hg
        have E := Lib.hid e
        clear hg e h1
        generalize rf l = x at *
        obtain ⟨x1, x2⟩ := x
        dsimp only at hsm hb ⊢
      · subst hb
        have hx' := Lib.hid hx
        clear hx
        go_wp2_with fail
        go_ret2
        exact ⟨by rw [E.out]; rfl, Kp.refl _⟩
      · have e2 : ((-x2 == 0) : Bool) = false := by rw [beq_eq_false_iff_ne]; omega
        go_wp2_with fail
        go_ret2
        exact ⟨by rw [E.out]; rfl, Kp.refl _⟩
      · have e2 : ((x2 == 0) : Bool) = false := by rw [beq_eq_false_iff_ne]; omega
        go_wp2_with fail
        go_ret2
        exact ⟨by rw [E.out]; rfl, Kp.refl _⟩
end Go.Proofs.Ytkgofmloleicgaa
