/- May a diagram be? As the reference asks it. -/
import Derived.Test.YtlbpgnimpcflaaaDia
namespace Go.Proofs.Ytlbpgnimpcflaaa
open Go.ChangeShapes Go.WideShapes Go.ChangeAt Go.RowKit

/-- How many of the first j places are where the arc a comes in (or, back, goes out). -/
def cntP (d : Dg) (a : Int) (back : Bool) (j : Nat) : Nat := (List.range j).countP (endP d a back)
theorem cntP_succ (d : Dg) (a : Int) (back : Bool) (j : Nat) : cntP d a back (j + 1) = cntP d a back j + if endP d a back j = true then 1 else 0 := by
  unfold cntP
  rw [List.range_succ, List.countP_append, List.countP_singleton]
theorem cntP_le (d : Dg) (a : Int) (back : Bool) (j : Nat) : cntP d a back j ≤ j := by
  unfold cntP
  have := List.countP_le_length (p := endP d a back) (l := List.range j)
  simpa using this
theorem cntP_at {d : Dg} {a : Int} {back : Bool} {i k : Nat} (hk : k < 4) :
    cntP d a back (4 * i + (k + 1)) = cntP d a back (4 * i + k) + if arcAt d i k = a ∧ entryB d i k ≠ back then 1 else 0 := by
  rw [← Nat.add_assoc, cntP_succ, endP_at hk]
  simp

def arcOk (d : Dg) (a : Int) : Bool := cntP d a false (4 * d.crs.length) == 1 && cntP d a true (4 * d.crs.length) == 1
def mayB (d : Dg) : Bool := decide (d.crs.length ≤ 16 ∧ 0 ≤ d.loops ∧ d.loops ≤ 16 ∧ ¬ (d.crs.length = 0 ∧ d.loops = 0)) && (List.range (2 * d.crs.length)).all fun a => arcOk d ((a + 1 : Nat) : Int)

theorem mayB_size {d : Dg} (h : ¬ (d.crs.length ≤ 16 ∧ 0 ≤ d.loops ∧ d.loops ≤ 16 ∧ ¬ (d.crs.length = 0 ∧ d.loops = 0))) : mayB d = false := by
  unfold mayB; rw [decide_eq_false h]; rfl
theorem mayB_arc {d : Dg} {a : Nat} (h0 : 1 ≤ a) (h1 : a ≤ 2 * d.crs.length) (h : arcOk d a = false) : mayB d = false := by
  unfold mayB
  rw [Bool.and_eq_false_iff]
  refine .inr (List.all_eq_false.2 ⟨a - 1, by simp; omega, ?_⟩)
  rw [show a - 1 + 1 = a by omega, h]; simp
theorem mayB_yes {d : Dg} (h : d.crs.length ≤ 16 ∧ 0 ≤ d.loops ∧ d.loops ≤ 16 ∧ ¬ (d.crs.length = 0 ∧ d.loops = 0)) (h2 : ∀ a : Nat, 1 ≤ a → a ≤ 2 * d.crs.length → arcOk d a = true) : mayB d = true := by
  unfold mayB
  rw [decide_eq_true h, Bool.true_and]
  refine List.all_eq_true.2 fun a ha => h2 (a + 1) (by omega) ?_
  simp at ha
  omega
theorem mayB_out {d : Dg} (h : mayB d = true) : (d.crs.length ≤ 16 ∧ 0 ≤ d.loops ∧ d.loops ≤ 16 ∧ ¬ (d.crs.length = 0 ∧ d.loops = 0)) ∧ ∀ a : Nat, 1 ≤ a → a ≤ 2 * d.crs.length → cntP d a false (4 * d.crs.length) = 1 ∧ cntP d a true (4 * d.crs.length) = 1 := by
  unfold mayB at h
  rw [Bool.and_eq_true, decide_eq_true_iff] at h
  refine ⟨h.1, fun a h0 h1 => ?_⟩
  have := List.all_eq_true.1 h.2 (a - 1) (by simp; omega)
  rw [show a - 1 + 1 = a by omega] at this
  unfold arcOk at this
  simpa using this

set_option maxHeartbeats 2000000 in
theorem diagramMay_size (v : Value) (d : Dg) (w : World) (hd : IsDg w w.heap.size v d) (h : ¬ (d.crs.length ≤ 16 ∧ 0 ≤ d.loops ∧ d.loops ≤ 16 ∧ ¬ (d.crs.length = 0 ∧ d.loops = 0))) :
    Calls Try.prog 17 #[v] w (BoPost false w) := by
  obtain ⟨A, cap, rfl, hcap, hr⟩ := hd
  have hrm : d.crs.length * 40 ≤ 140737488355328 := hr.room
  clear hr
  obtain ⟨cs, loops⟩ := d
  dsimp only at *
  generalize cs.length = n at *
  by_cases h1 : 16 < n
  · go_enter Try.func17, Try.ntmps17
    go_wp2_with fail
    go_ret
    exact ⟨rfl, (Kp.refl _).alloc _⟩
  · by_cases h2 : loops < 0
    · go_enter Try.func17, Try.ntmps17
      go_wp2_with fail
      go_ret
      exact ⟨rfl, (Kp.refl _).alloc _⟩
    · by_cases h3 : 16 < loops
      · go_enter Try.func17, Try.ntmps17
        go_wp2_with fail
        go_ret
        exact ⟨rfl, (Kp.refl _).alloc _⟩
      · obtain ⟨rfl, rfl⟩ : n = 0 ∧ loops = 0 := by omega
        go_enter Try.func17, Try.ntmps17
        go_wp2_with fail
        go_ret
        exact ⟨rfl, (Kp.refl _).alloc _⟩

set_option maxHeartbeats 4000000 in
theorem diagramMay_arcs (v : Value) (d : Dg) (w : World) (hd : IsDg w w.heap.size v d) (h : d.crs.length ≤ 16 ∧ 0 ≤ d.loops ∧ d.loops ≤ 16 ∧ ¬ (d.crs.length = 0 ∧ d.loops = 0)) :
    Calls Try.prog 17 #[v] w (BoPost (mayB d) w) := by
  obtain ⟨A, cap, rfl, hcap, hr⟩ := hd
  have hd : ∀ w', Kp w w' → IsDg w' w'.heap.size (.agg #[.slice A d.crs.length cap, .int .i64 d.loops]) d := fun w' hk => ⟨A, cap, rfl, hcap, hr.kp hk⟩
  have HD := Lib.hid hd
  clear hd hr
  have Hsz := Lib.hid h
  obtain ⟨h1, h2, h3, h4⟩ := h
  have hq : ¬ (d.crs.length = 0 ∧ d.loops = 0) → (((d.crs.length : Int) == 0 : Bool) = false) ∨ ((((d.crs.length : Int) == 0) : Bool) = true ∧ ((d.loops == 0) : Bool) = false) := by
    intro h
    by_cases h0 : d.crs.length = 0
    · exact .inr ⟨by rw [beq_iff_eq]; omega, by rw [beq_eq_false_iff_ne]; omega⟩
    · exact .inl (by rw [beq_eq_false_iff_ne]; omega)
  have hq' := hq h4
  clear hq h4
  go_enter Try.func17, Try.ntmps17
  go_upto_region 2 with (fail)
  go_cut [33] (fun c wx => c = .bool false ∧ wx = w.alloc (.cells #[.slice A d.crs.length cap, .int .i64 d.loops] 27))
  case first =>
    rcases hq' with hq' | ⟨hq', hq''⟩
    · go_wp2_with fail
      go_meet
      case rel => exact ⟨congrArg Value.bool (by simp; omega), rfl⟩
    · go_wp2_with fail
      go_meet
      case rel => exact ⟨congrArg Value.bool (by simp; omega), rfl⟩
  case rest =>
    obtain ⟨rfl, rfl⟩ := hcut
    clear hq'
    go_wp2_with fail
    go_loopw [4] (fun i wr => ∃ a : Nat, 1 ≤ a ∧ a ≤ 2 * d.crs.length + 1 ∧ i = .int .i64 a ∧ Hid (∀ a' : Nat, 1 ≤ a' → a' < a → arcOk d a' = true) ∧ Kp w wr ∧
      Blk wr w.heap.size 27 #[.slice A d.crs.length cap, .int .i64 d.loops]) (fun i _ => 2 * d.crs.length + 1 - (intOf i).toNat)
    case atStart => exact ⟨1, by omega, by omega, rfl, fun a h1 h2 => by omega, (Kp.refl _).alloc _, Blk.new _ _ _⟩
    case round =>
      obtain ⟨a, ha0, ha1, rfl, hok, hk, hB⟩ := hrel
      by_cases hlt : a ≤ 2 * d.crs.length
      · obtain ⟨wo, rfl⟩ : ∃ wo : World, wo = wr := ⟨_, rfl⟩
        have ta : decide ((a : Int) ≤ 2 * (d.crs.length : Int)) = true := by simp; omega
        go_wp2_with fail
        go_loopw [5, 6, 7] (fun ci co i wr => ∃ n : Nat, n ≤ d.crs.length ∧ i = .int .i64 n ∧ ci = .int .i64 (cntP d a false (4 * n)) ∧ co = .int .i64 (cntP d a true (4 * n)) ∧ Kp w wr ∧
          Blk wr w.heap.size 27 #[.slice A d.crs.length cap, .int .i64 d.loops]) (fun _ _ i _ => d.crs.length - (intOf i).toNat)
        case atStart => exact ⟨0, Nat.zero_le _, rfl, rfl, rfl, hk, hB⟩
        case round =>
          clear hk hB
          obtain ⟨n, hn, rfl, rfl, rfl, hk, hB⟩ := hrel
          by_cases hlt2 : n < d.crs.length
          · clear wo
            obtain ⟨wo, rfl⟩ : ∃ wo : World, wo = wr := ⟨_, rfl⟩
            have cl1 := cntP_le d a false (4 * n)
            have cl2 := cntP_le d a true (4 * n)
            go_wp2_with fail
            go_loopw [5, 6, 8] (fun ci co i wr => ∃ m : Nat, m ≤ 4 ∧ i = .int .i64 m ∧ ci = .int .i64 (cntP d a false (4 * n + m)) ∧ co = .int .i64 (cntP d a true (4 * n + m)) ∧ Kp w wr ∧
              Blk wr w.heap.size 27 #[.slice A d.crs.length cap, .int .i64 d.loops]) (fun _ _ i _ => 4 - (intOf i).toNat)
            case atStart => exact ⟨0, Nat.zero_le _, rfl, rfl, rfl, hk, hB⟩
            case round =>
              clear hk hB cl1 cl2
              obtain ⟨m, hm, rfl, rfl, rfl, hk, hB⟩ := hrel
              obtain ⟨e0, e1, e2, e3⟩ := hB.two
              obtain ⟨s00, s01, s02, s03, s04⟩ := lts hB.lt
              by_cases hm4 : m < 4
              · have c1 := cntP_at (d := d) (a := a) (back := false) (i := n) hm4
                have c2 := cntP_at (d := d) (a := a) (back := true) (i := n) hm4
                have cl1 := cntP_le d a false (4 * n + m)
                have cl2 := cntP_le d a true (4 * n + m)
                by_cases ha : arcAt d n m = (a : Int)
                · have t1 : ((arcAt d n m == (a : Int)) : Bool) = true := by rw [beq_iff_eq]; exact ha
                  have s4 : 4 * n + m < 64 := by omega
                  cases he : entryB d n m
                  · rw [if_neg (by simp [he])] at c1
                    rw [if_pos (by simp [ha, he])] at c2
                    have c1' := Lib.hid c1
                    have c2' := Lib.hid c2
                    have he' := Lib.hid he
                    clear c1 c2 ha he
                    go_wp2_with fail
                    refine (arcAt_any _ d n m _ (HD.out _ (hk.alloc _)) hlt2 hm4).mono ?_; rintro e w1 ⟨rfl, hk1⟩
                    obtain ⟨cc, cf⟩ := hk1.cf (n := wr.heap.size + 1) (by simp)
                    go_wp2_with fail
                    refine (entry_any _ d n m _ (HD.out _ ((hk.alloc _).trans hk1)) hlt2 hm4).mono ?_; rintro e w2 ⟨rfl, hk2⟩
                    obtain ⟨c2, f2⟩ := (hk1.trans hk2).cf (n := wr.heap.size + 1) (by simp)
                    clear cc cf
                    rw [he'.out]
                    go_wp2_with fail
                    refine (arcAt_any _ d n m _ (HD.out _ (((hk.alloc _).trans hk1).trans hk2)) hlt2 hm4).mono ?_; rintro e w3 ⟨rfl, hk3⟩
                    obtain ⟨c3, f3⟩ := ((hk1.trans hk2).trans hk3).cf (n := wr.heap.size + 1) (by simp)
                    clear c2 f2
                    go_wp2_with fail
                    refine (entry_any _ d n m _ (HD.out _ ((((hk.alloc _).trans hk1).trans hk2).trans hk3)) hlt2 hm4).mono ?_; rintro e w4 ⟨rfl, hk4⟩
                    rw [he'.out]
                    go_wp2_with fail
                    go_roundw
                    case rel => exact ⟨m + 1, by omega, by go_num, by rw [c1'.out]; rfl, by rw [c2'.out]; go_num, (((hk.alloc _).trans hk1).trans hk2).trans (hk3.trans hk4), (((hB.alloc _).kp hk1).kp hk2).kp (hk3.trans hk4)⟩
                    case measure => simp [intOf] <;> omega
                  · rw [if_pos (by simp [ha, he])] at c1
                    rw [if_neg (by simp [he])] at c2
                    have c1' := Lib.hid c1
                    have c2' := Lib.hid c2
                    have he' := Lib.hid he
                    clear c1 c2 ha he
                    go_wp2_with fail
                    refine (arcAt_any _ d n m _ (HD.out _ (hk.alloc _)) hlt2 hm4).mono ?_; rintro e w1 ⟨rfl, hk1⟩
                    obtain ⟨cc, cf⟩ := hk1.cf (n := wr.heap.size + 1) (by simp)
                    go_wp2_with fail
                    refine (entry_any _ d n m _ (HD.out _ ((hk.alloc _).trans hk1)) hlt2 hm4).mono ?_; rintro e w2 ⟨rfl, hk2⟩
                    obtain ⟨c2, f2⟩ := (hk1.trans hk2).cf (n := wr.heap.size + 1) (by simp)
                    clear cc cf
                    rw [he'.out]
                    go_wp2_with fail
                    refine (arcAt_any _ d n m _ (HD.out _ (((hk.alloc _).trans hk1).trans hk2)) hlt2 hm4).mono ?_; rintro e w3 ⟨rfl, hk3⟩
                    obtain ⟨c3, f3⟩ := ((hk1.trans hk2).trans hk3).cf (n := wr.heap.size + 1) (by simp)
                    clear c2 f2
                    go_wp2_with fail
                    refine (entry_any _ d n m _ (HD.out _ ((((hk.alloc _).trans hk1).trans hk2).trans hk3)) hlt2 hm4).mono ?_; rintro e w4 ⟨rfl, hk4⟩
                    rw [he'.out]
                    go_wp2_with fail
                    go_roundw
                    case rel => exact ⟨m + 1, by omega, by go_num, by rw [c1'.out]; go_num, by rw [c2'.out]; rfl, (((hk.alloc _).trans hk1).trans hk2).trans (hk3.trans hk4), (((hB.alloc _).kp hk1).kp hk2).kp (hk3.trans hk4)⟩
                    case measure => simp [intOf] <;> omega
                · have t1 : ((arcAt d n m == (a : Int)) : Bool) = false := by rw [beq_eq_false_iff_ne]; exact ha
                  rw [if_neg (by simp [ha])] at c1 c2
                  have c1' := Lib.hid c1
                  have c2' := Lib.hid c2
                  clear c1 c2 ha
                  go_wp2_with fail
                  refine (arcAt_any _ d n m _ (HD.out _ (hk.alloc _)) hlt2 hm4).mono ?_; rintro e w1 ⟨rfl, hk1⟩
                  obtain ⟨cc, cf⟩ := hk1.cf (n := wr.heap.size + 1) (by simp)
                  go_wp2_with fail
                  refine (arcAt_any _ d n m _ (HD.out _ ((hk.alloc _).trans hk1)) hlt2 hm4).mono ?_; rintro e w2 ⟨rfl, hk2⟩
                  go_wp2_with fail
                  go_roundw
                  case rel => exact ⟨m + 1, by omega, by go_num, by rw [c1'.out]; rfl, by rw [c2'.out]; rfl, ((hk.alloc _).trans hk1).trans hk2, ((hB.alloc _).kp hk1).kp hk2⟩
                  case measure => simp [intOf] <;> omega
              · obtain rfl : m = 4 := by omega
                go_wp2_with fail
                go_roundw
                case rel => exact ⟨n + 1, by omega, by go_num, rfl, rfl, hk, hB⟩
                case measure => simp [intOf] <;> omega
          · obtain rfl : n = d.crs.length := by omega
            by_cases hin : cntP d a false (4 * d.crs.length) = 1
            · have i1 : ((((cntP d a false (4 * d.crs.length) : Nat) : Int) != 1) : Bool) = false := by simp only [bne_eq_false_iff_eq]; omega
              by_cases hout : cntP d a true (4 * d.crs.length) = 1
              · have i2 : ((((cntP d a true (4 * d.crs.length) : Nat) : Int) != 1) : Bool) = false := by simp only [bne_eq_false_iff_eq]; omega
                have hao : Hid (arcOk d a = true) := by rw [Hid]; unfold arcOk; rw [hin, hout]; rfl
                clear hin hout
                go_wp2_with fail
                go_roundw
                case rel => exact ⟨a + 1, by omega, by omega, by go_num, fun a' h1 h2 => by
                  rcases Nat.lt_or_ge a' a with h | h
                  · exact hok.out a' h1 h
                  · obtain rfl : a' = a := by omega
                    exact hao.out, hk, hB⟩
                case measure => simp [intOf] <;> omega
              · have i2 : ((((cntP d a true (4 * d.crs.length) : Nat) : Int) != 1) : Bool) = true := by simp only [bne_iff_ne, ne_eq]; omega
                have hao : Hid (mayB d = false) := mayB_arc ha0 hlt (by unfold arcOk; rw [hin]; simp [hout])
                clear hin hout
                go_wp2_with fail
                go_ret
                exact ⟨by rw [hao.out]; rfl, hk⟩
            · have i1 : ((((cntP d a false (4 * d.crs.length) : Nat) : Int) != 1) : Bool) = true := by simp only [bne_iff_ne, ne_eq]; omega
              have hao : Hid (mayB d = false) := mayB_arc ha0 hlt (by unfold arcOk; simp [hin])
              clear hin
              go_wp2_with fail
              go_ret
              exact ⟨by rw [hao.out]; rfl, hk⟩
      · have hao : Hid (mayB d = true) := mayB_yes Hsz.out fun a' h1 h2 => hok.out a' h1 (by omega)
        go_wp2_with fail
        go_ret
        exact ⟨by rw [hao.out]; rfl, hk⟩

theorem diagramMay_any (v : Value) (d : Dg) (w : World) (hd : IsDg w w.heap.size v d) : Calls Try.prog 17 #[v] w (BoPost (mayB d) w) := by
  by_cases h : d.crs.length ≤ 16 ∧ 0 ≤ d.loops ∧ d.loops ≤ 16 ∧ ¬ (d.crs.length = 0 ∧ d.loops = 0)
  · exact diagramMay_arcs v d w hd h
  · rw [mayB_size h]; exact diagramMay_size v d w hd h
end Go.Proofs.Ytlbpgnimpcflaaa
