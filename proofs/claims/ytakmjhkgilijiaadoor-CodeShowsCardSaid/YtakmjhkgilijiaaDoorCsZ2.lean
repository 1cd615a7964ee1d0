/- Part 2 of the proof of the law CodeShows: the walks through its functions and the plain laws that they need. -/
import Derived.Test.YtakmjhkgilijiaaDoorCsZ1
import Derived.WalkSpells
import Derived.Laws.Cover3
import Derived.Laws.Pointers
import Derived.Laws.StructEq
import Derived.MapKept
import Derived.Carry
import Derived.Maps.RangeRun
import Derived.Lib.AppendZeros
import Derived.RangeFuncNested
import Derived.RangeFuncBound
import Derived.RangeFuncCalls
import Derived.RangeFuncLeaves
import Derived.LoopNIn
import Derived.Lib.Join
import Derived.Lib.ItoaNum
import Derived.Test.YtakmjhkgilijiaaDoorProg
import Derived.Shelf.Strings.OnBuilder
import Derived.Shelf.Strconv.Itoa3
set_option linter.unusedSimpArgs false
set_option linter.unusedVariables false
namespace Go.Proofs.YtakmjhkgilijiaaDoor
open Go.ChangeShapes Go.WideShapes Go.ChangeAt Go.RowKit
/-- How many of the first j places are where the arc a comes in (or, back, goes out). -/
def cntP (d : Dg) (a : Int) (back : Bool) (j : Nat) : Nat := (List.range j).countP (endP d a back)
theorem cntP_succ (d : Dg) (a : Int) (back : Bool) (j : Nat) : cntP d a back (j + 1) = cntP d a back j + if endP d a back j = true then 1 else 0 := by
  unfold cntP
  rw [List.range_succ, List.countP_append, List.countP_singleton]
theorem cntP_le (d : Dg) (a : Int) (back : Bool) (j : Nat) : cntP d a back j ≤ j := by
  unfold cntP
  have := List.countP_le_length (p := endP d a back) (l := List.range j)
  simpa using this
theorem cntP_at {d : Dg} {a : Int} {back : Bool} {i k : Nat} (hk : k < 4) :
    cntP d a back (4 * i + (k + 1)) = cntP d a back (4 * i + k) + if arcAt d i k = a ∧ entryB d i k ≠ back then 1 else 0 := by
  rw [← Nat.add_assoc, cntP_succ, endP_at hk]
  simp
def arcOk (d : Dg) (a : Int) : Bool := cntP d a false (4 * d.crs.length) == 1 && cntP d a true (4 * d.crs.length) == 1
def mayB (d : Dg) : Bool := decide (d.crs.length ≤ 16 ∧ 0 ≤ d.loops ∧ d.loops ≤ 16 ∧ ¬ (d.crs.length = 0 ∧ d.loops = 0)) && (List.range (2 * d.crs.length)).all fun a => arcOk d ((a + 1 : Nat) : Int)
theorem mayB_size {d : Dg} (h : ¬ (d.crs.length ≤ 16 ∧ 0 ≤ d.loops ∧ d.loops ≤ 16 ∧ ¬ (d.crs.length = 0 ∧ d.loops = 0))) : mayB d = false := by
  unfold mayB; rw [decide_eq_false h]; rfl
theorem mayB_arc {d : Dg} {a : Nat} (h0 : 1 ≤ a) (h1 : a ≤ 2 * d.crs.length) (h : arcOk d a = false) : mayB d = false := by
  unfold mayB
  rw [Bool.and_eq_false_iff]
  refine .inr (List.all_eq_false.2 ⟨a - 1, by simp; omega, ?_⟩)
  rw [show a - 1 + 1 = a by omega, h]; simp
theorem mayB_yes {d : Dg} (h : d.crs.length ≤ 16 ∧ 0 ≤ d.loops ∧ d.loops ≤ 16 ∧ ¬ (d.crs.length = 0 ∧ d.loops = 0)) (h2 : ∀ a : Nat, 1 ≤ a → a ≤ 2 * d.crs.length → arcOk d a = true) : mayB d = true := by
  unfold mayB
  rw [decide_eq_true h, Bool.true_and]
  refine List.all_eq_true.2 fun a ha => h2 (a + 1) (by omega) ?_
  simp at ha
  omega
set_option maxHeartbeats 2000000 in
theorem diagramMay_size (v : Value) (d : Dg) (w : World) (hd : IsDg w w.heap.size v d) (h : ¬ (d.crs.length ≤ 16 ∧ 0 ≤ d.loops ∧ d.loops ≤ 16 ∧ ¬ (d.crs.length = 0 ∧ d.loops = 0))) :
    Calls Tryd.prog 11 #[v] w (BoPost false w) := by
  obtain ⟨A, cap, rfl, hcap, hr⟩ := hd
  have hrm : d.crs.length * 40 ≤ 140737488355328 := hr.room
  clear hr
  obtain ⟨cs, loops⟩ := d
  dsimp only at *
  generalize cs.length = n at *
  by_cases h1 : 16 < n
  · go_enter Tryd.func11, Tryd.ntmps11
    go_wp2_with fail
    go_ret
    exact ⟨rfl, (Kp.refl _).alloc _⟩
  · by_cases h2 : loops < 0
    · go_enter Tryd.func11, Tryd.ntmps11
      go_wp2_with fail
      go_ret
      exact ⟨rfl, (Kp.refl _).alloc _⟩
    · by_cases h3 : 16 < loops
      · go_enter Tryd.func11, Tryd.ntmps11
        go_wp2_with fail
        go_ret
        exact ⟨rfl, (Kp.refl _).alloc _⟩
      · obtain ⟨rfl, rfl⟩ : n = 0 ∧ loops = 0 := by omega
        go_enter Tryd.func11, Tryd.ntmps11
        go_wp2_with fail
        go_ret
        exact ⟨rfl, (Kp.refl _).alloc _⟩
set_option maxHeartbeats 4000000 in
theorem diagramMay_arcs (v : Value) (d : Dg) (w : World) (hd : IsDg w w.heap.size v d) (h : d.crs.length ≤ 16 ∧ 0 ≤ d.loops ∧ d.loops ≤ 16 ∧ ¬ (d.crs.length = 0 ∧ d.loops = 0)) :
    Calls Tryd.prog 11 #[v] w (BoPost (mayB d) w) := by
  obtain ⟨A, cap, rfl, hcap, hr⟩ := hd
  have hd : ∀ w', Kp w w' → IsDg w' w'.heap.size (.agg #[.slice A d.crs.length cap, .int .i64 d.loops]) d := fun w' hk => ⟨A, cap, rfl, hcap, hr.kp hk⟩
  have HD := Lib.hid hd
  clear hd hr
  have Hsz := Lib.hid h
  obtain ⟨h1, h2, h3, h4⟩ := h
  have hq : ¬ (d.crs.length = 0 ∧ d.loops = 0) → (((d.crs.length : Int) == 0 : Bool) = false) ∨ ((((d.crs.length : Int) == 0) : Bool) = true ∧ ((d.loops == 0) : Bool) = false) := by
    intro h
    by_cases h0 : d.crs.length = 0
    · exact .inr ⟨by rw [beq_iff_eq]; omega, by rw [beq_eq_false_iff_ne]; omega⟩
    · exact .inl (by rw [beq_eq_false_iff_ne]; omega)
  have hq' := hq h4
  clear hq h4
  go_enter Tryd.func11, Tryd.ntmps11
  go_upto_region 2 with (fail)
  go_cut [33] (fun c wx => c = .bool false ∧ wx = w.alloc (.cells #[.slice A d.crs.length cap, .int .i64 d.loops] 31))
  case first =>
    rcases hq' with hq' | ⟨hq', hq''⟩
    · go_wp2_with fail
      go_meet
      case rel => exact ⟨congrArg Value.bool (by simp; omega), rfl⟩
    · go_wp2_with fail
      go_meet
      case rel => exact ⟨congrArg Value.bool (by simp; omega), rfl⟩
  case rest =>
    obtain ⟨rfl, rfl⟩ := hcut
    clear hq'
    go_wp2_with fail
    go_loopw [4] (fun i wr => ∃ a : Nat, 1 ≤ a ∧ a ≤ 2 * d.crs.length + 1 ∧ i = .int .i64 a ∧ Hid (∀ a' : Nat, 1 ≤ a' → a' < a → arcOk d a' = true) ∧ Kp w wr ∧
      Blk wr w.heap.size 31 #[.slice A d.crs.length cap, .int .i64 d.loops]) (fun i _ => 2 * d.crs.length + 1 - (intOf i).toNat)
    case atStart => exact ⟨1, by omega, by omega, rfl, fun a h1 h2 => by omega, (Kp.refl _).alloc _, Blk.new _ _ _⟩
    case round =>
      obtain ⟨a, ha0, ha1, rfl, hok, hk, hB⟩ := hrel
      by_cases hlt : a ≤ 2 * d.crs.length
      · obtain ⟨wo, rfl⟩ : ∃ wo : World, wo = wr := ⟨_, rfl⟩
        have ta : decide ((a : Int) ≤ 2 * (d.crs.length : Int)) = true := by simp; omega
        go_wp2_with fail
        go_loopw [5, 6, 7] (fun ci co i wr => ∃ n : Nat, n ≤ d.crs.length ∧ i = .int .i64 n ∧ ci = .int .i64 (cntP d a false (4 * n)) ∧ co = .int .i64 (cntP d a true (4 * n)) ∧ Kp w wr ∧
          Blk wr w.heap.size 31 #[.slice A d.crs.length cap, .int .i64 d.loops]) (fun _ _ i _ => d.crs.length - (intOf i).toNat)
        case atStart => exact ⟨0, Nat.zero_le _, rfl, rfl, rfl, hk, hB⟩
        case round =>
          clear hk hB
          obtain ⟨n, hn, rfl, rfl, rfl, hk, hB⟩ := hrel
          by_cases hlt2 : n < d.crs.length
          · clear wo
            obtain ⟨wo, rfl⟩ : ∃ wo : World, wo = wr := ⟨_, rfl⟩
            have cl1 := cntP_le d a false (4 * n)
            have cl2 := cntP_le d a true (4 * n)
            go_wp2_with fail
            go_loopw [5, 6, 8] (fun ci co i wr => ∃ m : Nat, m ≤ 4 ∧ i = .int .i64 m ∧ ci = .int .i64 (cntP d a false (4 * n + m)) ∧ co = .int .i64 (cntP d a true (4 * n + m)) ∧ Kp w wr ∧
              Blk wr w.heap.size 31 #[.slice A d.crs.length cap, .int .i64 d.loops]) (fun _ _ i _ => 4 - (intOf i).toNat)
            case atStart => exact ⟨0, Nat.zero_le _, rfl, rfl, rfl, hk, hB⟩
            case round =>
              clear hk hB cl1 cl2
              obtain ⟨m, hm, rfl, rfl, rfl, hk, hB⟩ := hrel
              obtain ⟨e0, e1, e2, e3⟩ := hB.two
              obtain ⟨s00, s01, s02, s03, s04⟩ := lts hB.lt
              by_cases hm4 : m < 4
              · have c1 := cntP_at (d := d) (a := a) (back := false) (i := n) hm4
                have c2 := cntP_at (d := d) (a := a) (back := true) (i := n) hm4
                have cl1 := cntP_le d a false (4 * n + m)
                have cl2 := cntP_le d a true (4 * n + m)
                by_cases ha : arcAt d n m = (a : Int)
                · have t1 : ((arcAt d n m == (a : Int)) : Bool) = true := by rw [beq_iff_eq]; exact ha
                  have s4 : 4 * n + m < 64 := by omega
                  cases he : entryB d n m
                  · rw [if_neg (by simp [he])] at c1
                    rw [if_pos (by simp [ha, he])] at c2
                    have c1' := Lib.hid c1
                    have c2' := Lib.hid c2
                    have he' := Lib.hid he
                    clear c1 c2 ha he
                    go_wp2_with fail
                    refine (arcAt_any _ d n m _ (HD.out _ (hk.alloc _)) hlt2 hm4).mono ?_; rintro e w1 ⟨rfl, hk1⟩
                    obtain ⟨cc, cf⟩ := hk1.cf (n := wr.heap.size + 1) (by simp)
                    go_wp2_with fail
                    refine (entry_any _ d n m _ (HD.out _ ((hk.alloc _).trans hk1)) hlt2 hm4).mono ?_; rintro e w2 ⟨rfl, hk2⟩
                    obtain ⟨c2, f2⟩ := (hk1.trans hk2).cf (n := wr.heap.size + 1) (by simp)
                    clear cc cf
                    rw [he'.out]
                    go_wp2_with fail
                    refine (arcAt_any _ d n m _ (HD.out _ (((hk.alloc _).trans hk1).trans hk2)) hlt2 hm4).mono ?_; rintro e w3 ⟨rfl, hk3⟩
                    obtain ⟨c3, f3⟩ := ((hk1.trans hk2).trans hk3).cf (n := wr.heap.size + 1) (by simp)
                    clear c2 f2
                    go_wp2_with fail
                    refine (entry_any _ d n m _ (HD.out _ ((((hk.alloc _).trans hk1).trans hk2).trans hk3)) hlt2 hm4).mono ?_; rintro e w4 ⟨rfl, hk4⟩
                    rw [he'.out]
                    go_wp2_with fail
                    go_roundw
                    case rel => exact ⟨m + 1, by omega, by go_num, by rw [c1'.out]; rfl, by rw [c2'.out]; go_num, (((hk.alloc _).trans hk1).trans hk2).trans (hk3.trans hk4), (((hB.alloc _).kp hk1).kp hk2).kp (hk3.trans hk4)⟩
                    case measure => simp [intOf] <;> omega
                  · rw [if_pos (by simp [ha, he])] at c1
                    rw [if_neg (by simp [he])] at c2
                    have c1' := Lib.hid c1
                    have c2' := Lib.hid c2
                    have he' := Lib.hid he
                    clear c1 c2 ha he
                    go_wp2_with fail
                    refine (arcAt_any _ d n m _ (HD.out _ (hk.alloc _)) hlt2 hm4).mono ?_; rintro e w1 ⟨rfl, hk1⟩
                    obtain ⟨cc, cf⟩ := hk1.cf (n := wr.heap.size + 1) (by simp)
                    go_wp2_with fail
                    refine (entry_any _ d n m _ (HD.out _ ((hk.alloc _).trans hk1)) hlt2 hm4).mono ?_; rintro e w2 ⟨rfl, hk2⟩
                    obtain ⟨c2, f2⟩ := (hk1.trans hk2).cf (n := wr.heap.size + 1) (by simp)
                    clear cc cf
                    rw [he'.out]
                    go_wp2_with fail
                    refine (arcAt_any _ d n m _ (HD.out _ (((hk.alloc _).trans hk1).trans hk2)) hlt2 hm4).mono ?_; rintro e w3 ⟨rfl, hk3⟩
                    obtain ⟨c3, f3⟩ := ((hk1.trans hk2).trans hk3).cf (n := wr.heap.size + 1) (by simp)
                    clear c2 f2
                    go_wp2_with fail
                    refine (entry_any _ d n m _ (HD.out _ ((((hk.alloc _).trans hk1).trans hk2).trans hk3)) hlt2 hm4).mono ?_; rintro e w4 ⟨rfl, hk4⟩
                    rw [he'.out]
                    go_wp2_with fail
                    go_roundw
                    case rel => exact ⟨m + 1, by omega, by go_num, by rw [c1'.out]; go_num, by rw [c2'.out]; rfl, (((hk.alloc _).trans hk1).trans hk2).trans (hk3.trans hk4), (((hB.alloc _).kp hk1).kp hk2).kp (hk3.trans hk4)⟩
                    case measure => simp [intOf] <;> omega
                · have t1 : ((arcAt d n m == (a : Int)) : Bool) = false := by rw [beq_eq_false_iff_ne]; exact ha
                  rw [if_neg (by simp [ha])] at c1 c2
                  have c1' := Lib.hid c1
                  have c2' := Lib.hid c2
                  clear c1 c2 ha
                  go_wp2_with fail
                  refine (arcAt_any _ d n m _ (HD.out _ (hk.alloc _)) hlt2 hm4).mono ?_; rintro e w1 ⟨rfl, hk1⟩
                  obtain ⟨cc, cf⟩ := hk1.cf (n := wr.heap.size + 1) (by simp)
                  go_wp2_with fail
                  refine (arcAt_any _ d n m _ (HD.out _ ((hk.alloc _).trans hk1)) hlt2 hm4).mono ?_; rintro e w2 ⟨rfl, hk2⟩
                  go_wp2_with fail
                  go_roundw
                  case rel => exact ⟨m + 1, by omega, by go_num, by rw [c1'.out]; rfl, by rw [c2'.out]; rfl, ((hk.alloc _).trans hk1).trans hk2, ((hB.alloc _).kp hk1).kp hk2⟩
                  case measure => simp [intOf] <;> omega
              · obtain rfl : m = 4 := by omega
                go_wp2_with fail
                go_roundw
                case rel => exact ⟨n + 1, by omega, by go_num, rfl, rfl, hk, hB⟩
                case measure => simp [intOf] <;> omega
          · obtain rfl : n = d.crs.length := by omega
            by_cases hin : cntP d a false (4 * d.crs.length) = 1
            · have i1 : ((((cntP d a false (4 * d.crs.length) : Nat) : Int) != 1) : Bool) = false := by simp only [bne_eq_false_iff_eq]; omega
              by_cases hout : cntP d a true (4 * d.crs.length) = 1
              · have i2 : ((((cntP d a true (4 * d.crs.length) : Nat) : Int) != 1) : Bool) = false := by simp only [bne_eq_false_iff_eq]; omega
                have hao : Hid (arcOk d a = true) := by rw [Hid]; unfold arcOk; rw [hin, hout]; rfl
                clear hin hout
                go_wp2_with fail
                go_roundw
                case rel => exact ⟨a + 1, by omega, by omega, by go_num, fun a' h1 h2 => by
                  rcases Nat.lt_or_ge a' a with h | h
                  · exact hok.out a' h1 h
                  · obtain rfl : a' = a := by omega
                    exact hao.out, hk, hB⟩
                case measure => simp [intOf] <;> omega
              · have i2 : ((((cntP d a true (4 * d.crs.length) : Nat) : Int) != 1) : Bool) = true := by simp only [bne_iff_ne, ne_eq]; omega
                have hao : Hid (mayB d = false) := mayB_arc ha0 hlt (by unfold arcOk; rw [hin]; simp [hout])
                clear hin hout
                go_wp2_with fail
                go_ret
                exact ⟨by rw [hao.out]; rfl, hk⟩
            · have i1 : ((((cntP d a false (4 * d.crs.length) : Nat) : Int) != 1) : Bool) = true := by simp only [bne_iff_ne, ne_eq]; omega
              have hao : Hid (mayB d = false) := mayB_arc ha0 hlt (by unfold arcOk; simp [hin])
              clear hin
              go_wp2_with fail
              go_ret
              exact ⟨by rw [hao.out]; rfl, hk⟩
      · have hao : Hid (mayB d = true) := mayB_yes Hsz.out fun a' h1 h2 => hok.out a' h1 (by omega)
        go_wp2_with fail
        go_ret
        exact ⟨by rw [hao.out]; rfl, hk⟩
theorem diagramMay_any (v : Value) (d : Dg) (w : World) (hd : IsDg w w.heap.size v d) : Calls Tryd.prog 11 #[v] w (BoPost (mayB d) w) := by
  by_cases h : d.crs.length ≤ 16 ∧ 0 ≤ d.loops ∧ d.loops ≤ 16 ∧ ¬ (d.crs.length = 0 ∧ d.loops = 0)
  · exact diagramMay_arcs v d w hd h
  · rw [mayB_size h]; exact diagramMay_size v d w hd h
end Go.Proofs.YtakmjhkgilijiaaDoor
namespace Go.Proofs.YtakmjhkgilijiaaDoor
open Go.ChangeShapes Go.WideShapes Go.ChangeAt Go.RowKit
/-- The last of the first J places where the arc a comes in (or, back, goes out). -/
def lastP (d : Dg) (a : Int) (back : Bool) : Nat → Nat × Nat
  | 0 => (0, 0)
  | J + 1 => if endP d a back J = true then (J / 4, J % 4) else lastP d a back J
/-- The arc at place number j. -/
def arcJ (d : Dg) (j : Nat) : Int := arcAt d (j / 4) (j % 4)
/-- How many of the first J places have one of the first m arcs. -/
def hitsM (d : Dg) (m J : Nat) : Nat := (List.range J).countP fun j => decide (1 ≤ arcJ d j ∧ arcJ d j ≤ (m : Int))
theorem hitsM_succ (d : Dg) (m J : Nat) : hitsM d (m + 1) J = hitsM d m J + (cntP d ((m + 1 : Nat) : Int) false J + cntP d ((m + 1 : Nat) : Int) true J) := by
  induction J with
  | zero => simp [hitsM, cntP]
  | succ J ih =>
    have e : ∀ m, hitsM d m (J + 1) = hitsM d m J + if 1 ≤ arcJ d J ∧ arcJ d J ≤ (m : Int) then 1 else 0 := by
      intro m
      unfold hitsM
      rw [List.range_succ, List.countP_append, List.countP_singleton]
      simp
    rw [e, e, ih, cntP_succ, cntP_succ]
    unfold endP
    change _ + (if 1 ≤ arcJ d J ∧ arcJ d J ≤ ((m + 1 : Nat) : Int) then 1 else 0) = _
    have h1 : arcAt d (J / 4) (J % 4) = arcJ d J := rfl
    rw [h1]
    by_cases hm : arcJ d J = ((m + 1 : Nat) : Int)
    · rw [if_pos (by omega), if_neg (by omega)]
      cases entryB d (J / 4) (J % 4) <;> simp [hm] <;> omega
    · have e2 : decide (arcJ d J = ((m + 1 : Nat) : Int)) = false := by simpa using hm
      rw [e2]
      simp only [Bool.false_and, Bool.false_eq_true, if_false]
      by_cases h2 : 1 ≤ arcJ d J ∧ arcJ d J ≤ (m : Int)
      · rw [if_pos (by omega), if_pos h2]; omega
      · rw [if_neg (by omega), if_neg h2]; omega
theorem hitsM_all {d : Dg} {m : Nat} (h : ∀ a : Nat, 1 ≤ a → a ≤ m → cntP d a false (4 * d.crs.length) = 1 ∧ cntP d a true (4 * d.crs.length) = 1) : hitsM d m (4 * d.crs.length) = 2 * m := by
  induction m with
  | zero =>
    unfold hitsM
    rw [List.countP_eq_zero.2 (by intro j _; simp; omega)]
  | succ m ih =>
    rw [hitsM_succ, ih fun a h0 h1 => h a h0 (by omega)]
    have := h (m + 1) (by omega) (by omega)
    omega
/-- Does each arc come in once and go out once? -/
def arcsB (d : Dg) : Bool := (List.range (2 * d.crs.length)).all fun a => arcOk d ((a + 1 : Nat) : Int)
theorem mayB_arcs (d : Dg) : mayB d = (decide (d.crs.length ≤ 16 ∧ 0 ≤ d.loops ∧ d.loops ≤ 16 ∧ ¬ (d.crs.length = 0 ∧ d.loops = 0)) && arcsB d) := rfl
theorem arcsB_out {d : Dg} (h : arcsB d = true) (a : Nat) (h0 : 1 ≤ a) (h1 : a ≤ 2 * d.crs.length) : cntP d a false (4 * d.crs.length) = 1 ∧ cntP d a true (4 * d.crs.length) = 1 := by
  have := List.all_eq_true.1 h (a - 1) (by simp; omega)
  rw [show a - 1 + 1 = a by omega] at this
  unfold arcOk at this
  simpa using this
theorem arcsB_no {d : Dg} {a : Nat} (h0 : 1 ≤ a) (h1 : a ≤ 2 * d.crs.length) (h : arcOk d a = false) : arcsB d = false := by
  refine List.all_eq_false.2 ⟨a - 1, by simp; omega, ?_⟩
  rw [show a - 1 + 1 = a by omega, h]; simp
theorem arcsB_yes {d : Dg} (h2 : ∀ a : Nat, 1 ≤ a → a ≤ 2 * d.crs.length → arcOk d a = true) : arcsB d = true := by
  refine List.all_eq_true.2 fun a ha => h2 (a + 1) (by omega) ?_
  simp at ha
  omega
/-- Where each arc comes in once and goes out once, no place has another arc. -/
theorem arcs_rng {d : Dg} (h : arcsB d = true) {j : Nat} (hj : j < 4 * d.crs.length) : 1 ≤ arcJ d j ∧ arcJ d j ≤ 2 * (d.crs.length : Int) := by
  have h1 := hitsM_all (m := 2 * d.crs.length) (arcsB_out h)
  unfold hitsM at h1
  have h2 : (List.range (4 * d.crs.length)).countP (fun j => decide (1 ≤ arcJ d j ∧ arcJ d j ≤ ((2 * d.crs.length : Nat) : Int))) = (List.range (4 * d.crs.length)).length := by rw [h1]; simp; omega
  rw [List.countP_eq_length] at h2
  have := h2 j (by simpa using hj)
  rw [decide_eq_true_iff] at this
  omega
theorem arcs_not {d : Dg} {j : Nat} (hj : j < 4 * d.crs.length) (h : ¬ (1 ≤ arcJ d j ∧ arcJ d j ≤ 2 * (d.crs.length : Int))) : arcsB d = false := by
  cases hm : arcsB d
  · rfl
  · exact absurd (arcs_rng hm hj) h
set_option maxRecDepth 100000 in
set_option maxHeartbeats 1000000 in
theorem arc_any (x : Cr) (k : Nat) (w : World) (hk : k < 4) : Calls Tryd.prog 19 #[crV x, .int .i64 k] w (IntPost (crArc x k) w) := by
  have hkk : k = 0 ∨ k = 1 ∨ k = 2 ∨ k = 3 := by omega
  unfold crV
  obtain ⟨a, b, c, d, p⟩ := x
  have i0 : ∀ w, (Instr.index 53 (.agg #[.int .i64 a, .int .i64 b, .int .i64 c, .int .i64 d]) (.int .i64 0)).run Tryd.prog w = .ok (.int .i64 a) w := fun _ => by kernel_rfl
  have i1 : ∀ w, (Instr.index 53 (.agg #[.int .i64 a, .int .i64 b, .int .i64 c, .int .i64 d]) (.int .i64 1)).run Tryd.prog w = .ok (.int .i64 b) w := fun _ => by kernel_rfl
  have i2 : ∀ w, (Instr.index 53 (.agg #[.int .i64 a, .int .i64 b, .int .i64 c, .int .i64 d]) (.int .i64 2)).run Tryd.prog w = .ok (.int .i64 c) w := fun _ => by kernel_rfl
  have i3 : ∀ w, (Instr.index 53 (.agg #[.int .i64 a, .int .i64 b, .int .i64 c, .int .i64 d]) (.int .i64 3)).run Tryd.prog w = .ok (.int .i64 d) w := fun _ => by kernel_rfl
  rcases hkk with rfl | rfl | rfl | rfl
  all_goals
    go_enter Tryd.func19, Tryd.ntmps19
    go_wp2_with fail
    go_ret
    exact ⟨rfl, (Kp.refl _).alloc _⟩
def overIn (x : Cr) : Nat := if x.plus = true then 3 else 1
set_option maxHeartbeats 1000000 in
theorem overIn_any (x : Cr) (w : World) : Calls Tryd.prog 41 #[crV x] w (IntPost (overIn x) w) := by
  obtain ⟨a, b, c, d, p⟩ := x
  unfold crV overIn
  cases p
  all_goals
    go_enter Tryd.func41, Tryd.ntmps41
    go_wp2_with fail
    go_ret
    exact ⟨rfl, (Kp.refl _).alloc _⟩
set_option maxHeartbeats 1000000 in
theorem comes_any (x : Cr) (k : Nat) (w : World) (hk : k < 4) : Calls Tryd.prog 34 #[crV x, .int .i64 k] w (BoPost (crIn x k) w) := by
  have hkk : k = 0 ∨ k = 1 ∨ k = 2 ∨ k = 3 := by omega
  have ho := Lib.hid fun w' => overIn_any x w'
  obtain ⟨a, b, c, d, p⟩ := x
  unfold crV overIn at *
  rcases hkk with rfl | rfl | rfl | rfl
  · go_enter Tryd.func34, Tryd.ntmps34
    go_wp2_with fail
    go_ret
    exact ⟨rfl, (Kp.refl _).alloc _⟩
  all_goals
    cases p
    all_goals
      go_enter Tryd.func34, Tryd.ntmps34
      go_wp2_with fail
      refine (ho.out _).mono ?_; rintro e w1 ⟨rfl, hk1⟩
      go_wp2_with fail
      go_ret
      exact ⟨rfl, Kp.trans ((Kp.refl _).alloc _) hk1⟩
end Go.Proofs.YtakmjhkgilijiaaDoor
namespace Go.Proofs.YtakmjhkgilijiaaDoor
open Go.ChangeShapes Go.WideShapes Go.ChangeAt Go.RowKit
def CrsPost (base : Nat) (xs : List Cr) (w : World) (e : Ending) (w' : World) : Prop := ∃ A c, e = .returned (.slice A xs.length c) ∧ Ow codCr 42 w' base (.slice A xs.length c) xs ∧ Kp w w'
set_option maxHeartbeats 1000000 in
theorem cloneCrs (A : Option Addr) (c : Nat) (xs : List Cr) (w : World) (hr : Rd codCr w w.heap.size A xs) :
    Calls Tryd.prog 33 #[.slice A xs.length c] w (CrsPost w.heap.size xs w) := by
  have hnl := fun (w : World) (a : Option Addr) (n c : Nat) => Lib.run_eql_slice_nil (P := Tryd.prog) w 29 42 a n c 0 0 Tryd.underlying29
  cases A with
  | none =>
    have h0 : xs.length = 0 := by
      rcases Nat.eq_zero_or_pos xs.length with h | h
      · exact h
      · obtain ⟨b, off, h, _⟩ := Sl.at_ hr h
        cases h
    have hx : xs = [] := List.eq_nil_of_length_eq_zero h0
    subst hx
    go_enter Tryd.func33, Tryd.ntmps33
    go_wp2_with fail
    go_ret
    exact ⟨none, 0, rfl, Ow.nil_, Kp.refl _⟩
  | some ad =>
    go_enter Tryd.func33, Tryd.ntmps33
    go_wp2_with (at_builtin; refine wp_appendSl slCr rfl _ _ rfl (World.ownsRow_made w #[] 0 (Nat.le_refl _) (by unfold maxLen; omega) rfl) rfl rfl (Rd.kp hr ((Kp.refl _).alloc _)) (cr_one xs) (by rw [Nat.zero_add]; exact hr.room) (by simp) ?_; intro v' w1 ho hg _)
    go_ret
    have ho' : Ow codCr 42 w1 w.heap.size v' xs := by
      unfold Ow
      rw [Nat.zero_add, List.nil_append] at ho
      exact ho
    obtain ⟨A', c', rfl, _⟩ := ho'.sl
    exact ⟨A', c', rfl, ho', ((Kp.refl w).alloc _).grown hg (fun k hk => by simp [Value.ownBlock] at hk; omega)⟩
def plF (x : Nat × Nat) : List Value := [.int .i64 x.1, .int .i64 x.2]
def codPl : Cod (Nat × Nat) := ⟨plF, 2, 16, fun _ => rfl⟩
/-- Of each arc, the last of the first J places where it comes in (or goes out). -/
def tabL (d : Dg) (back : Bool) (J : Nat) : List (Nat × Nat) := (List.range (2 * d.crs.length + 1)).map fun a : Nat => lastP d (a : Int) back J
/-- Of each arc, how often it has come in (or gone out). -/
def cntL (d : Dg) (back : Bool) (J : Nat) : List Int := (List.range (2 * d.crs.length + 1)).map fun a : Nat => ((cntP d (a : Int) back J : Nat) : Int)
theorem lastP_succ (d : Dg) (a : Int) (back : Bool) (J : Nat) : lastP d a back (J + 1) = if endP d a back J = true then (J / 4, J % 4) else lastP d a back J := rfl
theorem tabL_len (d : Dg) (back : Bool) (J : Nat) : (tabL d back J).length = 2 * d.crs.length + 1 := by simp [tabL]
theorem cntL_len (d : Dg) (back : Bool) (J : Nat) : (cntL d back J).length = 2 * d.crs.length + 1 := by simp [cntL]
theorem tabL_get {d : Dg} {back : Bool} {J a : Nat} (h : a < 2 * d.crs.length + 1) : ga (tabL d back J) a = lastP d (a : Int) back J := by
  rw [ga_eq (by rw [tabL_len]; exact h)]; simp [tabL]
theorem cntL_get {d : Dg} {back : Bool} {J a : Nat} (h : a < 2 * d.crs.length + 1) : gi (cntL d back J) a = (cntP d (a : Int) back J : Nat) := by
  rw [gi_eq (by rw [cntL_len]; exact h)]; simp [cntL]
theorem tabL_zero (d : Dg) (back : Bool) : tabL d back 0 = List.replicate (2 * d.crs.length + 1) (0, 0) := by
  simp only [tabL, lastP, List.map_const', List.length_range]
theorem cntL_zero (d : Dg) (back : Bool) : cntL d back 0 = List.replicate (2 * d.crs.length + 1) 0 := by
  simp [cntL, cntP, List.map_const']
theorem endP_arc {d : Dg} {a J : Nat} {back : Bool} (h : arcJ d J = a) (a' : Nat) : endP d (a' : Int) back J = (decide (a' = a) && (entryB d (J / 4) (J % 4) != back)) := by
  unfold endP
  have h1 : arcAt d (J / 4) (J % 4) = (a : Int) := h
  rw [h1]
  congr 1
  simp only [decide_eq_decide]
  omega
theorem tabL_hit {d : Dg} {back : Bool} {J a : Nat} (h : arcJ d J = a) (he : entryB d (J / 4) (J % 4) ≠ back) : tabL d back (J + 1) = (tabL d back J).set a (J / 4, J % 4) := by
  apply ga_ext
  · rw [List.length_set, tabL_len, tabL_len]
  · intro i hi
    rw [tabL_len] at hi
    have e := endP_arc (back := back) h i
    by_cases ha : a < (tabL d back J).length
    · rw [ga_set _ _ _ _ ha, tabL_get hi, tabL_get hi, lastP_succ, e]
      by_cases hi' : a = i
      · subst hi'; simp [he]
      · have : ¬ i = a := fun h => hi' h.symm
        simp [hi', this]
    · rw [List.set_eq_of_length_le (by omega), tabL_get hi, tabL_get hi]
      rw [tabL_len] at ha
      rw [lastP_succ, e]
      have : ¬ i = a := by omega
      simp [this]
theorem tabL_miss {d : Dg} {back : Bool} {J : Nat} (he : entryB d (J / 4) (J % 4) = back) : tabL d back (J + 1) = tabL d back J := by
  apply ga_ext
  · rw [tabL_len, tabL_len]
  · intro i hi
    rw [tabL_len] at hi
    rw [tabL_get hi, tabL_get hi, lastP_succ]
    unfold endP
    simp [he]
theorem cntL_hit {d : Dg} {back : Bool} {J a : Nat} (h : arcJ d J = a) (he : entryB d (J / 4) (J % 4) ≠ back) : cntL d back (J + 1) = (cntL d back J).set a (gi (cntL d back J) a + 1) := by
  apply gi_ext
  · rw [List.length_set, cntL_len, cntL_len]
  · intro i hi
    rw [cntL_len] at hi
    have e := endP_arc (back := back) h i
    by_cases ha : a < (cntL d back J).length
    · rw [gi_set _ _ _ _ ha, cntL_get hi, cntL_get hi, cntP_succ, e]
      by_cases hi' : a = i
      · subst hi'; rw [cntL_get hi]; simp [he]
      · have : ¬ i = a := fun h => hi' h.symm
        simp [hi', this]
    · rw [List.set_eq_of_length_le (by omega), cntL_get hi, cntL_get hi, cntP_succ, e]
      rw [cntL_len] at ha
      have : ¬ i = a := by omega
      simp [this]
theorem cntL_miss {d : Dg} {back : Bool} {J : Nat} (he : entryB d (J / 4) (J % 4) = back) : cntL d back (J + 1) = cntL d back J := by
  apply gi_ext
  · rw [cntL_len, cntL_len]
  · intro i hi
    rw [cntL_len] at hi
    rw [cntL_get hi, cntL_get hi, cntP_succ]
    unfold endP
    simp [he]
end Go.Proofs.YtakmjhkgilijiaaDoor
namespace Go.Proofs.YtakmjhkgilijiaaDoor
open Go.ChangeShapes Go.WideShapes Go.ChangeAt Go.RowKit
theorem slPl : SlT Tryd.prog 66 72 2 16 (.agg #[.int .i64 0, .int .i64 0]) := ⟨Tryd.underlying66, by kernel_rfl, rfl, by omega, by omega⟩
/-- What the first statements of 'Build' leave: the diagram at work, with empty tables. -/
def Sh (d : Dg) (w0 w : World) (p : Value) (ti tu : List (Nat × Nat)) : Prop :=
  ∃ g A c gi go, p = .pointer (some ⟨g, 0, none⟩) ∧
    Blk w g 68 #[.slice A d.crs.length c, .int .i64 d.loops, .slice (some ⟨gi, 0, none⟩) (2 * d.crs.length + 1) (2 * d.crs.length + 1), .slice (some ⟨go, 0, none⟩) (2 * d.crs.length + 1) (2 * d.crs.length + 1)] ∧
    gi ≠ go ∧ w0.heap.size < g ∧
    Ow codCr 42 w (w0.heap.size + 1) (.slice A d.crs.length c) d.crs ∧
    Ow codPl 72 w (w0.heap.size + 1) (.slice (some ⟨gi, 0, none⟩) (2 * d.crs.length + 1) (2 * d.crs.length + 1)) ti ∧
    Ow codPl 72 w (w0.heap.size + 1) (.slice (some ⟨go, 0, none⟩) (2 * d.crs.length + 1) (2 * d.crs.length + 1)) tu
theorem Sh.kp {d : Dg} {w0 w w' : World} {p : Value} {ti tu : List (Nat × Nat)} (h : Sh d w0 w p ti tu) (hk : Kp w w') : Sh d w0 w' p ti tu := by
  obtain ⟨g, A, c, gi, go, r1, r2, r3, r4, r5, r6, r7⟩ := h
  exact ⟨g, A, c, gi, go, r1, r2.kp hk, r3, r4, r5.kp hk, r6.kp hk, r7.kp hk⟩
/-- The state of 'Build' behind the first J places. -/
def Bs (d : Dg) (w0 w : World) (p ci co : Value) (J : Nat) : Prop :=
  Sh d w0 w p (tabL d false J) (tabL d true J) ∧ ∃ ga gb, ci = .slice (some ⟨ga, 0, none⟩) (2 * d.crs.length + 1) (2 * d.crs.length + 1) ∧ co = .slice (some ⟨gb, 0, none⟩) (2 * d.crs.length + 1) (2 * d.crs.length + 1) ∧ ga ≠ gb ∧
    OwnI w (w0.heap.size + 1) (.slice (some ⟨ga, 0, none⟩) (2 * d.crs.length + 1) (2 * d.crs.length + 1)) (cntL d false J) ∧ OwnI w (w0.heap.size + 1) (.slice (some ⟨gb, 0, none⟩) (2 * d.crs.length + 1) (2 * d.crs.length + 1)) (cntL d true J)
/-- The same, its blocks told. -/
structure Bq (d : Dg) (b0 g : Nat) (A : Option Addr) (c gi go ga gb : Nat) (w : World) (J : Nat) : Prop where
  sh : Blk w g 68 #[.slice A d.crs.length c, .int .i64 d.loops, .slice (some ⟨gi, 0, none⟩) (2 * d.crs.length + 1) (2 * d.crs.length + 1), .slice (some ⟨go, 0, none⟩) (2 * d.crs.length + 1) (2 * d.crs.length + 1)]
  cr : Ow codCr 42 w b0 (.slice A d.crs.length c) d.crs
  ti : Ow codPl 72 w b0 (.slice (some ⟨gi, 0, none⟩) (2 * d.crs.length + 1) (2 * d.crs.length + 1)) (tabL d false J)
  tu : Ow codPl 72 w b0 (.slice (some ⟨go, 0, none⟩) (2 * d.crs.length + 1) (2 * d.crs.length + 1)) (tabL d true J)
  ci : OwnI w b0 (.slice (some ⟨ga, 0, none⟩) (2 * d.crs.length + 1) (2 * d.crs.length + 1)) (cntL d false J)
  co : OwnI w b0 (.slice (some ⟨gb, 0, none⟩) (2 * d.crs.length + 1) (2 * d.crs.length + 1)) (cntL d true J)
  n1 : gi ≠ go
  n2 : ga ≠ gb
  lt : b0 ≤ g
section
variable {d : Dg} {b0 g c gi go ga gb J : Nat} {A : Option Addr} {w w' : World}
theorem Bq.kp (h : Bq d b0 g A c gi go ga gb w J) (hk : Kp w w') : Bq d b0 g A c gi go ga gb w' J :=
  ⟨h.sh.kp hk, h.cr.kp hk, h.ti.kp hk, h.tu.kp hk, h.ci.kp hk, h.co.kp hk, h.n1, h.n2, h.lt⟩
theorem ownI_ow {w : World} {b : Nat} {v : Value} {xs : List Int} (h : OwnI w b v xs) : Ow codI 3 w b v xs := by
  unfold Ow
  rw [flat_iv]
  exact h
theorem OwnI.kept {w w' : World} {b : Nat} {v : Value} {xs : List Int} {row : Option Nat} (h : OwnI w b v xs) (hg : Gr w w' row) (hne : v.ownBlock = none ∨ v.ownBlock ≠ row) : OwnI w' b v xs := World.ownsRow.kept h hg hne
theorem blk_ne {w : World} {α : Type} {C : Cod α} {E t : TypeId} {b g : Nat} {v : Value} {xs : List α} {cs : Array Value} (h : Ow C E w b v xs) (h' : Blk w g t cs) (hne : E ≠ t) : some g ≠ v.ownBlock := by
  rcases h.ne_blk h' hne with h | h
  · rw [h]; simp
  · exact fun e => h e.symm
theorem Bq.hitIn (h : Bq d b0 g A c gi go ga gb w J) {a : Nat} (ha : a < 2 * d.crs.length + 1) (hj : arcJ d J = a) (he : entryB d (J / 4) (J % 4) = true) :
    Bq d b0 g A c gi go ga gb (((w.setCell ⟨gi, a * 2, none⟩ (.int .i64 ((J / 4 : Nat) : Int))).setCell ⟨gi, a * 2 + 1, none⟩ (.int .i64 ((J % 4 : Nat) : Int))).setCell ⟨ga, a, none⟩ (.int .i64 (Go.Proofs.YtakmjhkgilijiaaDoor.gi (cntL d false J) a + 1))) (J + 1) := by
  have ht : tabL d false (J + 1) = (tabL d false J).set a (J / 4, J % 4) := tabL_hit hj (by simp [he])
  have hu : tabL d true (J + 1) = tabL d true J := tabL_miss he
  have hc : cntL d false (J + 1) = (cntL d false J).set a (Go.Proofs.YtakmjhkgilijiaaDoor.gi (cntL d false J) a + 1) := cntL_hit hj (by simp [he])
  have ho : cntL d true (J + 1) = cntL d true J := cntL_miss he
  have s1 := h.ti.set2 rfl (i := a) (by rw [tabL_len]; exact ha) (.int .i64 ((J / 4 : Nat) : Int)) (.int .i64 ((J % 4 : Nat) : Int)) (J / 4, J % 4) rfl
  have g1 := gr_set2 (w := w) (g := gi) (i := a * 2) (j := a * 2 + 1) (.int .i64 ((J / 4 : Nat) : Int)) (.int .i64 ((J % 4 : Nat) : Int))
  have c1 := h.ci.kept g1 (ownI_ow h.ci |>.ne_ h.ti (by decide))
  have g2 := gr_set1 (w := (w.setCell ⟨gi, a * 2, none⟩ (.int .i64 ((J / 4 : Nat) : Int))).setCell ⟨gi, a * 2 + 1, none⟩ (.int .i64 ((J % 4 : Nat) : Int))) (g := ga) (i := a) (.int .i64 (Go.Proofs.YtakmjhkgilijiaaDoor.gi (cntL d false J) a + 1))
  have k1 := h.sh.gr g1 (blk_ne h.ti h.sh (by decide))
  have q1 := h.cr.kept g1 (h.cr.ne_ h.ti (by decide))
  have u1 := h.tu.kept g1 (.inr (by simpa [Value.ownBlock] using h.n1.symm))
  have o1 := h.co.kept g1 (ownI_ow h.co |>.ne_ h.ti (by decide))
  refine ⟨k1.gr g2 (blk_ne (ownI_ow c1) k1 (by decide)), q1.kept g2 (q1.ne_ (ownI_ow c1) (by decide)), ?_, ?_, ?_, ?_, h.n1, h.n2, h.lt⟩
  · rw [ht]; exact s1.kept g2 (s1.ne_ (ownI_ow c1) (by decide))
  · rw [hu]; exact u1.kept g2 (u1.ne_ (ownI_ow c1) (by decide))
  · rw [hc]; exact c1.set_ a _
  · rw [ho]; exact o1.kept g2 (.inr (by simpa [Value.ownBlock] using h.n2.symm))
theorem Bq.hitOut (h : Bq d b0 g A c gi go ga gb w J) {a : Nat} (ha : a < 2 * d.crs.length + 1) (hj : arcJ d J = a) (he : entryB d (J / 4) (J % 4) = false) :
    Bq d b0 g A c gi go ga gb (((w.setCell ⟨go, a * 2, none⟩ (.int .i64 ((J / 4 : Nat) : Int))).setCell ⟨go, a * 2 + 1, none⟩ (.int .i64 ((J % 4 : Nat) : Int))).setCell ⟨gb, a, none⟩ (.int .i64 (Go.Proofs.YtakmjhkgilijiaaDoor.gi (cntL d true J) a + 1))) (J + 1) := by
  have ht : tabL d true (J + 1) = (tabL d true J).set a (J / 4, J % 4) := tabL_hit hj (by simp [he])
  have hu : tabL d false (J + 1) = tabL d false J := tabL_miss he
  have hc : cntL d true (J + 1) = (cntL d true J).set a (Go.Proofs.YtakmjhkgilijiaaDoor.gi (cntL d true J) a + 1) := cntL_hit hj (by simp [he])
  have ho : cntL d false (J + 1) = cntL d false J := cntL_miss he
  have s1 := h.tu.set2 rfl (i := a) (by rw [tabL_len]; exact ha) (.int .i64 ((J / 4 : Nat) : Int)) (.int .i64 ((J % 4 : Nat) : Int)) (J / 4, J % 4) rfl
  have g1 := gr_set2 (w := w) (g := go) (i := a * 2) (j := a * 2 + 1) (.int .i64 ((J / 4 : Nat) : Int)) (.int .i64 ((J % 4 : Nat) : Int))
  have c1 := h.co.kept g1 (ownI_ow h.co |>.ne_ h.tu (by decide))
  have g2 := gr_set1 (w := (w.setCell ⟨go, a * 2, none⟩ (.int .i64 ((J / 4 : Nat) : Int))).setCell ⟨go, a * 2 + 1, none⟩ (.int .i64 ((J % 4 : Nat) : Int))) (g := gb) (i := a) (.int .i64 (Go.Proofs.YtakmjhkgilijiaaDoor.gi (cntL d true J) a + 1))
  have k1 := h.sh.gr g1 (blk_ne h.tu h.sh (by decide))
  have q1 := h.cr.kept g1 (h.cr.ne_ h.tu (by decide))
  have u1 := h.ti.kept g1 (.inr (by simpa [Value.ownBlock] using h.n1))
  have o1 := h.ci.kept g1 (ownI_ow h.ci |>.ne_ h.tu (by decide))
  refine ⟨k1.gr g2 (blk_ne (ownI_ow c1) k1 (by decide)), q1.kept g2 (q1.ne_ (ownI_ow c1) (by decide)), ?_, ?_, ?_, ?_, h.n1, h.n2, h.lt⟩
  · rw [hu]; exact u1.kept g2 (u1.ne_ (ownI_ow c1) (by decide))
  · rw [ht]; exact s1.kept g2 (s1.ne_ (ownI_ow c1) (by decide))
  · rw [ho]; exact o1.kept g2 (.inr (by simpa [Value.ownBlock] using h.n2))
  · rw [hc]; exact c1.set_ a _
theorem Bq.inAt (h : Bq d b0 g A c gi go ga gb w J) {a : Nat} (ha : a < 2 * d.crs.length + 1) : ∃ x y X : Int, w.cell? ⟨gi, a * 2, none⟩ = some (.int .i64 x) ∧ w.cell? ⟨gi, a * 2 + 1, none⟩ = some (.int .i64 y) ∧ w.cell? ⟨ga, a, none⟩ = some (.int .i64 X) ∧
    w.frozen? ⟨gi, a * 2, none⟩ = false ∧ w.frozen? ⟨gi, a * 2 + 1, none⟩ = false ∧ w.frozen? ⟨ga, a, none⟩ = false ∧ gi ≠ ga ∧ ga ≠ gi ∧ Hid (Go.Proofs.YtakmjhkgilijiaaDoor.gi (cntL d false J) a = X) ∧ 0 ≤ X ∧ X ≤ J := by
  have hl : a < (tabL d false J).length := by rw [tabL_len]; exact ha
  have hne : gi ≠ ga := by
    rcases h.ti.ne_ (ownI_ow h.ci) (by decide) with h | h
    · simp [Value.ownBlock] at h
    · simpa [Value.ownBlock] using h
  have hx := cntP_le d a false J
  exact ⟨_, _, _, h.ti.cell hl (j := 0) (by decide) rfl, h.ti.cell hl (j := 1) (by decide) rfl, h.ci.cell (by rw [cntL_len]; exact ha), h.ti.free _, h.ti.free _, h.ci.free _, hne, hne.symm, rfl,
    by rw [cntL_get ha]; omega, by rw [cntL_get ha]; omega⟩
theorem Bq.outAt (h : Bq d b0 g A c gi go ga gb w J) {a : Nat} (ha : a < 2 * d.crs.length + 1) : ∃ x y X : Int, w.cell? ⟨go, a * 2, none⟩ = some (.int .i64 x) ∧ w.cell? ⟨go, a * 2 + 1, none⟩ = some (.int .i64 y) ∧ w.cell? ⟨gb, a, none⟩ = some (.int .i64 X) ∧
    w.frozen? ⟨go, a * 2, none⟩ = false ∧ w.frozen? ⟨go, a * 2 + 1, none⟩ = false ∧ w.frozen? ⟨gb, a, none⟩ = false ∧ go ≠ gb ∧ gb ≠ go ∧ Hid (Go.Proofs.YtakmjhkgilijiaaDoor.gi (cntL d true J) a = X) ∧ 0 ≤ X ∧ X ≤ J := by
  have hl : a < (tabL d true J).length := by rw [tabL_len]; exact ha
  have hne : go ≠ gb := by
    rcases h.tu.ne_ (ownI_ow h.co) (by decide) with h | h
    · simp [Value.ownBlock] at h
    · simpa [Value.ownBlock] using h
  have hx := cntP_le d a true J
  exact ⟨_, _, _, h.tu.cell hl (j := 0) (by decide) rfl, h.tu.cell hl (j := 1) (by decide) rfl, h.co.cell (by rw [cntL_len]; exact ha), h.tu.free _, h.tu.free _, h.co.free _, hne, hne.symm, rfl,
    by rw [cntL_get ha]; omega, by rw [cntL_get ha]; omega⟩
end
/-- v is a pointer to the diagram d at work, in blocks from b0 on. -/
def IsSh (w : World) (b0 : Nat) (v : Value) (d : Dg) : Prop :=
  ∃ g A c gi go, v = .pointer (some ⟨g, 0, none⟩) ∧ b0 ≤ g ∧ gi ≠ go ∧
    Blk w g 68 #[.slice A d.crs.length c, .int .i64 d.loops, .slice (some ⟨gi, 0, none⟩) (2 * d.crs.length + 1) (2 * d.crs.length + 1), .slice (some ⟨go, 0, none⟩) (2 * d.crs.length + 1) (2 * d.crs.length + 1)] ∧
    Ow codCr 42 w b0 (.slice A d.crs.length c) d.crs ∧
    Ow codPl 72 w b0 (.slice (some ⟨gi, 0, none⟩) (2 * d.crs.length + 1) (2 * d.crs.length + 1)) (tabL d false (4 * d.crs.length)) ∧
    Ow codPl 72 w b0 (.slice (some ⟨go, 0, none⟩) (2 * d.crs.length + 1) (2 * d.crs.length + 1)) (tabL d true (4 * d.crs.length))
theorem Bq.isSh {d : Dg} {b0 g c gi go ga gb : Nat} {A : Option Addr} {w : World} (h : Bq d b0 g A c gi go ga gb w (4 * d.crs.length)) : IsSh w b0 (.pointer (some ⟨g, 0, none⟩)) d :=
  ⟨g, A, c, gi, go, rfl, h.lt, h.n1, h.sh, h.cr, h.ti, h.tu⟩
def NoShPost (w : World) (e : Ending) (w' : World) : Prop := e = .returned (.tuple #[.pointer none, .bool false]) ∧ Kp w w'
def ShPost (d : Dg) (w : World) (e : Ending) (w' : World) : Prop := ∃ v, e = .returned (.tuple #[v, .bool true]) ∧ Kp w w' ∧ IsSh w' w.heap.size v d
def BuildPost (b : Bool) (d : Dg) (w : World) (e : Ending) (w' : World) : Prop := (b = false ∧ NoShPost w e w') ∨ (b = true ∧ ShPost d w e w')
set_option maxRecDepth 100000 in
set_option maxHeartbeats 4000000 in
theorem build_any (v : Value) (d : Dg) (w : World) (hd : IsDg w w.heap.size v d) (hn : d.crs.length ≤ 16) :
    Calls Tryd.prog 29 #[v] w (BuildPost (arcsB d) d w) := by
  obtain ⟨A, cap, rfl, hcap, hr⟩ := hd
  have hm := fun W => make_of slPl (2 * d.crs.length + 1) (2 * (d.crs.length : Int) + 1) (by omega) (by omega) W
  have hm2 := fun W => make_of slInt (2 * d.crs.length + 1) (2 * (d.crs.length : Int) + 1) (by omega) (by omega) W
  generalize hZ : madeCells (Value.agg #[.int .i64 0, .int .i64 0]).cells ((2 * d.crs.length + 1) * 2) = Z at *
  generalize hY : madeCells (Value.int .i64 0).cells ((2 * d.crs.length + 1) * 1) = Y at *
  have HZ := Lib.hid hZ
  have HY := Lib.hid hY
  clear hZ hY
  go_enter Tryd.func29, Tryd.ntmps29
  have W0 : IntKind.i64.wrap (2 * (d.crs.length : Int)) = 2 * (d.crs.length : Int) := IntWalk.i64_in _ (by omega)
  have W1 : IntKind.i64.wrap (2 * (d.crs.length : Int) + 1) = 2 * (d.crs.length : Int) + 1 := IntWalk.i64_in _ (by omega)
  have E0 : Hid ((w.alloc (.cells #[.slice A d.crs.length cap, .int .i64 d.loops] 31)).cell? ⟨w.heap.size, 0, none⟩ = some (.slice A d.crs.length cap)) := (Blk.new _ _ _).cell 0 rfl
  have E1 : Hid ((w.alloc (.cells #[.slice A d.crs.length cap, .int .i64 d.loops] 31)).cell? ⟨w.heap.size, 1, none⟩ = some (.int .i64 d.loops)) := (Blk.new _ _ _).cell 1 rfl
  go_upto_region 2 with (fail)
  go_cut [5] (fun p wx => Kp (w.alloc (.cells #[.slice A d.crs.length cap, .int .i64 d.loops] 31)) wx ∧ Sh d w wx p (tabL d false 0) (tabL d true 0))
  case first =>
    go_region_held3 (fun W => W.cell? ⟨w.heap.size, 0, none⟩ = some (.slice A d.crs.length cap) ∧ W.cell? ⟨w.heap.size, 1, none⟩ = some (.int .i64 d.loops)) (go_keep) (first
      | (go_at_call 33; refine (cloneCrs A cap d.crs _ (hr.kp (by repeat (with_reducible (first | exact Kp.refl _ | refine Kp.alloc ?_ _ | refine Kp.drew ?_))))).mono ?_; rintro e w1 ⟨A1, c1, rfl, ho1, hk1⟩; have hq : Kp (w.alloc (.cells #[.slice A d.crs.length cap, .int .i64 d.loops] 31)) w1 := Kp.trans (by repeat (with_reducible (first | exact Kp.refl _ | refine Kp.alloc ?_ _ | refine Kp.drew ?_))) hk1; have q0 := hq.c E0.out; have q1 := hq.c E1.out; obtain ⟨l0, l1, l2, l3, l4⟩ := lts hq.alt))
    all_goals
      have lk := hk1.size
      simp at lk
      go_wp2_with fail
      go_meet
      refine ⟨?_, _, A1, c1, _, _, rfl, Blk.new' _ _ _ (by simp), ?_, ?_, ?_, ?_, ?_⟩
      · repeat (with_reducible (first | exact Kp.refl _ | refine Kp.alloc ?_ _ | refine Kp.drew ?_ | refine Kp.trans ?_ hk1))
      · omega
      · omega
      · refine (Ow.base (ho1.kp ?_) (by simp)); repeat (with_reducible (first | exact Kp.refl _ | refine Kp.alloc ?_ _ | refine Kp.drew ?_))
      · rw [tabL_zero]
        refine Ow.made (C := codPl) (z := .agg #[.int .i64 0, .int .i64 0]) rfl ?_ (by first | omega | (simp; done) | (simp; omega)) (by unfold maxLen; omega)
        change Blk _ _ _ (madeCells (Value.agg #[.int .i64 0, .int .i64 0]).cells ((2 * d.crs.length + 1) * 2))
        rw [HZ.out]
        repeat (first | ((with_reducible refine Blk.new' _ _ _ ?_); (simp; done)) | with_reducible refine Blk.alloc ?_ _ | with_reducible refine Blk.drew ?_ | with_reducible refine Blk.kp ?_ hk1)
      · rw [tabL_zero]
        refine Ow.made (C := codPl) (z := .agg #[.int .i64 0, .int .i64 0]) rfl ?_ (by first | omega | (simp; done) | (simp; omega)) (by unfold maxLen; omega)
        change Blk _ _ _ (madeCells (Value.agg #[.int .i64 0, .int .i64 0]).cells ((2 * d.crs.length + 1) * 2))
        rw [HZ.out]
        repeat (first | ((with_reducible refine Blk.new' _ _ _ ?_); (simp; done)) | with_reducible refine Blk.alloc ?_ _ | with_reducible refine Blk.drew ?_ | with_reducible refine Blk.kp ?_ hk1)
  case rest =>
    obtain ⟨hkc, hS⟩ := hcut
    have hr' := Lib.hid hr
    clear hm hr E0 E1
    go_upto_region 3 with (fail)
    go_cut [6, 7] (fun ci co wx => Kp (w.alloc (.cells #[.slice A d.crs.length cap, .int .i64 d.loops] 31)) wx ∧ Bs d w wx u5 ci co 0)
    case first =>
      go_region
      all_goals
        have lk := hkc.size
        simp at lk
        go_wp2_with fail
        go_meet
        refine ⟨?_, ?_, _, _, rfl, rfl, ?_, ?_, ?_⟩
        · repeat (with_reducible (first | exact Kp.refl _ | refine Kp.alloc ?_ _ | refine Kp.drew ?_ | refine Kp.trans ?_ hkc))
        · refine hS.kp ?_
          repeat (with_reducible (first | exact Kp.refl _ | refine Kp.alloc ?_ _ | refine Kp.drew ?_))
        · omega
        · rw [cntL_zero]
          refine OwnI.of_ow (Ow.made (C := codI) (z := .int .i64 0) rfl ?_ (by first | omega | (simp; done) | (simp; omega)) (by unfold maxLen; omega))
          change Blk _ _ _ (madeCells (Value.int .i64 0).cells ((2 * d.crs.length + 1) * 1))
          rw [HY.out]
          repeat (first | ((with_reducible refine Blk.new' _ _ _ ?_); (simp; done)) | with_reducible refine Blk.alloc ?_ _ | with_reducible refine Blk.drew ?_)
        · rw [cntL_zero]
          refine OwnI.of_ow (Ow.made (C := codI) (z := .int .i64 0) rfl ?_ (by first | omega | (simp; done) | (simp; omega)) (by unfold maxLen; omega))
          change Blk _ _ _ (madeCells (Value.int .i64 0).cells ((2 * d.crs.length + 1) * 1))
          rw [HY.out]
          repeat (first | ((with_reducible refine Blk.new' _ _ _ ?_); (simp; done)) | with_reducible refine Blk.alloc ?_ _ | with_reducible refine Blk.drew ?_)
    case rest =>
      clear hkc hS hm2 W0 W1
      obtain ⟨hkc, ⟨g, A1, c1, gi, go, rfl, hb, n1, hl, o1, o2, o3⟩, ga, gb, rfl, rfl, n2, o4, o5⟩ := hcut
      have hQ : Bq d (w.heap.size + 1) g A1 c1 gi go ga gb wc 0 := ⟨hb, o1, o2, o3, o4, o5, n1, n2, by omega⟩
      clear hb n1 n2 o1 o2 o3 o4 o5
      have hkx : Kp w wc := hkc.al
      have hx := (Blk.new w 31 #[.slice A d.crs.length cap, .int .i64 d.loops]).kp hkc
      obtain ⟨e0, e1, e2, e3⟩ := hx.two
      clear HZ HY
      go_wp2_with fail
      go_loopw [43] (fun i wr => ∃ n : Nat, n ≤ d.crs.length ∧ i = .int .i64 n ∧ Kp w wr ∧ Bq d (w.heap.size + 1) g A1 c1 gi go ga gb wr (4 * n) ∧ Hid (∀ j, j < 4 * n → 1 ≤ arcJ d j ∧ arcJ d j ≤ 2 * (d.crs.length : Int))) (fun i _ => d.crs.length - (intOf i).toNat)
      case atStart => exact ⟨0, Nat.zero_le _, rfl, hkx, hQ, fun j hj => by omega⟩
      case round =>
        clear hQ hkx e0 e1 e2 e3 hx hkc
        obtain ⟨n, hn', rfl, hk, hQ, hrg⟩ := hrel
        by_cases hlt : n < d.crs.length
        · obtain ⟨b, off, rfl, hb1, k0, k1, k2, k3, k4⟩ := crAt (hr'.out.kp hk) hlt
          obtain ⟨wo, rfl⟩ : ∃ wo : World, wo = wr := ⟨_, rfl⟩
          obtain ⟨l0, l1, l2, l3, l4⟩ := lts hb1
          have hx := Blk.new wo 42 #[.int .i64 (Go.Proofs.YtakmjhkgilijiaaDoor.ga d.crs n).a, .int .i64 (Go.Proofs.YtakmjhkgilijiaaDoor.ga d.crs n).b, .int .i64 (Go.Proofs.YtakmjhkgilijiaaDoor.ga d.crs n).c, .int .i64 (Go.Proofs.YtakmjhkgilijiaaDoor.ga d.crs n).d, .bool (Go.Proofs.YtakmjhkgilijiaaDoor.ga d.crs n).plus]
          have hx0 : ∀ k, k < 4 → arcJ d (4 * n + k) = crArc (Go.Proofs.YtakmjhkgilijiaaDoor.ga d.crs n) k ∧ entryB d ((4 * n + k) / 4) ((4 * n + k) % 4) = crIn (Go.Proofs.YtakmjhkgilijiaaDoor.ga d.crs n) k ∧ (4 * n + k) / 4 = n ∧ (4 * n + k) % 4 = k := fun k hk => by
            have h1 : (4 * n + k) / 4 = n := by omega
            have h2 : (4 * n + k) % 4 = k := by omega
            unfold arcJ arcAt entryB
            rw [h1, h2]
            exact ⟨rfl, rfl, rfl, rfl⟩
          have HX := Lib.hid hx0
          clear hx0
          generalize Go.Proofs.YtakmjhkgilijiaaDoor.ga d.crs n = x at *
          go_wp2_with fail
          go_loopw [48] (fun i wr => ∃ m : Nat, m ≤ 4 ∧ i = .int .i64 m ∧ Kp w wr ∧ Bq d (w.heap.size + 1) g A1 c1 gi go ga gb wr (4 * n + m) ∧ Hid (∀ j, j < 4 * n + m → 1 ≤ arcJ d j ∧ arcJ d j ≤ 2 * (d.crs.length : Int)) ∧
            Blk wr wo.heap.size 42 #[.int .i64 x.a, .int .i64 x.b, .int .i64 x.c, .int .i64 x.d, .bool x.plus]) (fun i _ => 4 - (intOf i).toNat)
          case atStart => exact ⟨0, Nat.zero_le _, rfl, hk.alloc _, hQ.kp ((Kp.refl _).alloc _), hrg.out, hx⟩
          case round =>
            clear hQ hk hrg hx k0 k1 k2 k3 k4 l0 l1 l2 l3 l4 hb1
            obtain ⟨m, hm, rfl, hk, hQ, hrg, hx⟩ := hrel
            by_cases hm4 : m < 4
            · obtain ⟨k0, k1, k2, k3, k4⟩ := hx.cr
              obtain ⟨l0, l1, l2, l3, l4⟩ := lts hx.lt
              obtain ⟨hj, hen, hq1, hq2⟩ := HX.out m hm4
              by_cases hlo : 1 ≤ crArc x m
              · by_cases hhi : crArc x m ≤ 2 * (d.crs.length : Int)
                · obtain ⟨a, ha⟩ := Int.eq_ofNat_of_zero_le (show 0 ≤ crArc x m by omega)
                  rw [ha] at hlo hhi hj
                  have ha' := Lib.hid ha
                  clear ha
                  cases he : crIn x m
                  · rw [he] at hen
                    have he' := Lib.hid he
                    have hN := fun w' (h : Bq d (w.heap.size + 1) g A1 c1 gi go ga gb w' (4 * n + m)) => h.hitOut (a := a) (by omega) hj hen
                    rw [hq1, hq2] at hN
                    have HN := Lib.hid hN
                    have hj' := Lib.hid hj
                    clear hN hj hen hq1 hq2 he
                    go_wp2_with fail
                    refine (arc_any x m _ hm4).mono ?_; rintro e w1 ⟨rfl, hk1⟩
                    rw [ha'.out]
                    obtain ⟨cc, cf⟩ := hk1.cf (n := wr.heap.size) rfl
                    go_wp2_with fail
                    refine (comes_any x m _ hm4).mono ?_; rintro e w2 ⟨rfl, hk2⟩
                    rw [he'.out]
                    clear cc cf
                    have hQ2 := (hQ.kp hk1).kp hk2
                    have hx2 := (hx.kp hk1).kp hk2
                    have b1 : wo.heap.size ≠ go := fun e => blk_ne hQ2.tu hx2 (by decide) (by rw [e]; rfl)
                    have b2 : wo.heap.size ≠ gb := fun e => blk_ne (ownI_ow hQ2.co) hx2 (by decide) (by rw [e]; rfl)
                    have b3 := (hQ2.tu.lt go rfl).1
                    have b4 := (hQ2.co.lt gb rfl).1
                    obtain ⟨s0, s1, s2, s3⟩ := hQ2.sh.four
                    obtain ⟨x0, y0, X, t0, t1, t2, t3, t4, t5, t6, t7, hX, X0, X1⟩ := hQ2.outAt (a := a) (by omega)
                    go_wp2_with fail
                    go_roundw
                    case rel =>
                      have hq := HN.out w2 hQ2
                      rw [hX.out] at hq
                      exact ⟨m + 1, by omega, by go_num, ((((hk.trans hk1).trans hk2).setCell (p := ⟨go, a * 2, none⟩) (by simp; omega) _).setCell (p := ⟨go, a * 2 + 1, none⟩) (by simp; omega) _).setCell (p := ⟨gb, a, none⟩) (by simp; omega) _, hq,
                        fun j h => by
                          rcases Nat.lt_or_ge j (4 * n + m) with h1 | h1
                          · exact hrg.out j h1
                          · obtain rfl : j = 4 * n + m := by omega
                            rw [hj'.out]; omega,
                        ((hx2.far (p := ⟨go, a * 2, none⟩) b1 _).far (p := ⟨go, a * 2 + 1, none⟩) b1 _).far (p := ⟨gb, a, none⟩) b2 _⟩
                    case measure => simp [intOf] <;> omega
                  · rw [he] at hen
                    have he' := Lib.hid he
                    have hN := fun w' (h : Bq d (w.heap.size + 1) g A1 c1 gi go ga gb w' (4 * n + m)) => h.hitIn (a := a) (by omega) hj hen
                    rw [hq1, hq2] at hN
                    have HN := Lib.hid hN
                    have hj' := Lib.hid hj
                    clear hN hj hen hq1 hq2 he
                    go_wp2_with fail
                    refine (arc_any x m _ hm4).mono ?_; rintro e w1 ⟨rfl, hk1⟩
                    rw [ha'.out]
                    obtain ⟨cc, cf⟩ := hk1.cf (n := wr.heap.size) rfl
                    go_wp2_with fail
                    refine (comes_any x m _ hm4).mono ?_; rintro e w2 ⟨rfl, hk2⟩
                    rw [he'.out]
                    clear cc cf
                    have hQ2 := (hQ.kp hk1).kp hk2
                    have hx2 := (hx.kp hk1).kp hk2
                    have b1 : wo.heap.size ≠ gi := fun e => blk_ne hQ2.ti hx2 (by decide) (by rw [e]; rfl)
                    have b2 : wo.heap.size ≠ ga := fun e => blk_ne (ownI_ow hQ2.ci) hx2 (by decide) (by rw [e]; rfl)
                    have b3 := (hQ2.ti.lt gi rfl).1
                    have b4 := (hQ2.ci.lt ga rfl).1
                    obtain ⟨s0, s1, s2, s3⟩ := hQ2.sh.four
                    obtain ⟨x0, y0, X, t0, t1, t2, t3, t4, t5, t6, t7, hX, X0, X1⟩ := hQ2.inAt (a := a) (by omega)
                    go_wp2_with fail
                    go_roundw
                    case rel =>
                      have hq := HN.out w2 hQ2
                      rw [hX.out] at hq
                      exact ⟨m + 1, by omega, by go_num, ((((hk.trans hk1).trans hk2).setCell (p := ⟨gi, a * 2, none⟩) (by simp; omega) _).setCell (p := ⟨gi, a * 2 + 1, none⟩) (by simp; omega) _).setCell (p := ⟨ga, a, none⟩) (by simp; omega) _, hq,
                        fun j h => by
                          rcases Nat.lt_or_ge j (4 * n + m) with h1 | h1
                          · exact hrg.out j h1
                          · obtain rfl : j = 4 * n + m := by omega
                            rw [hj'.out]; omega,
                        ((hx2.far (p := ⟨gi, a * 2, none⟩) b1 _).far (p := ⟨gi, a * 2 + 1, none⟩) b1 _).far (p := ⟨ga, a, none⟩) b2 _⟩
                    case measure => simp [intOf] <;> omega
                · have hno := Lib.hid (arcs_not (d := d) (j := 4 * n + m) (by omega) (by rw [hj]; omega))
                  clear hj hen hq1 hq2
                  go_wp2_with fail
                  refine (arc_any x m _ hm4).mono ?_; rintro e w1 ⟨rfl, hk1⟩
                  go_wp2_with fail
                  go_ret2
                  exact .inl ⟨hno.out, rfl, hk.trans hk1⟩
              · have hno := Lib.hid (arcs_not (d := d) (j := 4 * n + m) (by omega) (by rw [hj]; omega))
                clear hj hen hq1 hq2
                go_wp2_with fail
                refine (arc_any x m _ hm4).mono ?_; rintro e w1 ⟨rfl, hk1⟩
                go_wp2_with fail
                go_ret2
                exact .inl ⟨hno.out, rfl, hk.trans hk1⟩
            · obtain rfl : m = 4 := by omega
              go_wp2_with fail
              go_roundw
              case rel => exact ⟨n + 1, by omega, by go_num, hk, hQ, hrg.out⟩
              case measure => simp [intOf] <;> omega
        · obtain rfl : n = d.crs.length := by omega
          go_wp2_with fail
          obtain ⟨wo, rfl⟩ : ∃ wo : World, wo = wr := ⟨_, rfl⟩
          go_loop [12] (fun i => ∃ a : Nat, 1 ≤ a ∧ a ≤ 2 * d.crs.length + 1 ∧ i = .int .i64 a ∧ Hid (∀ a' : Nat, 1 ≤ a' → a' < a → arcOk d a' = true)) (fun i => 2 * d.crs.length + 1 - (intOf i).toNat)
          case atStart => exact ⟨1, by omega, by omega, rfl, fun a h1 h2 => by omega⟩
          case round =>
            obtain ⟨a, ha0, ha1, rfl, hok⟩ := hrel
            by_cases hlt2 : a ≤ 2 * d.crs.length
            · have ca := hQ.ci.cell (i := a) (by rw [cntL_len]; omega)
              have cb := hQ.co.cell (i := a) (by rw [cntL_len]; omega)
              rw [cntL_get (by omega)] at ca cb
              have hao : arcOk d a = (cntP d a false (4 * d.crs.length) == 1 && cntP d a true (4 * d.crs.length) == 1) := rfl
              generalize cntP d a false (4 * d.crs.length) = X at *
              generalize cntP d a true (4 * d.crs.length) = Y at *
              by_cases hX : X = 1
              · subst hX
                by_cases hY : Y = 1
                · subst hY
                  have hao' : Hid (arcOk d a = true) := hao
                  clear hao
                  go_wp2_with fail
                  go_round
                  case rel => exact ⟨a + 1, by omega, by omega, by go_num, fun a' h1 h2 => by
                    rcases Nat.lt_or_ge a' a with h | h
                    · exact hok.out a' h1 h
                    · obtain rfl : a' = a := by omega
                      exact hao'.out⟩
                  case measure => simp [intOf] <;> omega
                · have hno := Lib.hid (arcsB_no ha0 hlt2 (by rw [hao]; simp [hY]))
                  have t1 : (((Y : Int) != 1) : Bool) = true := by simp only [bne_iff_ne, ne_eq]; omega
                  clear hao hY
                  go_wp2_with fail
                  go_ret2
                  exact .inl ⟨hno.out, rfl, hk⟩
              · have hno := Lib.hid (arcsB_no ha0 hlt2 (by rw [hao]; simp [hX]))
                have t1 : (((X : Int) != 1) : Bool) = true := by simp only [bne_iff_ne, ne_eq]; omega
                clear hao hX
                go_wp2_with fail
                go_ret2
                exact .inl ⟨hno.out, rfl, hk⟩
            · have hyes := Lib.hid (arcsB_yes (d := d) fun a' h1 h2 => hok.out a' h1 (by omega))
              go_wp2_with fail
              go_ret2
              obtain ⟨g', A', c', gi', go', r1, r2, r3⟩ := hQ.isSh
              exact .inr ⟨hyes.out, _, rfl, hk, g', A', c', gi', go', r1, by omega, r3.1, r3.2.1, r3.2.2.1.base (by omega), r3.2.2.2.1.base (by omega), r3.2.2.2.2.base (by omega)⟩
theorem new_size {n : Nat} {loops : Int} (h : ¬ (n ≤ 16 ∧ 0 ≤ loops ∧ loops ≤ 16 ∧ ¬ (n = 0 ∧ loops = 0))) : 16 < n ∨ (n ≤ 16 ∧ loops < 0) ∨ (n ≤ 16 ∧ 16 < loops) ∨ (n = 0 ∧ loops = 0) := by omega
set_option maxRecDepth 100000 in
set_option maxHeartbeats 2000000 in
theorem new_any (v : Value) (d : Dg) (w : World) (hd : IsDg w w.heap.size v d) : Calls Tryd.prog 24 #[v] w (BuildPost (mayB d) d w) := by
  obtain ⟨A, cap, rfl, hcap, hr⟩ := hd
  have hrm : d.crs.length * 40 ≤ 140737488355328 := hr.room
  by_cases h : d.crs.length ≤ 16 ∧ 0 ≤ d.loops ∧ d.loops ≤ 16 ∧ ¬ (d.crs.length = 0 ∧ d.loops = 0)
  · have hm : mayB d = arcsB d := by rw [mayB_arcs, decide_eq_true h, Bool.true_and]
    rw [hm]
    clear hm
    obtain ⟨h1, h2, h3, h4⟩ := h
    have hb := Lib.hid fun w' (hk : Kp w w') => build_any (.agg #[.slice A d.crs.length cap, .int .i64 d.loops]) d w' ⟨A, cap, rfl, hcap, hr.kp hk⟩ h1
    have t1 : ((((d.crs.length : Int) + d.loops) == 0) : Bool) = false := by rw [beq_eq_false_iff_ne]; omega
    clear h4 hr
    generalize arcsB d = b at *
    go_enter Tryd.func24, Tryd.ntmps24
    go_wp2_with fail
    refine (hb.out _ ((Kp.refl _).alloc _)).mono ?_
    rintro e w1 (⟨hb0, rfl, hk⟩ | ⟨hb1, v, rfl, hk, hs⟩)
    · have hb0' := Lib.hid hb0
      clear hb0
      go_wp2_with fail
      go_ret2
      exact .inl ⟨hb0'.out, rfl, hk.al⟩
    · have hb1' := Lib.hid hb1
      clear hb1
      go_wp2_with fail
      go_ret2
      obtain ⟨g', A', c', gi', go', r1, r2, r3⟩ := hs
      simp at r2
      exact .inr ⟨hb1'.out, v, rfl, hk.al, g', A', c', gi', go', r1, by omega, r3.1, r3.2.1, r3.2.2.1.base (by simp), r3.2.2.2.1.base (by simp), r3.2.2.2.2.base (by simp)⟩
  · rw [mayB_size h]
    have hc := new_size h
    clear h hr
    obtain ⟨cs, loops⟩ := d
    dsimp only at *
    generalize cs.length = n at *
    rcases hc with hc | ⟨hc, hc'⟩ | ⟨hc, hc'⟩ | ⟨rfl, rfl⟩
    all_goals
      go_enter Tryd.func24, Tryd.ntmps24
      go_wp2_with fail
      go_ret2
      exact .inl ⟨rfl, rfl, (Kp.refl _).alloc _⟩
end Go.Proofs.YtakmjhkgilijiaaDoor
namespace Go.Proofs.YtakmjhkgilijiaaDoor
open Go.ChangeShapes Go.WideShapes Go.ChangeAt Go.RowKit
def cdPl : Cd (Nat × Nat) := ⟨plF, 2, 16, 72, (0, 0), fun _ => rfl, by
  intro x u hu
  simp [plF] at hu
  rcases hu with rfl | rfl <;> rfl⟩
section
variable {w w' : World} {M : Hp} {X : Fr} {H H' : List Rs}
theorem Kp.like (h : Kp w w') : Like w w' := ⟨h.os, h.tape, h.output, h.size⟩
theorem SH.old (S : SH w M X H) (h : Kp w w') : SH w' M X H := S.kp h.like fun b hb => h.block b hb
theorem SH.adopt {r : Rs} (S : SH w M X []) (S' : SH w' M X H') (hr : r.ok (hp w')) (hb : ∀ b ∈ r.bl, w.heap.size ≤ b ∧ b < w'.heap.size) (hdis : ∀ s ∈ H', ∀ b ∈ r.bl, b ∉ s.bl) : SH w' M X (r :: H') := by
  have fresh : ∀ b, w.heap.size ≤ b → M b = none ∧ X.h b = none := fun b hge => by
    constructor
    · cases hm : M b with
      | none => rfl
      | some o => have := hp_lt (S.m b o hm); omega
    · cases hm : X.h b with
      | none => rfl
      | some o => have := hp_lt (S.x b o hm); omega
  refine ⟨S'.m, S'.x, S'.mx, fun s hs => ?_, fun s hs b hbs => ?_, fun j k s t hjk hs ht b hbs => ?_, S'.like⟩
  · rcases List.mem_cons.1 hs with rfl | hs
    · exact hr
    · exact S'.ok s hs
  · rcases List.mem_cons.1 hs with rfl | hs
    · exact ⟨(hb b hbs).2, fresh b (hb b hbs).1⟩
    · exact S'.bl s hs b hbs
  · cases j with
    | zero =>
      cases k with
      | zero => exact absurd rfl hjk
      | succ k =>
        simp only [List.getElem?_cons_zero, Option.some.injEq, List.getElem?_cons_succ] at hs ht
        subst hs
        exact hdis t (List.mem_of_getElem? ht) b hbs
    | succ j =>
      cases k with
      | zero =>
        simp only [List.getElem?_cons_zero, Option.some.injEq, List.getElem?_cons_succ] at hs ht
        subst ht
        exact fun hbt => hdis s (List.mem_of_getElem? hs) b hbt hbs
      | succ k =>
        simp only [List.getElem?_cons_succ] at hs ht
        exact S'.ap j k s t (by omega) hs ht b hbs
/-- A diagram, as the old texts read it. -/
theorem RdA.dg {N : Hp} {A : Option Addr} {c : Nat} {d : Dg} (h : RdA cdCr N A c d.crs) (hN : N.le (hp w)) : IsDg w w.heap.size (.agg [.slice A d.crs.length c, .int .i64 d.loops].toArray) d := by
  refine ⟨A, c, rfl, h.1, ⟨flat_len codCr.hf _, h.2.1, fun h0 => ?_⟩⟩
  have hlen : 0 < d.crs.length := by simpa using h0
  obtain ⟨e, cs, T, fz, hc, _⟩ := h.2.2 hlen
  refine ⟨adB A, adO A, e, hp_lt (hN _ _ hc), fun j u hu => ?_⟩
  exact h.cells hN j u hu
theorem cq_bool {f : FuncId} {vs : List Value} {b : Bool} (S : SH w M X []) (h : Calls Tryd.prog f vs.toArray w (BoPost b w)) : Cq Tryd.prog f vs w M X (fun u => u = .bool b) :=
  h.mono fun e w' ⟨he, hk⟩ => ⟨_, he, S.old hk, rfl⟩
theorem DiagramMay_q (d : Dg) {A : Option Addr} {c : Nat} (h : RdA cdCr (M.un X.h) A c d.crs) (S : SH w M X []) : Cq Tryd.prog 11 [.agg [.slice A d.crs.length c, .int .i64 d.loops].toArray] w M X (fun u => u = .bool (mayB d)) :=
  cq_bool S (diagramMay_any _ d w (h.dg S.um))
end
def ShV (d : Dg) (vi vo : Value) : Prop := ∃ gi go, vi = .slice (some ⟨gi, 0, none⟩) (2 * d.crs.length + 1) (2 * d.crs.length + 1) ∧ vo = .slice (some ⟨go, 0, none⟩) (2 * d.crs.length + 1) (2 * d.crs.length + 1) ∧ gi ≠ go
def NewR (d : Dg) (v : Value) (N : List Rs) : Prop :=
  (mayB d = false ∧ v = .tuple [.pointer none, .bool false].toArray ∧ N = []) ∨
  (mayB d = true ∧ ∃ g vc vi vo, v = .tuple [.pointer (some ⟨g, 0, none⟩), .bool true].toArray ∧
    N = [Rs.box g 68 [vc, .int .i64 d.loops, vi, vo], Rs.row cdCr vc d.crs, Rs.row cdPl vi (tabL d false (4 * d.crs.length)), Rs.row cdPl vo (tabL d true (4 * d.crs.length))] ∧ ShV d vi vo)
theorem bl_row {α : Type} {C : Cd α} {v : Value} {xs : List α} {b : Nat} (h : b ∈ (Rs.row C v xs).bl) : v.ownBlock = some b := by simpa [Rs.row] using h
theorem New_o {w : World} {M : Hp} {X : Fr} (d : Dg) {A : Option Addr} {c : Nat} (h : RdA cdCr (M.un X.h) A c d.crs) (S : SH w M X []) : Co Tryd.prog 24 [.agg [.slice A d.crs.length c, .int .i64 d.loops].toArray] w M X (NewR d) := by
  refine (new_any _ d w (h.dg S.um)).mono ?_
  rintro e w' (⟨hm, rfl, hk⟩ | ⟨hm, v, rfl, hk, g, B, cp, gi, go, rfl, hg, hne, hb, hc, hi, ho⟩)
  · exact ⟨_, rfl, [], S.old hk, .inl ⟨hm, rfl, rfl⟩⟩
  · have hci := hc.ne_ hi (by decide)
    have hco := hc.ne_ ho (by decide)
    have hcb := hc.ne_blk hb (by decide)
    have hib := hi.ne_blk hb (by decide)
    have hob := ho.ne_blk hb (by decide)
    have S0 := S.old hk
    have S1 : SH w' M X [Rs.row cdPl (.slice (some ⟨go, 0, none⟩) (2 * d.crs.length + 1) (2 * d.crs.length + 1)) (tabL d true (4 * d.crs.length))] :=
      S.adopt S0 (RowOk.of_owns (C := cdPl) (ho.base (Nat.zero_le _))) (fun b hb => ho.lt b (bl_row hb)) (by simp)
    have S2 := S.adopt S1 (r := Rs.row cdPl (.slice (some ⟨gi, 0, none⟩) (2 * d.crs.length + 1) (2 * d.crs.length + 1)) (tabL d false (4 * d.crs.length)))
      (RowOk.of_owns (C := cdPl) (hi.base (Nat.zero_le _))) (fun b hb => hi.lt b (bl_row hb)) (fun s hs b hb hbs => by
        rw [List.mem_singleton] at hs
        subst hs
        have h1 := bl_row hb
        have h2 := bl_row hbs
        simp only [Value.ownBlock, Option.some.injEq] at h1 h2
        omega)
    have S3 := S.adopt S2 (r := Rs.row cdCr (.slice B d.crs.length cp) d.crs) (RowOk.of_owns (C := cdCr) (hc.base (Nat.zero_le _))) (fun b hb => hc.lt b (bl_row hb)) (fun s hs b hb hbs => by
        have h1 := bl_row hb
        rcases List.mem_cons.1 hs with rfl | hs
        · rcases hci with h | h
          · rw [h] at h1; cases h1
          · exact h (h1.trans (bl_row hbs).symm)
        · rw [List.mem_singleton] at hs
          subst hs
          rcases hco with h | h
          · rw [h] at h1; cases h1
          · exact h (h1.trans (bl_row hbs).symm))
    have S4 := S.adopt S3 (r := Rs.box g 68 [.slice B d.crs.length cp, .int .i64 d.loops, .slice (some ⟨gi, 0, none⟩) (2 * d.crs.length + 1) (2 * d.crs.length + 1), .slice (some ⟨go, 0, none⟩) (2 * d.crs.length + 1) (2 * d.crs.length + 1)])
      hb (fun b hb' => by simp [Rs.box] at hb'; subst hb'; exact ⟨hg, hb.lt⟩) (fun s hs b hb' hbs => by
        simp [Rs.box] at hb'
        subst hb'
        rcases List.mem_cons.1 hs with rfl | hs
        · rcases hcb with h | h
          · have := bl_row hbs; rw [h] at this; cases this
          · exact h (bl_row hbs)
        · rcases List.mem_cons.1 hs with rfl | hs
          · rcases hib with h | h
            · have := bl_row hbs; rw [h] at this; cases this
            · exact h (bl_row hbs)
          · rw [List.mem_singleton] at hs
            subst hs
            rcases hob with h | h
            · have := bl_row hbs; rw [h] at this; cases this
            · exact h (bl_row hbs))
    exact ⟨_, rfl, _, S4, .inr ⟨hm, g, _, _, _, rfl, rfl, gi, go, rfl, rfl, hne⟩⟩
end Go.Proofs.YtakmjhkgilijiaaDoor
namespace Go.Proofs.YtakmjhkgilijiaaDoor
open Go.ChangeShapes Go.WideShapes Go.ChangeAt Go.RowKit
section
variable {P : Program} {f : FuncId} {vs vs' : List Value} {w : World} {M : Hp} {X : Fr}
theorem Cq.cast {R : Value → Prop} (h : vs = vs') (c : Cq P f vs' w M X R) : Cq P f vs w M X R := h ▸ c
end
end Go.Proofs.YtakmjhkgilijiaaDoor
namespace Go.Proofs.YtakmjhkgilijiaaDoor
open Go.ChangeShapes Go.WideShapes Go.ChangeAt Go.RowKit
def SlV.v (s : SlV) : Value := .slice s.A s.n s.c
section
variable {α : Type} {C : Cd α} {xs zs : List α} {v : Value} {w w' : World} {M : Hp} {X : Fr} {H H' : List Rs} {i q g k : Nat} {T : TypeId} {l : List Value} {vs : List SlV} {xss : List (List α)} {r s t : Rs}
theorem RowOk.cell [Inhabited α] (h : RowOk C v xs (hp w)) {e j : Nat} {u : Value} (he : e < xs.length) (hj : Nat.blt j C.k = true) (hu : nth (C.f (ga xs e)) j = some u) : w.cell? ⟨rb v, e * C.k + j, none⟩ = some u := by
  rcases h with ⟨_, h2⟩ | ⟨g, cap, cur, rfl, h2, h3, h4, h5, h6⟩
  · rw [h2] at he; simp at he
  · have hj' : j < C.k := by simpa using hj
    show w.cell? ⟨g, e * C.k + j, none⟩ = some u
    rw [cell_of_row w g _ cur C.E (0, 0) h2]
    have hlt : e * C.k + j < xs.length * C.k := by
      have := Nat.mul_le_mul_right C.k (show e + 1 ≤ xs.length by omega)
      rw [Nat.succ_mul] at this
      omega
    have h7 := flat_get C.hf (xs := xs) he hj'
    rw [← h6, List.getElem?_take, if_pos hlt, ← ga_eq he, ← nth_eq (C.f (ga xs e)), hu] at h7
    simpa using h7
end
section
variable {P : Program} {o : Oper} {L : List (Nat × Value)} {w w' : World} {x y z : Operand} {t t' T E : TypeId} {a b : Int} {v u : Value} {n d : Nat} {Kt : List (Nat × Value) → World → Prop} {M M' : Hp} {X : Fr} {H H' : List Rs} {i k g off : Nat} {l : List Value}
end
end Go.Proofs.YtakmjhkgilijiaaDoor
namespace Go.Proofs.YtakmjhkgilijiaaDoor
open Go.ChangeShapes Go.WideShapes Go.ChangeAt Go.RowKit
section
variable {w w' : World} {M M' : Hp} {X : Fr} {H H' : List Rs} {r r' : Rs} {i : Nat}
end
namespace InF
structure Ctx where
  Q : Exit → Act → World → Prop
  r : Option Nat
def Ctx.F (C : Ctx) : Fence := match C.r with
  | none => Fence.wide
  | some l => Fence.wide.inRound l
def post (P : Program) (C : Ctx) : List K → Exit → Act → World → Prop
  | [] => C.Q
  | .thn c :: s => Exit.then (c.wpIn C.F 0 P (post P C s)) (post P C s)
  | .blk id :: s => Exit.inBlock id (post P C s)
  | .lp I :: s => Exit.then I (post P C s)
section
variable {P : Program} {n : Nat} {C : Ctx} {c : Code} {s : List K} {L : List (Nat × Value)} {w : World}
end
section
variable {P : Program} {n : Nat} {C : Ctx} {c : Code} {s : List K} {L : List (Nat × Value)} {w : World} {M : Hp} {X : Fr} {H : List Rs}
end
end InF
end Go.Proofs.YtakmjhkgilijiaaDoor
namespace Go.Proofs.YtakmjhkgilijiaaDoor
open Go.ChangeShapes Go.WideShapes Go.ChangeAt Go.RowKit
def sB (l : List UInt8) : ByteArray := ⟨l.toArray⟩
theorem sB_append (a b : List UInt8) : sB a ++ sB b = sB (a ++ b) := by
  unfold sB
  apply ByteArray.ext
  simp
theorem sB_size (a : List UInt8) : (sB a).size = a.length := by
  show (sB a).data.size = _
  simp [sB]
def cdStr : Cd (List UInt8) := ⟨fun x => [.string (sB x)], 1, 16, 9, [], fun _ => rfl, by
  intro x u hu; simp at hu; subst hu; rfl⟩
theorem flatS (xs : List (List UInt8)) : xs.flatMap cdStr.f = xs.map (fun x => Value.string (sB x)) := by
  induction xs with
  | nil => rfl
  | cons x xs ih => rw [List.flatMap_cons, List.map_cons, ih]; rfl
section
variable {P : Program} {o : Oper} {L : List (Nat × Value)} {w w' : World} {x y z : Operand} {t t' T E src dst : TypeId} {v u : Value} {n d : Nat} {Kt : List (Nat × Value) → World → Prop} {M M' : Hp} {X : Fr} {H H' : List Rs} {i g : Nat} {l : List Value} {a b : List UInt8}
theorem run_addS (ho : o.op = .binOp .add t x y t') (hx : oev L x = some (.string (sB a))) (hy : oev L y = some (.string (sB b))) (h : a.length + b.length ≤ 9223372036854775807) : Run P o L w (.string (sB (a ++ b))) w := by
  intro n c hc
  unfold execOp
  have h1 : ∀ w, (eqGuard .add t x y (.string (sB a)) (.string (sB b))).run P w = .ok () w := by
    intro w; unfold eqGuard; simp
  have h2 : ¬ (((sB a).size + (sB b).size : Nat) : Int) > IntKind.i64.max := by
    rw [sB_size, sB_size]
    have e : IntKind.i64.max = 9223372036854775807 := by decide
    rw [e]; omega
  simp only [ho, hc.eval hx, hc.eval hy, h1, binOp, Op.stringOp, Sem.run_bind, Result.andThen_ok, if_neg h2, Sem.run_pure, sB_append]
theorem run_eqlS (ho : o.op = .binOp .eql t x y t') (hx : oev L x = some (.string (sB a))) (hy : oev L y = some (.string (sB b))) (h : a = b) : Run P o L w (.bool true) w := by
  subst h
  intro n c hc
  unfold execOp
  have h1 : ∀ w, (eqGuard .eql t x y (.string (sB a)) (.string (sB a))).run P w = .ok () w := by
    intro w; unfold eqGuard; simp
  simp only [ho, hc.eval hx, hc.eval hy, h1, binOp, Op.stringOp, Sem.run_bind, Result.andThen_ok, Sem.run_pure, beq_self_eq_true]
theorem sB_drop1 (a : List UInt8) : (sB a).extract 1 (sB a).size = sB (a.drop 1) := by
  apply ByteArray.ext
  rw [ByteArray.data_extract, sB_size]
  show a.toArray.extract 1 a.length = (a.drop 1).toArray
  apply Array.ext'
  simp
  exact List.take_of_length_le (by simp)
/-- s[1:] -/
theorem run_drop1S {lx : Operand} (hop : o.op = .slice T x (some lx) none none) (hx : oev L x = some (.string (sB a))) (hl : oev L lx = some (.int .i64 1)) (hu : P.underlying T = some .string) (h : 1 ≤ a.length) : Run P o L w (.string (sB (a.drop 1))) w := by
  intro n c he
  have e1 : (0 : Int) ≤ 1 ∧ (1 : Int) ≤ ((sB a).size : Int) := by rw [sB_size]; omega
  unfold execOp
  simp only [hop, he.eval hx, he.eval hl, Instr.sliceAt, Instr.slice, Instr.sliceBounds, Instr.sliceBound, asIntOf, Option.map_none, Option.map_some, Sem.run_bind, Sem.run_pure, Result.andThen_ok, run_underlying hu, e1, and_self, if_true, Option.isSome_none, Bool.false_eq_true, if_false]
  rw [show (1 : Int).toNat = 1 from rfl, sB_drop1]
/-- a byte of a number, and a text of one byte -/
theorem run_convB {s : Nat} (ho : o.op = .convert src dst x) (hx : oev L x = some (.int .i64 (s : Int))) (hs : ∃ d, P.underlying src = some d) (hd : P.underlying dst = some (.int .u8)) (h : s < 256) : Run P o L w (.int .u8 (s : Int)) w := by
  intro n c he
  obtain ⟨d, hs⟩ := hs
  unfold execOp
  have e : IntKind.u8.wrap (s : Int) = (s : Int) := by
    show (s : Int) % 256 = _
    omega
  simp only [ho, he.eval hx, convert, Sem.run_bind, run_underlying hs, run_underlying hd, Result.andThen_ok, Conv.intToInt, Sem.run_pure, e]
def cdB : Cd Nat := ⟨fun x => [.int .u8 (x : Int)], 1, 1, 5, 0, fun _ => rfl, by
  intro x u hu; simp at hu; subst hu; rfl⟩
theorem run_text1 {s c1 : Nat} (ho : o.op = .convert src dst x) (hx : oev L x = some (.slice (some ⟨g, 0, none⟩) 1 c1)) (hs : P.underlying src = some (.slice E)) (hd : P.underlying dst = some .string) (hE : P.underlying E = some (.int .u8)) (S : SH w M X H) (hi : nth H i = some (Rs.box g T [.int .u8 (s : Int)])) : Run P o L w (.string (sB [UInt8.ofNat s])) w := by
  intro n c he
  have hc : w.cell? ⟨g, 0, none⟩ = some (.int .u8 (s : Int)) := S.boxc hi rfl
  have hl := run_loadCells_list (P := P) w ⟨g, 0, none⟩ [.int .u8 (s : Int)] (fun j v hv => by
    cases j with
    | zero => simp at hv; subst hv; simpa [Addr.add] using hc
    | succ j => simp at hv)
  unfold execOp
  have hl' : (loadCells ⟨g, 0, none⟩ 1).run P w = .ok #[.int .u8 (s : Int)] w := hl
  simp only [ho, he.eval hx, convert, Sem.run_bind, run_underlying hs, run_underlying hd, run_underlying hE, Result.andThen_ok, Conv.bytesToString, hl']
  simp
  rfl
/-- The library's contracts as ours. -/
theorem SH.of_below (S : SH w M X H) (h : Below w.heap.size w w') : SH w' M X H := S.kp ⟨h.os, h.tape, h.output, h.size⟩ fun b hb => h.block b hb
end
end Go.Proofs.YtakmjhkgilijiaaDoor
namespace Go.Proofs.YtakmjhkgilijiaaDoor
open Go.ChangeShapes Go.WideShapes Go.ChangeAt Go.RowKit
theorem sz3 : (Tryd.prog.info? 3).map (·.size) = some 1 := by kernel_rfl
theorem ce3 : Nat.blt 0 (Tryd.prog.cellsOf 3) = true := by kernel_rfl
theorem nf3 : ∃ i, Tryd.prog.info? 3 = some i := Option.isSome_iff_exists.1 (by kernel_rfl)
theorem ce4 : Nat.blt 0 (Tryd.prog.cellsOf 4) = true := by kernel_rfl
theorem nf4 : ∃ i, Tryd.prog.info? 4 = some i := Option.isSome_iff_exists.1 (by kernel_rfl)
theorem sz29 : (Tryd.prog.info? 29).map (·.size) = some 1 := by kernel_rfl
theorem ce29 : Nat.blt 0 (Tryd.prog.cellsOf 29) = true := by kernel_rfl
theorem nf29 : ∃ i, Tryd.prog.info? 29 = some i := Option.isSome_iff_exists.1 (by kernel_rfl)
theorem sz31 : (Tryd.prog.info? 31).map (·.size) = some 2 := by kernel_rfl
theorem zr31 : (Tryd.prog.info? 31).map (·.zero) = some (some (.agg [.slice none 0 0, .int .i64 0].toArray)) := by kernel_rfl
theorem sz42 : (Tryd.prog.info? 42).map (·.size) = some 5 := by kernel_rfl
theorem zr42 : (Tryd.prog.info? 42).map (·.zero) = some (some (.agg [.int .i64 0, .int .i64 0, .int .i64 0, .int .i64 0, .bool false].toArray)) := by kernel_rfl
theorem zr53 : (Tryd.prog.info? 53).map (·.zero) = some (some (.agg [.int .i64 0, .int .i64 0, .int .i64 0, .int .i64 0].toArray)) := by kernel_rfl
theorem cf9 : ∀ args w, (callFunc 9 args).run Tryd.prog w = .ok (.enter 9 args) w := enter_ok (c := Tryd.f9.body.getD .skip) Tryd.func9 (by decide) rfl
theorem cf10 : ∀ args w, (callFunc 10 args).run Tryd.prog w = .ok (.enter 10 args) w := enter_ok (c := Tryd.f10.body.getD .skip) Tryd.func10 (by decide) rfl
theorem cf11 : ∀ args w, (callFunc 11 args).run Tryd.prog w = .ok (.enter 11 args) w := enter_ok (c := Tryd.f11.body.getD .skip) Tryd.func11 (by decide) rfl
theorem cf12 : ∀ args w, (callFunc 12 args).run Tryd.prog w = .ok (.enter 12 args) w := enter_ok (c := Tryd.f12.body.getD .skip) Tryd.func12 (by decide) rfl
theorem cf15 : ∀ args w, (callFunc 15 args).run Tryd.prog w = .ok (.enter 15 args) w := enter_ok (c := Tryd.f15.body.getD .skip) Tryd.func15 (by decide) rfl
theorem cf17 : ∀ args w, (callFunc 17 args).run Tryd.prog w = .ok (.enter 17 args) w := enter_ok (c := Tryd.f17.body.getD .skip) Tryd.func17 (by decide) rfl
theorem cf18 : ∀ args w, (callFunc 18 args).run Tryd.prog w = .ok (.enter 18 args) w := enter_ok (c := Tryd.f18.body.getD .skip) Tryd.func18 (by decide) rfl
theorem cf19 : ∀ args w, (callFunc 19 args).run Tryd.prog w = .ok (.enter 19 args) w := enter_ok (c := Tryd.f19.body.getD .skip) Tryd.func19 (by decide) rfl
theorem cf20 : ∀ args w, (callFunc 20 args).run Tryd.prog w = .ok (.enter 20 args) w := enter_ok (c := Tryd.f20.body.getD .skip) Tryd.func20 (by decide) rfl
theorem cf24 : ∀ args w, (callFunc 24 args).run Tryd.prog w = .ok (.enter 24 args) w := enter_ok (c := Tryd.f24.body.getD .skip) Tryd.func24 (by decide) rfl
end Go.Proofs.YtakmjhkgilijiaaDoor
namespace Go.Proofs.YtakmjhkgilijiaaDoor
open Go.ChangeShapes Go.WideShapes Go.ChangeAt Go.RowKit
theorem SH.pubBx {w : World} {M : Hp} {X : Fr} {H H' : List Rs} {i g : Nat} {T : TypeId} {l : List Value} (S : SH w M X H) (hi : nth H i = some (Rs.box g T l)) (hH : H.set i Rs.emp = H') : ∃ M', M.le M' ∧ SH w M' X H' ∧ BxM M' g T l := by
 obtain ⟨h1, h2, h3⟩ := S.pub hi hH
 have h4 : hp w g = some (.cells l.toArray T (0, 0)) := S.get hi
 exact ⟨_, h1, h2, (h3 g (by simp [Rs.box])).trans h4⟩
theorem mayO {d : Dg} (h : mayB d = true) : d.crs.length ≤ 16 ∧ arcsB d = true ∧ 0 ≤ d.loops ∧ d.loops ≤ 16 := by
 rw [mayB_arcs, Bool.and_eq_true, decide_eq_true_iff] at h
 exact ⟨h.1.1, h.2, h.1.2.1, h.1.2.2.1⟩
def ShM (N : Hp) (d : Dg) (g : Nat) (cA iA oA : Option Addr) (cc ic oc : Nat) : Prop := BxM N g 68 [.slice cA d.crs.length cc, .int .i64 d.loops, .slice iA (tabL d false (4 * d.crs.length)).length ic, .slice oA (tabL d true (4 * d.crs.length)).length oc] ∧ RdA cdCr N cA cc d.crs ∧ RdA cdPl N iA ic (tabL d false (4 * d.crs.length)) ∧ RdA cdPl N oA oc (tabL d true (4 * d.crs.length))
def NewT (d : Dg) (v : Value) (N : Hp) : Prop :=
 (mayB d = false ∧ v = .tuple [.pointer none, .bool false].toArray) ∨
 (mayB d = true ∧ ∃ g cA iA oA cc ic oc, v = .tuple [.pointer (some ⟨g, 0, none⟩), .bool true].toArray ∧ ShM N d g cA iA oA cc ic oc)
theorem New_t {w : World} {M : Hp} {X : Fr} (d : Dg) {A : Option Addr} {c : Nat} (h : RdA cdCr (M.un X.h) A c d.crs) (S : SH w M X []) : Ct Tryd.prog 24 [.agg [.slice A d.crs.length c, .int .i64 d.loops].toArray] w M X (NewT d) := by
 refine (New_o d h S).mono ?_
 rintro e w' ⟨v, rfl, N, S1, ⟨hm, rfl, rfl⟩ | ⟨hm, g, vc, vi, vo, rfl, rfl, hv⟩⟩
 ·exact ⟨_, rfl, M, Hp.le_refl _, S1, .inl ⟨hm, rfl⟩⟩
 ·obtain ⟨hn, _⟩ := mayO hm
  have t1 := tabL_len d false (4 * d.crs.length)
  have t2 := tabL_len d true (4 * d.crs.length)
  clear hv
  obtain ⟨M1, l1, S2, ⟨cA, cc, rfl, r1⟩⟩ := S1.pubrow (i := 1) rfl rfl (by show _ * 40 ≤ _; omega)
  obtain ⟨M2, l2, S3, ⟨iA, ic, rfl, r2⟩⟩ := S2.pubrow (C := cdPl) (xs := tabL d false (4 * d.crs.length)) (i := 2) rfl rfl (by show _ * 16 ≤ _; omega)
  obtain ⟨M3, l3, S4, ⟨oA, oc, rfl, r3⟩⟩ := S3.pubrow (C := cdPl) (xs := tabL d true (4 * d.crs.length)) (i := 3) rfl rfl (by show _ * 16 ≤ _; omega)
  obtain ⟨M4, l4, S5, b⟩ := S4.pubBx (i := 0) rfl rfl
  exact ⟨_, rfl, M4, (l1.trans l2).trans (l3.trans l4), S5.pick [] [] (by decide) trivial, .inr ⟨hm, g, cA, iA, oA, cc, ic, oc, rfl, b, ((r1.mono l2).mono l3).mono l4, (r2.mono l3).mono l4, r3.mono l4⟩⟩
theorem arcAt_bd {d : Dg} (h : arcsB d = true) {i k : Nat} (hi : i < d.crs.length) (hk : k < 4) : 1 ≤ arcAt d i k ∧ arcAt d i k ≤ 2 * (d.crs.length : Int) := by
 have := arcs_rng h (j := 4 * i + k) (by omega)
 unfold arcJ at this
 rwa [show (4 * i + k) / 4 = i by omega, show (4 * i + k) % 4 = k by omega] at this
def DgR (d : Dg) (u : Value) (M : Hp) : Prop := ∃ A c, u = .agg [.slice A d.crs.length c, .int .i64 d.loops].toArray ∧ RdA cdCr M A c d.crs
theorem sl29 : SlOf Tryd.prog 29 cdCr := ⟨.agg [.int .i64 0, .int .i64 0, .int .i64 0, .int .i64 0, .bool false].toArray, Tryd.underlying29, by kernel_rfl, rfl, by decide, by decide⟩
theorem sl40 : SlOf Tryd.prog 40 cdStr := ⟨.string ⟨#[]⟩, Tryd.underlying40, by kernel_rfl, rfl, by decide, by decide⟩
theorem sl49 : SlOf Tryd.prog 49 cdB := ⟨.int .u8 0, Tryd.underlying49, by kernel_rfl, rfl, by decide, by decide⟩
noncomputable def DiagramOf_n0 : Code := Tryd.f10.body.getD .skip
noncomputable def DiagramOf_n1 : Code := cL DiagramOf_n0
noncomputable def DiagramOf_n2 : Code := cR DiagramOf_n0
noncomputable def DiagramOf_n3 : Code := cL DiagramOf_n2
noncomputable def DiagramOf_n4 : Code := cR DiagramOf_n2
noncomputable def DiagramOf_n5 : Code := cL DiagramOf_n4
noncomputable def DiagramOf_n6 : Code := cR DiagramOf_n4
set_option maxRecDepth 10000 in
theorem DiagramOf_t {w : World} {M : Hp} {X : Fr} (d : Dg) {dcrsA : Option Addr} {dcrsc : Nat} (hdcrs : RdA cdCr (M.un X.h) dcrsA dcrsc d.crs) (S : SH w M X []) : Ct Tryd.prog 10 [.agg [.slice dcrsA d.crs.length dcrsc, .int .i64 d.loops].toArray] w M X (DgR d) := by
 unfold Ct
 have rmhdcrs : d.crs.length * 40 ≤ 140737488355328 := hdcrs.room
 have hroom : d.crs.length * 40 ≤ 140737488355328 := hdcrs.room
 refine calls_in (b := DiagramOf_n0) Tryd.func10 rfl Tryd.ntmps10 rfl (fun C hC => ?_)
 refine ws_sub [(0, _)] ⟨rfl, trivial⟩ ?_
 refine ws_seqN DiagramOf_n1 DiagramOf_n2 rfl rfl rfl ?_
 refine ws_region rfl ?_
 refine wlo 0 1 rfl rfl rfl (wo_box (l := [_, _]) rfl rfl rfl rfl rfl S ?_)
 intro gb1 w1 S1; clear S
 refine wlo 1 2 rfl rfl rfl (wo_alloc (l := [_, _]) rfl rfl rfl zr31 rfl S1 ?_)
 intro gb2 w2 S2; clear S1
 refine wl_end rfl ?_
 refine nm_sub [(1, _), (2, _)] ⟨rfl, rfl, trivial⟩ ?_
 refine nm_thn ?_
 refine ws_seqN DiagramOf_n3 DiagramOf_n4 rfl rfl rfl ?_
 refine ws_region rfl ?_
 refine wlo 0 1 rfl rfl rfl (wo_run rfl rfl (run_fieldAddr rfl rfl Tryd.underlying31 rfl (ce29) (nf29)) ?_)
 refine wlo 1 2 rfl rfl rfl (wo_run rfl rfl (run_load1 rfl rfl Tryd.underlying29 rfl (S2.boxc (i := 1) rfl rfl)) ?_)
 have S3 := S2.nilrow cdCr; clear S2
 refine wlo 2 3 rfl rfl rfl (wo_appendM (C := cdCr) (i := 0) rfl rfl rfl rfl rfl rfl rfl rfl sl29 S3 rfl hdcrs S3.um (by have h : _ * 40 ≤ _ := hdcrs.room; show (0 + _) * 40 ≤ _; first | omega | (simp only [lens]; omega)) ?_)
 intro vr2 w3 S4; clear S3
 change SH _ _ _ [Rs.row cdCr vr2 d.crs, _, _] at S4
 refine wlo 3 4 rfl rfl rfl (wo_run rfl rfl (run_fieldAddr rfl rfl Tryd.underlying31 rfl (ce29) (nf29)) ?_)
 refine wlo 4 5 rfl rfl rfl (wo_storeB (i := 2) (us := [_]) (l' := [_, _]) (H' := [_, _, _]) rfl rfl S4 rfl rfl rfl (S4.cells1 (i := 0) rfl) sz29 rfl (ones_cons (S4.one (i := 0) rfl) rfl) rfl rfl ?_)
 intro w4 S5; clear S4
 refine wl_end rfl ?_
 refine nm_sub [(1, _), (2, _)] ⟨rfl, rfl, trivial⟩ ?_
 refine nm_thn ?_
 refine ws_seqN DiagramOf_n5 DiagramOf_n6 rfl rfl rfl ?_
 refine ws_region rfl ?_
 refine wlo 0 1 rfl rfl rfl (wo_run rfl rfl (run_loadN (us := [_, _]) rfl rfl Tryd.underlying31 rfl sz31 (S5.boxcs (i := 2) rfl ⟨rfl, rfl, trivial⟩)) ?_)
 refine wlo 1 2 rfl rfl rfl (wo_storeB (i := 1) (us := [_, _]) (l' := [_, _]) (H' := [_, _, _]) rfl rfl S5 rfl rfl rfl rfl sz31 rfl (ones_cons (S5.one (i := 0) rfl) (ones_cons rfl rfl)) rfl rfl ?_)
 intro w5 S6; clear S5
 refine wl_end rfl ?_
 refine nm_sub [(2, _)] ⟨rfl, trivial⟩ ?_
 refine nm_thn ?_
 obtain ⟨M1, hle1, S7, ⟨A1, c1, e1, hr1⟩⟩ := S6.pubrow (i := 0) (H' := [_, _, _]) rfl rfl (by show _ * 40 ≤ _; first | omega | (simp only [lens]; omega))
 clear S6; subst e1
 replace hdcrs := hdcrs.mono (Hp.un_mono hle1 S7.mx)
 refine ws_ret hC [_] rfl rfl ⟨⟨_, rfl, loadVarN (us := [_, _]) Tryd.underlying31 rfl sz31 (S7.boxcs (i := 1) rfl ⟨rfl, rfl, trivial⟩)⟩, trivial⟩ ?_
 refine ⟨_, rfl, _, hle1, (S7.pick [] [] (by decide) trivial), ?_⟩
 exact ⟨_, _, rfl, hr1⟩
noncomputable def CMay_n0 : Code := Tryd.f17.body.getD .skip
noncomputable def CMay_n1 : Code := cL CMay_n0
noncomputable def CMay_n2 : Code := cR CMay_n0
noncomputable def CMay_n3 : Code := cL CMay_n2
noncomputable def CMay_n4 : Code := cR CMay_n2
noncomputable def CMay_n5 : Code := cL CMay_n4
noncomputable def CMay_n6 : Code := cR CMay_n4
set_option maxRecDepth 10000 in
theorem CMay_t {w : World} {M : Hp} {X : Fr} (d : Dg) {dcrsA : Option Addr} {dcrsc : Nat} (hdcrs : RdA cdCr (M.un X.h) dcrsA dcrsc d.crs) (S : SH w M X []) : Ct Tryd.prog 17 [.agg [.slice dcrsA d.crs.length dcrsc, .int .i64 d.loops].toArray] w M X (fun u _ => u = .bool (mayB d)) := by
 unfold Ct
 have rmhdcrs : d.crs.length * 40 ≤ 140737488355328 := hdcrs.room
 refine calls_in (b := CMay_n0) Tryd.func17 rfl Tryd.ntmps17 rfl (fun C hC => ?_)
 refine ws_sub [(0, _)] ⟨rfl, trivial⟩ ?_
 refine ws_seqN CMay_n1 CMay_n2 rfl rfl rfl ?_
 refine ws_region rfl ?_
 refine wlo 0 1 rfl rfl rfl (wo_box (l := [_, _]) rfl rfl rfl rfl rfl S ?_)
 intro gb1 w1 S1; clear S
 refine wla 1 2 rfl rfl rfl rfl rfl rfl rfl ?_
 refine wl_end rfl ?_
 refine nm_sub [(1, _)] ⟨rfl, trivial⟩ ?_
 refine nm_thn ?_
 refine ws_seqN CMay_n3 CMay_n4 rfl rfl rfl ?_
 refine ws_region rfl ?_
 refine wlo 0 1 rfl rfl rfl (wo_run rfl rfl (run_loadN (us := [_, _]) rfl rfl Tryd.underlying31 rfl sz31 (S1.boxcs (i := 0) rfl ⟨rfl, rfl, trivial⟩)) ?_)
 refine wlo 1 2 rfl rfl rfl (wo_ct rfl rfl rfl rfl rfl rfl rfl cf24 S1 (New_t d (hdcrs.mono S1.un_XH) S1.lend) ?_)
 intro vw2 w2 M1 hle1 S2 hRw2; clear S1
 replace hdcrs := hdcrs.mono (Hp.un_mono hle1 S2.mx)
 rcases hRw2 with ⟨hmay7, rfl⟩ | ⟨hmay7, g1, cA7, iA7, oA7, cc7, ic7, oc7, rfl, hsb7, hsc7, hsi7, hso7⟩
 ·refine wlm 2 3 rfl rfl rfl rfl rfl rfl rfl ?_
  refine wlo 3 4 rfl rfl rfl (wo_run rfl rfl (run_extract rfl rfl rfl) ?_)
  refine wlo 4 5 rfl rfl rfl (wo_run rfl rfl (run_extract rfl rfl rfl) ?_)
  refine wla 5 6 rfl rfl rfl rfl rfl rfl rfl ?_
  refine wla 6 7 rfl rfl rfl rfl rfl rfl rfl ?_
  refine wl_end rfl ?_
  refine nm_sub [(4, _)] ⟨rfl, trivial⟩ ?_
  refine nm_thn ?_
  refine ws_seqN CMay_n5 CMay_n6 rfl rfl rfl ?_
  refine ws_region rfl ?_
  refine wlm 0 1 rfl rfl rfl rfl rfl rfl rfl ?_
  refine wla 1 2 rfl rfl rfl rfl rfl rfl rfl ?_
  refine wl_end rfl ?_
  refine nm_sub [(2, _)] ⟨rfl, trivial⟩ ?_
  refine nm_thn ?_
  refine ws_ret hC [_] rfl rfl ⟨rfl, trivial⟩ ?_
  refine ⟨_, rfl, _, hle1, (S2.pick [] [] (by decide) trivial), ?_⟩
  exact congrArg Value.bool hmay7.symm
 ·obtain ⟨hn, hab, hlo0, hlo1⟩ := mayO hmay7
  refine wlm 2 3 rfl rfl rfl rfl rfl rfl rfl ?_
  refine wlo 3 4 rfl rfl rfl (wo_run rfl rfl (run_extract rfl rfl rfl) ?_)
  refine wlo 4 5 rfl rfl rfl (wo_run rfl rfl (run_extract rfl rfl rfl) ?_)
  refine wla 5 6 rfl rfl rfl rfl rfl rfl rfl ?_
  refine wla 6 7 rfl rfl rfl rfl rfl rfl rfl ?_
  refine wl_end rfl ?_
  refine nm_sub [(4, _)] ⟨rfl, trivial⟩ ?_
  refine nm_thn ?_
  refine ws_seqN CMay_n5 CMay_n6 rfl rfl rfl ?_
  refine ws_region rfl ?_
  refine wlm 0 1 rfl rfl rfl rfl rfl rfl rfl ?_
  refine wla 1 2 rfl rfl rfl rfl rfl rfl rfl ?_
  refine wl_end rfl ?_
  refine nm_sub [(2, _)] ⟨rfl, trivial⟩ ?_
  refine nm_thn ?_
  refine ws_ret hC [_] rfl rfl ⟨rfl, trivial⟩ ?_
  refine ⟨_, rfl, _, hle1, (S2.pick [] [] (by decide) trivial), ?_⟩
  exact congrArg Value.bool hmay7.symm
noncomputable def Arc_n0 : Code := Tryd.f19.body.getD .skip
noncomputable def Arc_n1 : Code := cL Arc_n0
noncomputable def Arc_n2 : Code := cR Arc_n0
noncomputable def Arc_n3 : Code := cL Arc_n2
noncomputable def Arc_n4 : Code := cR Arc_n2
set_option maxRecDepth 10000 in
theorem Arc_q {w : World} {M : Hp} {X : Fr} (x : Cr) (k : Nat) (hk : k < 4) (S : SH w M X []) : Cq Tryd.prog 19 [.agg [.int .i64 x.a, .int .i64 x.b, .int .i64 x.c, .int .i64 x.d, .bool x.plus].toArray, .int .i64 (k : Int)] w M X (fun u => u = .int .i64 (crArc x k)) := by
 unfold Cq
 refine calls_in (b := Arc_n0) Tryd.func19 rfl Tryd.ntmps19 rfl (fun C hC => ?_)
 refine ws_sub [(0, _), (1, _)] ⟨rfl, rfl, trivial⟩ ?_
 refine ws_seqN Arc_n1 Arc_n2 rfl rfl rfl ?_
 refine ws_region rfl ?_
 refine wlo 0 1 rfl rfl rfl (wo_box (l := [_, _, _, _, _]) rfl rfl rfl rfl rfl S ?_)
 intro gb1 w1 S1; clear S
 refine wla 1 2 rfl rfl rfl rfl rfl rfl rfl ?_
 refine wl_end rfl ?_
 refine nm_sub [(1, _), (2, _)] ⟨rfl, rfl, trivial⟩ ?_
 refine nm_thn ?_
 refine ws_seqN Arc_n3 Arc_n4 rfl rfl rfl ?_
 refine ws_region rfl ?_
 refine wlo 0 1 rfl rfl rfl (wo_run rfl rfl (run_fieldAddr rfl rfl Tryd.underlying42 rfl (ce3) (nf3)) ?_)
 refine wlo 1 2 rfl rfl rfl (wo_run rfl rfl (run_load1 rfl rfl Tryd.underlying3 rfl (S1.boxc (i := 0) rfl rfl)) ?_)
 refine wlo 2 3 rfl rfl rfl (wo_run rfl rfl (run_fieldAddr rfl rfl Tryd.underlying42 rfl (ce3) (nf3)) ?_)
 refine wlo 3 4 rfl rfl rfl (wo_run rfl rfl (run_load1 rfl rfl Tryd.underlying3 rfl (S1.boxc (i := 0) rfl rfl)) ?_)
 refine wlo 4 5 rfl rfl rfl (wo_run rfl rfl (run_fieldAddr rfl rfl Tryd.underlying42 rfl (ce3) (nf3)) ?_)
 refine wlo 5 6 rfl rfl rfl (wo_run rfl rfl (run_load1 rfl rfl Tryd.underlying3 rfl (S1.boxc (i := 0) rfl rfl)) ?_)
 refine wlo 6 7 rfl rfl rfl (wo_run rfl rfl (run_fieldAddr rfl rfl Tryd.underlying42 rfl (ce3) (nf3)) ?_)
 refine wlo 7 8 rfl rfl rfl (wo_run rfl rfl (run_load1 rfl rfl Tryd.underlying3 rfl (S1.boxc (i := 0) rfl rfl)) ?_)
 refine wlo 8 9 rfl rfl rfl (wo_run rfl rfl (run_buildA (l := [_, _, _, _]) (pl := [(0, 1), (1, 1), (2, 1), (3, 1)]) rfl rfl Tryd.underlying53 zr53 sz3 rfl rfl rfl) ?_)
 refine wlm 9 10 rfl rfl rfl rfl rfl rfl rfl ?_
 refine wlo 10 11 rfl rfl rfl (wo_run rfl rfl (run_index1 (e := k) rfl rfl rfl Tryd.underlying53 Tryd.underlying3 rfl sz3 (by first | rfl | omega) (by first | omega | (simp only [lens]; omega)) (nth_iv [x.a, x.b, x.c, x.d] k (by simp; first | omega | (simp only [lens]; omega)))) ?_)
 refine wla 11 12 rfl rfl rfl rfl rfl rfl rfl ?_
 refine wl_end rfl ?_
 refine nm_sub [(4, _)] ⟨rfl, trivial⟩ ?_
 refine nm_thn ?_
 refine ws_ret hC [_] rfl rfl ⟨rfl, trivial⟩ ?_
 exact ⟨_, rfl, (S1.pick [] [] (by decide) trivial), (by have e0 : k = 0 ∨ k = 1 ∨ k = 2 ∨ k = 3 := (by omega); rcases e0 with rfl | rfl | rfl | rfl <;> first | rfl | (exfalso; omega))⟩
end Go.Proofs.YtakmjhkgilijiaaDoor
namespace Go.Proofs.YtakmjhkgilijiaaDoor
open Go.Shelf Go.ChangeShapes Go.WideShapes Go.ChangeAt Go.RowKit
def joinL_ren : Go.Shelf.Ren := ⟨fun | 156 => 20 | 165 => 26 | 166 => 27 | 169 => 28 | 240 => 31 | 241 => 32 | 276 => 39 | 277 => 40 | n => n, fun | 31 => 40 | 9 => 9 | 3 => 3 | 4 => 4 | 0 => 0 | 20 => 20 | 72 => 56 | 76 => 60 | 70 => 54 | 37 => 49 | 75 => 59 | 127 => 64 | 164 => 79 | 5 => 5 | 80 => 62 | n => n, fun | n => n⟩
theorem joinL : Go.Proofs.Lays.n156 Tryd.prog joinL_ren := {
  mixed := by kernel_rfl
  f156 := Tryd.func20.trans (congrArg some (by kernel_rfl))
  f165 := Tryd.func26.trans (congrArg some (by kernel_rfl))
  f166 := Tryd.func27.trans (congrArg some (by kernel_rfl))
  f169 := Tryd.func28.trans (congrArg some (by kernel_rfl))
  f240 := Tryd.func31.trans (congrArg some (by kernel_rfl))
  f241 := Tryd.func32.trans (congrArg some (by kernel_rfl))
  f276 := Tryd.func39.trans (congrArg some (by kernel_rfl))
  f277 := Tryd.func40.trans (congrArg some (by kernel_rfl))
  t0 := Tryd.underlying0
  a0 := Tryd.isAgg0
  z0 := Tryd.sizeOf0
  v0 := Tryd.zeroValue0
  t3 := Tryd.underlying3
  a3 := Tryd.isAgg3
  z3 := Tryd.sizeOf3
  v3 := Tryd.zeroValue3
  t4 := Tryd.underlying4
  a4 := Tryd.isAgg4
  z4 := Tryd.sizeOf4
  v4 := Tryd.zeroValue4
  t9 := Tryd.underlying9
  a9 := Tryd.isAgg9
  z9 := Tryd.sizeOf9
  v9 := Tryd.zeroValue9
  t20 := Tryd.underlying20
  a20 := Tryd.isAgg20
  z20 := Tryd.sizeOf20
  v20 := Tryd.zeroValue20
  t31 := Tryd.underlying40
  a31 := Tryd.isAgg40
  z31 := Tryd.sizeOf40
  v31 := Tryd.zeroValue40
  t37 := Tryd.underlying49
  a37 := Tryd.isAgg49
  z37 := Tryd.sizeOf49
  v37 := Tryd.zeroValue49
  t70 := Tryd.underlying54
  a70 := Tryd.isAgg54
  z70 := Tryd.sizeOf54
  v70 := Tryd.zeroValue54
  t72 := Tryd.underlying56
  a72 := Tryd.isAgg56
  z72 := Tryd.sizeOf56
  v72 := Tryd.zeroValue56
  t75 := Tryd.underlying59
  a75 := Tryd.isAgg59
  z75 := Tryd.sizeOf59
  v75 := Tryd.zeroValue59
  t76 := Tryd.underlying60
  a76 := Tryd.isAgg60
  z76 := Tryd.sizeOf60
  v76 := Tryd.zeroValue60
  t127 := Tryd.underlying64
  a127 := Tryd.isAgg64
  z127 := Tryd.sizeOf64
  v127 := Tryd.zeroValue64
  t164 := Tryd.underlying79
  a164 := Tryd.isAgg79
  z164 := Tryd.sizeOf79
  v164 := Tryd.zeroValue79 }
def itoaL_ren : Go.Shelf.Ren := ⟨fun | 171 => 18 | 243 => 25 | 246 => 30 | 283 => 35 | 284 => 36 | 285 => 37 | 286 => 38 | 129 => 43 | 317 => 42 | 318 => 44 | 319 => 45 | 320 => 46 | 337 => 47 | 338 => 48 | n => n, fun | 3 => 3 | 9 => 9 | 2 => 2 | 4 => 4 | 171 => 73 | 0 => 0 | 53 => 74 | 37 => 49 | 5 => 5 | 173 => 77 | 212 => 84 | 51 => 85 | 20 => 20 | 213 => 86 | 46 => 88 | 232 => 91 | 233 => 92 | n => n, fun | 17 => 0 | 18 => 2 | 19 => 3 | n => n⟩
theorem itoaL : Go.Proofs.Lays.n171 Tryd.prog itoaL_ren := {
  mixed := by kernel_rfl
  f129 := Tryd.func43.trans (congrArg some (by kernel_rfl))
  f171 := Tryd.func18.trans (congrArg some (by kernel_rfl))
  f243 := Tryd.func25.trans (congrArg some (by kernel_rfl))
  f246 := Tryd.func30.trans (congrArg some (by kernel_rfl))
  f283 := Tryd.func35.trans (congrArg some (by kernel_rfl))
  f284 := Tryd.func36.trans (congrArg some (by kernel_rfl))
  f285 := Tryd.func37.trans (congrArg some (by kernel_rfl))
  f286 := Tryd.func38.trans (congrArg some (by kernel_rfl))
  f317 := Tryd.func42.trans (congrArg some (by kernel_rfl))
  f318 := Tryd.func44.trans (congrArg some (by kernel_rfl))
  f319 := Tryd.func45.trans (congrArg some (by kernel_rfl))
  f320 := Tryd.func46.trans (congrArg some (by kernel_rfl))
  f337 := Tryd.func47.trans (congrArg some (by kernel_rfl))
  f338 := Tryd.func48.trans (congrArg some (by kernel_rfl))
  t0 := Tryd.underlying0
  a0 := Tryd.isAgg0
  z0 := Tryd.sizeOf0
  v0 := Tryd.zeroValue0
  t2 := Tryd.underlying2
  a2 := Tryd.isAgg2
  z2 := Tryd.sizeOf2
  v2 := Tryd.zeroValue2
  t3 := Tryd.underlying3
  a3 := Tryd.isAgg3
  z3 := Tryd.sizeOf3
  v3 := Tryd.zeroValue3
  t4 := Tryd.underlying4
  a4 := Tryd.isAgg4
  z4 := Tryd.sizeOf4
  v4 := Tryd.zeroValue4
  t5 := Tryd.underlying5
  a5 := Tryd.isAgg5
  z5 := Tryd.sizeOf5
  v5 := Tryd.zeroValue5
  t9 := Tryd.underlying9
  a9 := Tryd.isAgg9
  z9 := Tryd.sizeOf9
  v9 := Tryd.zeroValue9
  t20 := Tryd.underlying20
  a20 := Tryd.isAgg20
  z20 := Tryd.sizeOf20
  v20 := Tryd.zeroValue20
  t37 := Tryd.underlying49
  a37 := Tryd.isAgg49
  z37 := Tryd.sizeOf49
  v37 := Tryd.zeroValue49
  t46 := Tryd.underlying88
  a46 := Tryd.isAgg88
  z46 := Tryd.sizeOf88
  v46 := Tryd.zeroValue88
  t51 := Tryd.underlying85
  a51 := Tryd.isAgg85
  z51 := Tryd.sizeOf85
  v51 := Tryd.zeroValue85
  t53 := Tryd.underlying74
  a53 := Tryd.isAgg74
  z53 := Tryd.sizeOf74
  v53 := Tryd.zeroValue74
  t171 := Tryd.underlying73
  a171 := Tryd.isAgg73
  z171 := Tryd.sizeOf73
  v171 := Tryd.zeroValue73
  t173 := Tryd.underlying77
  a173 := Tryd.isAgg77
  z173 := Tryd.sizeOf77
  v173 := Tryd.zeroValue77
  t212 := Tryd.underlying84
  a212 := Tryd.isAgg84
  z212 := Tryd.sizeOf84
  v212 := Tryd.zeroValue84
  t213 := Tryd.underlying86
  a213 := Tryd.isAgg86
  z213 := Tryd.sizeOf86
  t232 := Tryd.underlying91
  a232 := Tryd.isAgg91
  z232 := Tryd.sizeOf91
  v232 := Tryd.zeroValue91
  t233 := Tryd.underlying92
  a233 := Tryd.isAgg92
  z233 := Tryd.sizeOf92
  v233 := Tryd.zeroValue92
  g17 := by kernel_rfl
  g18 := by kernel_rfl
  g19 := by kernel_rfl }
theorem joinX : Builder.Extra Tryd.prog joinL_ren := {
  sizeBuilder := by kernel_rfl
  liesBuilder := by kernel_rfl
  t5 := Tryd.underlying5
  a5 := Tryd.isAgg5
  z5 := Tryd.sizeOf5
  v5 := Tryd.zeroValue5
  infoByte := by kernel_rfl
  cellsByte := by kernel_rfl
  sizeByte := by kernel_rfl
  neB5 := by decide }
theorem itoa_q {w : World} {M : Hp} {X : Fr} (i : Nat) (hi : i < 100) (S : SH w M X []) : Cq Tryd.prog 18 [.int .i64 (i : Int)] w M X (fun u => u = .string (sB (Lib.decDigits i))) :=
  (Any.strconv_Itoa_small itoaL i hi w).mono fun e w' ⟨he, hw⟩ => ⟨_, he, by rw [hw]; exact S, rfl⟩
theorem join_q {w : World} {M : Hp} {X : Fr} (xs : List (List UInt8)) (sep : List UInt8) {A : Option Addr} {c : Nat} (h : RdA cdStr (M.un X.h) A c xs) (hl : (Lib.join xs sep).length ≤ 140737488355328) (S : SH w M X []) : Cq Tryd.prog 20 [.slice A xs.length c, .string (sB sep)] w M X (fun u => u = .string (sB (Lib.join xs sep))) := by
  rcases Nat.eq_zero_or_pos xs.length with h0 | h0
  · have hx : xs = [] := List.eq_nil_of_length_eq_zero h0
    subst hx
    exact (Any.strings_Join_none joinL joinX A c (sB sep) w).mono fun e w' ⟨he, hw⟩ => ⟨_, he, by rw [hw]; exact S, rfl⟩
  · obtain ⟨e, cs, T2, fz, hc, _⟩ := h.2.2 h0
    have e1 : (xs.map sB).map (·.data.toList) = xs := by
      rw [List.map_map]
      conv => rhs; rw [← List.map_id xs]
      exact List.map_congr_left fun x _ => by simp [sB]
    have e2 : (sB sep).data.toList = sep := by simp [sB]
    have hr := h.room
    have hroom : xs.length * 16 ≤ 140737488355328 := hr
    have key := Any.strings_Join joinL joinX (adB A) (adO A) c (xs.map sB) (sB sep) w (fun j x hx => by
      have h1 := h.cells S.um j (.string x) (by
        rw [List.getElem?_map] at hx
        rw [flatS, List.getElem?_map]
        cases hq : xs[j]? with
        | none => rw [hq] at hx; cases hx
        | some z => rw [hq] at hx; simp at hx ⊢; rw [hx])
      exact h1) (hp_lt (S.um _ _ hc)) (by rw [List.length_map]; omega) (by rw [List.length_map]; exact h.cap) (by rw [e1, e2]; exact hl)
    rw [e1, e2, List.length_map, ← e] at key
    exact key.mono fun e w' ⟨he, hw⟩ => ⟨_, he, S.of_below hw, rfl⟩
end Go.Proofs.YtakmjhkgilijiaaDoor
namespace Go.Proofs.YtakmjhkgilijiaaDoor
open Go.ChangeShapes Go.WideShapes Go.ChangeAt Go.RowKit
theorem dec_small {m : Nat} (h : m < 10) : Lib.decDigits m = [UInt8.ofNat (48 + m)] := by
 rw [Lib.decDigits, dif_pos h]
theorem dec_big {m : Nat} (h : ¬ m < 10) : Lib.decDigits m = Lib.decDigits (m / 10) ++ [UInt8.ofNat (48 + m % 10)] := by
 rw [Lib.decDigits, dif_neg h]
theorem dec_len {m : Nat} (h : m < 100) : (Lib.decDigits m).length ≤ 2 := by
 by_cases h1 : m < 10
 ·rw [dec_small h1]; simp
 ·rw [dec_big h1, dec_small (by omega)]; simp
noncomputable def Dec1_n0 : Code := Tryd.f15.body.getD .skip
noncomputable def Dec1_n1 : Code := cL Dec1_n0
noncomputable def Dec1_n2 : Code := cR Dec1_n0
noncomputable def Dec1_n3 : Code := cL Dec1_n2
noncomputable def Dec1_n4 : Code := cR Dec1_n2
noncomputable def Dec1_n5 : Code := cL Dec1_n3
noncomputable def Dec1_n6 : Code := cR Dec1_n3
noncomputable def Dec1_n7 : Code := cL Dec1_n6
noncomputable def Dec1_n8 : Code := cR Dec1_n6
noncomputable def Dec1_n9 : Code := cL Dec1_n4
noncomputable def Dec1_n10 : Code := cR Dec1_n4
noncomputable def Dec1_n11 : Code := cL Dec1_n9
noncomputable def Dec1_n12 : Code := cR Dec1_n9
noncomputable def Dec1_n13 : Code := cL Dec1_n12
noncomputable def Dec1_n14 : Code := cR Dec1_n12
noncomputable def Dec1_n15 : Code := cL Dec1_n13
noncomputable def Dec1_n16 : Code := cR Dec1_n13
set_option maxRecDepth 10000 in
theorem Dec1_q {w : World} {M : Hp} {X : Fr} (m : Nat) (hm : m < 10) (S : SH w M X []) : Cq Tryd.prog 15 [.int .i64 (m : Int)] w M X (fun u => u = .string (sB (Lib.decDigits m))) := by
 unfold Cq
 refine calls_in (b := Dec1_n0) Tryd.func15 rfl Tryd.ntmps15 rfl (fun C hC => ?_)
 refine ws_sub [(0, _)] ⟨rfl, trivial⟩ ?_
 refine ws_seqN Dec1_n1 Dec1_n2 rfl rfl rfl ?_
 refine ws_region rfl ?_
 refine wla 0 1 rfl rfl rfl rfl rfl rfl rfl ?_
 refine wl_end rfl ?_
 refine nm_sub [(0, _)] ⟨rfl, trivial⟩ ?_
 refine nm_thn ?_
 refine ws_seqN Dec1_n3 Dec1_n4 rfl rfl rfl ?_
 refine ws_seqN Dec1_n5 Dec1_n6 rfl rfl rfl ?_
 refine ws_region rfl ?_
 refine wlm 0 1 rfl rfl rfl rfl rfl rfl rfl ?_
 refine wlo 1 2 rfl rfl rfl (wo_run rfl rfl (run_lss rfl rfl rfl) ?_)
 refine wl_end rfl ?_
 refine nm_sub [(0, _), (4, _)] ⟨rfl, rfl, trivial⟩ ?_
 refine nm_thn ?_
 refine ws_condN Dec1_n7 Dec1_n8 rfl rfl rfl rfl (fun hb4 => ?_) (fun hb4 => ?_)
 ·replace hb4 := of_decide_eq_true hb4
  exfalso; omega
 ·replace hb4 := of_decide_eq_false hb4
  refine ws_skip rfl ?_
  refine nm_sub [(0, _)] ⟨rfl, trivial⟩ ?_
  refine nm_thn ?_
  refine ws_seqN Dec1_n9 Dec1_n10 rfl rfl rfl ?_
  refine ws_seqN Dec1_n11 Dec1_n12 rfl rfl rfl ?_
  refine ws_region rfl ?_
  refine wlm 0 1 rfl rfl rfl rfl rfl rfl rfl ?_
  refine wlo 1 2 rfl rfl rfl (wo_run rfl rfl (run_lss rfl rfl rfl) ?_)
  refine wl_end rfl ?_
  refine nm_sub [(0, _), (10, _)] ⟨rfl, rfl, trivial⟩ ?_
  refine nm_thn ?_
  refine ws_condN Dec1_n13 Dec1_n14 rfl rfl rfl rfl (fun hb10 => ?_) (fun hb10 => ?_)
  ·replace hb10 := of_decide_eq_true hb10
   refine ws_seqN Dec1_n15 Dec1_n16 rfl rfl rfl ?_
   refine ws_region rfl ?_
   refine wlm 0 1 rfl rfl rfl rfl rfl rfl rfl ?_
   refine wlo 1 2 rfl rfl rfl (wo_run rfl rfl (run_add rfl rfl rfl (by first | omega | (simp only [lens]; omega))) ?_)
   refine wlo 2 3 rfl rfl rfl (wo_run rfl rfl (run_convB (s := (48 + m)) rfl (by first | rfl | exact congrArg (fun z => some (Value.int .i64 z)) (by omega)) ⟨_, Tryd.underlying3⟩ Tryd.underlying5 (by first | omega | (simp only [lens]; omega))) ?_)
   refine wlo 3 4 rfl rfl rfl (wo_buildSlice1 (C := cdB) (l := [_]) rfl rfl rfl rfl sl49 rfl rfl rfl rfl S ?_)
   intro gb1 w1 S1; clear S
   refine wlo 4 5 rfl rfl rfl (wo_run rfl rfl (run_text1 (s := (48 + m)) (i := 0) rfl rfl Tryd.underlying49 Tryd.underlying9 Tryd.underlying5 S1 rfl) ?_)
   refine wla 5 6 rfl rfl rfl rfl rfl rfl rfl ?_
   refine wl_end rfl ?_
   refine nm_sub [(2, _)] ⟨rfl, trivial⟩ ?_
   refine nm_thn ?_
   refine ws_ret hC [_] rfl rfl ⟨rfl, trivial⟩ ?_
   exact ⟨_, rfl, (S1.pick [] [] (by decide) trivial), (by rw [dec_small hm]; rfl)⟩
  ·replace hb10 := of_decide_eq_false hb10
   exfalso; omega
noncomputable def Dec_n0 : Code := Tryd.f15.body.getD .skip
noncomputable def Dec_n1 : Code := cL Dec_n0
noncomputable def Dec_n2 : Code := cR Dec_n0
noncomputable def Dec_n3 : Code := cL Dec_n2
noncomputable def Dec_n4 : Code := cR Dec_n2
noncomputable def Dec_n5 : Code := cL Dec_n3
noncomputable def Dec_n6 : Code := cR Dec_n3
noncomputable def Dec_n7 : Code := cL Dec_n6
noncomputable def Dec_n8 : Code := cR Dec_n6
noncomputable def Dec_n9 : Code := cL Dec_n4
noncomputable def Dec_n10 : Code := cR Dec_n4
noncomputable def Dec_n11 : Code := cL Dec_n9
noncomputable def Dec_n12 : Code := cR Dec_n9
noncomputable def Dec_n13 : Code := cL Dec_n12
noncomputable def Dec_n14 : Code := cR Dec_n12
noncomputable def Dec_n15 : Code := cL Dec_n13
noncomputable def Dec_n16 : Code := cR Dec_n13
noncomputable def Dec_n17 : Code := cL Dec_n10
noncomputable def Dec_n18 : Code := cR Dec_n10
set_option maxRecDepth 10000 in
theorem Dec_q {w : World} {M : Hp} {X : Fr} (m : Nat) (hm : m < 100) (S : SH w M X []) : Cq Tryd.prog 15 [.int .i64 (m : Int)] w M X (fun u => u = .string (sB (Lib.decDigits m))) := by
 unfold Cq
 refine calls_in (b := Dec_n0) Tryd.func15 rfl Tryd.ntmps15 rfl (fun C hC => ?_)
 refine ws_sub [(0, _)] ⟨rfl, trivial⟩ ?_
 refine ws_seqN Dec_n1 Dec_n2 rfl rfl rfl ?_
 refine ws_region rfl ?_
 refine wla 0 1 rfl rfl rfl rfl rfl rfl rfl ?_
 refine wl_end rfl ?_
 refine nm_sub [(0, _)] ⟨rfl, trivial⟩ ?_
 refine nm_thn ?_
 refine ws_seqN Dec_n3 Dec_n4 rfl rfl rfl ?_
 refine ws_seqN Dec_n5 Dec_n6 rfl rfl rfl ?_
 refine ws_region rfl ?_
 refine wlm 0 1 rfl rfl rfl rfl rfl rfl rfl ?_
 refine wlo 1 2 rfl rfl rfl (wo_run rfl rfl (run_lss rfl rfl rfl) ?_)
 refine wl_end rfl ?_
 refine nm_sub [(0, _), (4, _)] ⟨rfl, rfl, trivial⟩ ?_
 refine nm_thn ?_
 refine ws_condN Dec_n7 Dec_n8 rfl rfl rfl rfl (fun hb4 => ?_) (fun hb4 => ?_)
 ·replace hb4 := of_decide_eq_true hb4
  exfalso; omega
 ·replace hb4 := of_decide_eq_false hb4
  refine ws_skip rfl ?_
  refine nm_sub [(0, _)] ⟨rfl, trivial⟩ ?_
  refine nm_thn ?_
  refine ws_seqN Dec_n9 Dec_n10 rfl rfl rfl ?_
  refine ws_seqN Dec_n11 Dec_n12 rfl rfl rfl ?_
  refine ws_region rfl ?_
  refine wlm 0 1 rfl rfl rfl rfl rfl rfl rfl ?_
  refine wlo 1 2 rfl rfl rfl (wo_run rfl rfl (run_lss rfl rfl rfl) ?_)
  refine wl_end rfl ?_
  refine nm_sub [(0, _), (10, _)] ⟨rfl, rfl, trivial⟩ ?_
  refine nm_thn ?_
  refine ws_condN Dec_n13 Dec_n14 rfl rfl rfl rfl (fun hb10 => ?_) (fun hb10 => ?_)
  ·replace hb10 := of_decide_eq_true hb10
   refine ws_seqN Dec_n15 Dec_n16 rfl rfl rfl ?_
   refine ws_region rfl ?_
   refine wlm 0 1 rfl rfl rfl rfl rfl rfl rfl ?_
   refine wlo 1 2 rfl rfl rfl (wo_run rfl rfl (run_add rfl rfl rfl (by first | omega | (simp only [lens]; omega))) ?_)
   refine wlo 2 3 rfl rfl rfl (wo_run rfl rfl (run_convB (s := (48 + m)) rfl (by first | rfl | exact congrArg (fun z => some (Value.int .i64 z)) (by omega)) ⟨_, Tryd.underlying3⟩ Tryd.underlying5 (by first | omega | (simp only [lens]; omega))) ?_)
   refine wlo 3 4 rfl rfl rfl (wo_buildSlice1 (C := cdB) (l := [_]) rfl rfl rfl rfl sl49 rfl rfl rfl rfl S ?_)
   intro gb1 w1 S1; clear S
   refine wlo 4 5 rfl rfl rfl (wo_run rfl rfl (run_text1 (s := (48 + m)) (i := 0) rfl rfl Tryd.underlying49 Tryd.underlying9 Tryd.underlying5 S1 rfl) ?_)
   refine wla 5 6 rfl rfl rfl rfl rfl rfl rfl ?_
   refine wl_end rfl ?_
   refine nm_sub [(2, _)] ⟨rfl, trivial⟩ ?_
   refine nm_thn ?_
   refine ws_ret hC [_] rfl rfl ⟨rfl, trivial⟩ ?_
   exact ⟨_, rfl, (S1.pick [] [] (by decide) trivial), (by rw [dec_small (by omega)]; rfl)⟩
  ·replace hb10 := of_decide_eq_false hb10
   have hdl := dec_len (m := m / 10) (by omega)
   refine ws_skip rfl ?_
   refine nm_sub [(0, _)] ⟨rfl, trivial⟩ ?_
   refine nm_thn ?_
   refine ws_seqN Dec_n17 Dec_n18 rfl rfl rfl ?_
   refine ws_draw rfl (by kernel_rfl) S 11 rfl ?_
   clear S
   refine wa_takeP (i := 0) (d := 16) 10 rfl (by kernel_rfl) (by kernel_rfl) (by kernel_rfl) rfl rfl rfl (fun w2 => run_move rfl rfl) ?_
   refine wa_takeP (i := 1) (d := 17) 9 rfl (by kernel_rfl) (by kernel_rfl) (by kernel_rfl) rfl rfl rfl (fun w3 => run_quo rfl rfl rfl (by first | omega | (simp only [lens]; omega))) ?_
   refine wa_take (i := 2) (d := 18) 8 rfl (by kernel_rfl) (by kernel_rfl) (by kernel_rfl) rfl rfl rfl (fun M3 N3 w4 hle3 S4 => yield_cq rfl rfl rfl rfl rfl cf15 S4 (Dec1_q (m / 10) ((by omega)) S4.lend)) ?_
   refine wa_takeP (i := 3) (d := 19) 7 rfl (by kernel_rfl) (by kernel_rfl) (by kernel_rfl) rfl rfl rfl (fun w5 => run_move rfl rfl) ?_
   refine wa_takeP (i := 4) (d := 20) 6 rfl (by kernel_rfl) (by kernel_rfl) (by kernel_rfl) rfl rfl rfl (fun w6 => run_rem rfl rfl rfl (by first | omega | (simp only [lens]; omega))) ?_
   refine wa_takeP (i := 5) (d := 21) 5 rfl (by kernel_rfl) (by kernel_rfl) (by kernel_rfl) rfl rfl rfl (fun w7 => run_add rfl rfl rfl (by first | omega | (simp only [lens]; omega))) ?_
   refine wa_take (i := 6) (d := 22) 4 rfl (by kernel_rfl) (by kernel_rfl) (by kernel_rfl) rfl rfl rfl (fun M7 N7 w8 hle7 S8 => .inl (run_convB (s := (48 + m % 10)) rfl (by first | rfl | exact congrArg (fun z => some (Value.int .i64 z)) (by omega)) ⟨_, Tryd.underlying3⟩ Tryd.underlying5 (by first | omega | (simp only [lens]; omega)))) ?_
   refine wa_only (i := 7) 3 rfl (by kernel_rfl) rfl rfl (fun w10 S10 => ?_)
   refine (wo_buildSlice1 (C := cdB) (l := [_]) rfl rfl rfl rfl sl49 rfl rfl rfl rfl S10 ?_)
   intro gb2 w11 S11; clear S10
   refine LeftW.grow [_] (Hp.le_refl _) S11 ?_; clear S11
   change WA _ _ _ _ _ _ _ _ _ _ _ _ [_]
   refine wa_base ?_
   refine wa_take (i := 8) (d := 24) 2 rfl (by kernel_rfl) (by kernel_rfl) (by kernel_rfl) rfl rfl rfl (fun M9 N9 w12 hle9 S12 => .inl (run_text1 (s := (48 + m % 10)) (i := 0) rfl rfl Tryd.underlying49 Tryd.underlying9 Tryd.underlying5 S12.suf rfl)) ?_
   refine wa_takeP (i := 9) (d := 25) 1 rfl (by kernel_rfl) (by kernel_rfl) (by kernel_rfl) rfl rfl rfl (fun w13 => run_addS rfl rfl rfl ((by simp only [List.length_append, List.length_cons, List.length_nil]; first | omega | (simp only [lens]; omega)))) ?_
   refine wa_takeP (i := 10) (d := 2) 0 rfl (by kernel_rfl) (by kernel_rfl) (by kernel_rfl) rfl rfl rfl (fun w14 => run_assign rfl rfl) ?_
   refine wa_end (by kernel_rfl) (fun w15 S15 => ?_)
   refine nm_sub [(2, _)] ⟨rfl, trivial⟩ ?_
   refine nm_thn ?_
   refine ws_ret hC [_] rfl rfl ⟨rfl, trivial⟩ ?_
   exact ⟨_, rfl, (S15.pick [] [] (by decide) trivial), (by rw [dec_big (by omega)]; rfl)⟩
end Go.Proofs.YtakmjhkgilijiaaDoor
