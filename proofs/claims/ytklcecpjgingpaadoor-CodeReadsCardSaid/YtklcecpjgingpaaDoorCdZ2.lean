/- Part 2 of the proof of the law CodeReads: the walks through its functions and the plain laws that they need. -/
import Derived.Test.YtklcecpjgingpaaDoorCdZ1
import Derived.WalkSpells
import Derived.Laws.Cover3
import Derived.Laws.Pointers
import Derived.Laws.StructEq
import Derived.MapKept
import Derived.Carry
import Derived.Maps.RangeRun
import Derived.Lib.AppendZeros
import Derived.RangeFuncNested
import Derived.RangeFuncBound
import Derived.RangeFuncCalls
import Derived.RangeFuncLeaves
import Derived.LoopNIn
import Derived.Lib.Join
import Derived.Lib.ItoaNum
import Derived.Laws.Strings
import Derived.Test.YtklcecpjgingpaaDoorRows
import Derived.Shelf.Strings.Prefix
import Derived.Shelf.Strings.Split
import Derived.Shelf.Strings.Cut
import Derived.Shelf.Strconv.AtoiAll
import Derived.Shelf.Strconv.Itoa3
import Derived.Lib.LaidTab
import Derived.Lib.AtoiAllCases
import Derived.LaidHandle
import Derived.LaidMore
import Derived.Stop.Joined
set_option linter.unusedSimpArgs false
set_option linter.unusedVariables false
namespace Go.Proofs.YtklcecpjgingpaaDoor
open Go.ChangeShapes Go.WideShapes Go.ChangeAt Go.RowKit
theorem slCr : SlT Tryd.prog 28 49 5 40 (.agg #[.int .i64 0, .int .i64 0, .int .i64 0, .int .i64 0, .bool false]) := ⟨Tryd.underlying28, by kernel_rfl, rfl, by omega, by omega⟩
theorem cr_one (xs : List Cr) : ∀ u ∈ xs.flatMap codCr.f, u.oneCell' = true := by
  intro u hu
  obtain ⟨x, _, hx⟩ := List.mem_flatMap.1 hu
  simp [codCr, crF] at hx
  rcases hx with rfl | rfl | rfl | rfl | rfl <;> rfl
end Go.Proofs.YtklcecpjgingpaaDoor
namespace Go.Proofs.YtklcecpjgingpaaDoor
open Go.ChangeShapes Go.WideShapes Go.ChangeAt Go.RowKit
/-- How many of the first j places are where the arc a comes in (or, back, goes out). -/
def cntP (d : Dg) (a : Int) (back : Bool) (j : Nat) : Nat := (List.range j).countP (endP d a back)
theorem cntP_succ (d : Dg) (a : Int) (back : Bool) (j : Nat) : cntP d a back (j + 1) = cntP d a back j + if endP d a back j = true then 1 else 0 := by
  unfold cntP
  rw [List.range_succ, List.countP_append, List.countP_singleton]
theorem cntP_le (d : Dg) (a : Int) (back : Bool) (j : Nat) : cntP d a back j ≤ j := by
  unfold cntP
  have := List.countP_le_length (p := endP d a back) (l := List.range j)
  simpa using this
theorem cntP_at {d : Dg} {a : Int} {back : Bool} {i k : Nat} (hk : k < 4) :
    cntP d a back (4 * i + (k + 1)) = cntP d a back (4 * i + k) + if arcAt d i k = a ∧ entryB d i k ≠ back then 1 else 0 := by
  rw [← Nat.add_assoc, cntP_succ, endP_at hk]
  simp
def arcOk (d : Dg) (a : Int) : Bool := cntP d a false (4 * d.crs.length) == 1 && cntP d a true (4 * d.crs.length) == 1
def mayB (d : Dg) : Bool := decide (d.crs.length ≤ 16 ∧ 0 ≤ d.loops ∧ d.loops ≤ 16 ∧ ¬ (d.crs.length = 0 ∧ d.loops = 0)) && (List.range (2 * d.crs.length)).all fun a => arcOk d ((a + 1 : Nat) : Int)
theorem mayB_size {d : Dg} (h : ¬ (d.crs.length ≤ 16 ∧ 0 ≤ d.loops ∧ d.loops ≤ 16 ∧ ¬ (d.crs.length = 0 ∧ d.loops = 0))) : mayB d = false := by
  unfold mayB; rw [decide_eq_false h]; rfl
theorem mayB_arc {d : Dg} {a : Nat} (h0 : 1 ≤ a) (h1 : a ≤ 2 * d.crs.length) (h : arcOk d a = false) : mayB d = false := by
  unfold mayB
  rw [Bool.and_eq_false_iff]
  refine .inr (List.all_eq_false.2 ⟨a - 1, by simp; omega, ?_⟩)
  rw [show a - 1 + 1 = a by omega, h]; simp
theorem mayB_yes {d : Dg} (h : d.crs.length ≤ 16 ∧ 0 ≤ d.loops ∧ d.loops ≤ 16 ∧ ¬ (d.crs.length = 0 ∧ d.loops = 0)) (h2 : ∀ a : Nat, 1 ≤ a → a ≤ 2 * d.crs.length → arcOk d a = true) : mayB d = true := by
  unfold mayB
  rw [decide_eq_true h, Bool.true_and]
  refine List.all_eq_true.2 fun a ha => h2 (a + 1) (by omega) ?_
  simp at ha
  omega
set_option maxHeartbeats 2000000 in
theorem diagramMay_size (v : Value) (d : Dg) (w : World) (hd : IsDg w w.heap.size v d) (h : ¬ (d.crs.length ≤ 16 ∧ 0 ≤ d.loops ∧ d.loops ≤ 16 ∧ ¬ (d.crs.length = 0 ∧ d.loops = 0))) :
    Calls Tryd.prog 25 #[v] w (BoPost false w) := by
  obtain ⟨A, cap, rfl, hcap, hr⟩ := hd
  have hrm : d.crs.length * 40 ≤ 140737488355328 := hr.room
  clear hr
  obtain ⟨cs, loops⟩ := d
  dsimp only at *
  generalize cs.length = n at *
  by_cases h1 : 16 < n
  · go_enter Tryd.func25, Tryd.ntmps25
    go_wp2_with fail
    go_ret
    exact ⟨rfl, (Kp.refl _).alloc _⟩
  · by_cases h2 : loops < 0
    · go_enter Tryd.func25, Tryd.ntmps25
      go_wp2_with fail
      go_ret
      exact ⟨rfl, (Kp.refl _).alloc _⟩
    · by_cases h3 : 16 < loops
      · go_enter Tryd.func25, Tryd.ntmps25
        go_wp2_with fail
        go_ret
        exact ⟨rfl, (Kp.refl _).alloc _⟩
      · obtain ⟨rfl, rfl⟩ : n = 0 ∧ loops = 0 := by omega
        go_enter Tryd.func25, Tryd.ntmps25
        go_wp2_with fail
        go_ret
        exact ⟨rfl, (Kp.refl _).alloc _⟩
set_option maxHeartbeats 4000000 in
theorem diagramMay_arcs (v : Value) (d : Dg) (w : World) (hd : IsDg w w.heap.size v d) (h : d.crs.length ≤ 16 ∧ 0 ≤ d.loops ∧ d.loops ≤ 16 ∧ ¬ (d.crs.length = 0 ∧ d.loops = 0)) :
    Calls Tryd.prog 25 #[v] w (BoPost (mayB d) w) := by
  obtain ⟨A, cap, rfl, hcap, hr⟩ := hd
  have hd : ∀ w', Kp w w' → IsDg w' w'.heap.size (.agg #[.slice A d.crs.length cap, .int .i64 d.loops]) d := fun w' hk => ⟨A, cap, rfl, hcap, hr.kp hk⟩
  have HD := Lib.hid hd
  clear hd hr
  have Hsz := Lib.hid h
  obtain ⟨h1, h2, h3, h4⟩ := h
  have hq : ¬ (d.crs.length = 0 ∧ d.loops = 0) → (((d.crs.length : Int) == 0 : Bool) = false) ∨ ((((d.crs.length : Int) == 0) : Bool) = true ∧ ((d.loops == 0) : Bool) = false) := by
    intro h
    by_cases h0 : d.crs.length = 0
    · exact .inr ⟨by rw [beq_iff_eq]; omega, by rw [beq_eq_false_iff_ne]; omega⟩
    · exact .inl (by rw [beq_eq_false_iff_ne]; omega)
  have hq' := hq h4
  clear hq h4
  go_enter Tryd.func25, Tryd.ntmps25
  go_upto_region 2 with (fail)
  go_cut [33] (fun c wx => c = .bool false ∧ wx = w.alloc (.cells #[.slice A d.crs.length cap, .int .i64 d.loops] 30))
  case first =>
    rcases hq' with hq' | ⟨hq', hq''⟩
    · go_wp2_with fail
      go_meet
      case rel => exact ⟨congrArg Value.bool (by simp; omega), rfl⟩
    · go_wp2_with fail
      go_meet
      case rel => exact ⟨congrArg Value.bool (by simp; omega), rfl⟩
  case rest =>
    obtain ⟨rfl, rfl⟩ := hcut
    clear hq'
    go_wp2_with fail
    go_loopw [4] (fun i wr => ∃ a : Nat, 1 ≤ a ∧ a ≤ 2 * d.crs.length + 1 ∧ i = .int .i64 a ∧ Hid (∀ a' : Nat, 1 ≤ a' → a' < a → arcOk d a' = true) ∧ Kp w wr ∧
      Blk wr w.heap.size 30 #[.slice A d.crs.length cap, .int .i64 d.loops]) (fun i _ => 2 * d.crs.length + 1 - (intOf i).toNat)
    case atStart => exact ⟨1, by omega, by omega, rfl, fun a h1 h2 => by omega, (Kp.refl _).alloc _, Blk.new _ _ _⟩
    case round =>
      obtain ⟨a, ha0, ha1, rfl, hok, hk, hB⟩ := hrel
      by_cases hlt : a ≤ 2 * d.crs.length
      · obtain ⟨wo, rfl⟩ : ∃ wo : World, wo = wr := ⟨_, rfl⟩
        have ta : decide ((a : Int) ≤ 2 * (d.crs.length : Int)) = true := by simp; omega
        go_wp2_with fail
        go_loopw [5, 6, 7] (fun ci co i wr => ∃ n : Nat, n ≤ d.crs.length ∧ i = .int .i64 n ∧ ci = .int .i64 (cntP d a false (4 * n)) ∧ co = .int .i64 (cntP d a true (4 * n)) ∧ Kp w wr ∧
          Blk wr w.heap.size 30 #[.slice A d.crs.length cap, .int .i64 d.loops]) (fun _ _ i _ => d.crs.length - (intOf i).toNat)
        case atStart => exact ⟨0, Nat.zero_le _, rfl, rfl, rfl, hk, hB⟩
        case round =>
          clear hk hB
          obtain ⟨n, hn, rfl, rfl, rfl, hk, hB⟩ := hrel
          by_cases hlt2 : n < d.crs.length
          · clear wo
            obtain ⟨wo, rfl⟩ : ∃ wo : World, wo = wr := ⟨_, rfl⟩
            have cl1 := cntP_le d a false (4 * n)
            have cl2 := cntP_le d a true (4 * n)
            go_wp2_with fail
            go_loopw [5, 6, 8] (fun ci co i wr => ∃ m : Nat, m ≤ 4 ∧ i = .int .i64 m ∧ ci = .int .i64 (cntP d a false (4 * n + m)) ∧ co = .int .i64 (cntP d a true (4 * n + m)) ∧ Kp w wr ∧
              Blk wr w.heap.size 30 #[.slice A d.crs.length cap, .int .i64 d.loops]) (fun _ _ i _ => 4 - (intOf i).toNat)
            case atStart => exact ⟨0, Nat.zero_le _, rfl, rfl, rfl, hk, hB⟩
            case round =>
              clear hk hB cl1 cl2
              obtain ⟨m, hm, rfl, rfl, rfl, hk, hB⟩ := hrel
              obtain ⟨e0, e1, e2, e3⟩ := hB.two
              obtain ⟨s00, s01, s02, s03, s04⟩ := lts hB.lt
              by_cases hm4 : m < 4
              · have c1 := cntP_at (d := d) (a := a) (back := false) (i := n) hm4
                have c2 := cntP_at (d := d) (a := a) (back := true) (i := n) hm4
                have cl1 := cntP_le d a false (4 * n + m)
                have cl2 := cntP_le d a true (4 * n + m)
                by_cases ha : arcAt d n m = (a : Int)
                · have t1 : ((arcAt d n m == (a : Int)) : Bool) = true := by rw [beq_iff_eq]; exact ha
                  have s4 : 4 * n + m < 64 := by omega
                  cases he : entryB d n m
                  · rw [if_neg (by simp [he])] at c1
                    rw [if_pos (by simp [ha, he])] at c2
                    have c1' := Lib.hid c1
                    have c2' := Lib.hid c2
                    have he' := Lib.hid he
                    clear c1 c2 ha he
                    go_wp2_with fail
                    refine (arcAt_any _ d n m _ (HD.out _ (hk.alloc _)) hlt2 hm4).mono ?_; rintro e w1 ⟨rfl, hk1⟩
                    obtain ⟨cc, cf⟩ := hk1.cf (n := wr.heap.size + 1) (by simp)
                    go_wp2_with fail
                    refine (entry_any _ d n m _ (HD.out _ ((hk.alloc _).trans hk1)) hlt2 hm4).mono ?_; rintro e w2 ⟨rfl, hk2⟩
                    obtain ⟨c2, f2⟩ := (hk1.trans hk2).cf (n := wr.heap.size + 1) (by simp)
                    clear cc cf
                    rw [he'.out]
                    go_wp2_with fail
                    refine (arcAt_any _ d n m _ (HD.out _ (((hk.alloc _).trans hk1).trans hk2)) hlt2 hm4).mono ?_; rintro e w3 ⟨rfl, hk3⟩
                    obtain ⟨c3, f3⟩ := ((hk1.trans hk2).trans hk3).cf (n := wr.heap.size + 1) (by simp)
                    clear c2 f2
                    go_wp2_with fail
                    refine (entry_any _ d n m _ (HD.out _ ((((hk.alloc _).trans hk1).trans hk2).trans hk3)) hlt2 hm4).mono ?_; rintro e w4 ⟨rfl, hk4⟩
                    rw [he'.out]
                    go_wp2_with fail
                    go_roundw
                    case rel => exact ⟨m + 1, by omega, by go_num, by rw [c1'.out]; rfl, by rw [c2'.out]; go_num, (((hk.alloc _).trans hk1).trans hk2).trans (hk3.trans hk4), (((hB.alloc _).kp hk1).kp hk2).kp (hk3.trans hk4)⟩
                    case measure => simp [intOf] <;> omega
                  · rw [if_pos (by simp [ha, he])] at c1
                    rw [if_neg (by simp [he])] at c2
                    have c1' := Lib.hid c1
                    have c2' := Lib.hid c2
                    have he' := Lib.hid he
                    clear c1 c2 ha he
                    go_wp2_with fail
                    refine (arcAt_any _ d n m _ (HD.out _ (hk.alloc _)) hlt2 hm4).mono ?_; rintro e w1 ⟨rfl, hk1⟩
                    obtain ⟨cc, cf⟩ := hk1.cf (n := wr.heap.size + 1) (by simp)
                    go_wp2_with fail
                    refine (entry_any _ d n m _ (HD.out _ ((hk.alloc _).trans hk1)) hlt2 hm4).mono ?_; rintro e w2 ⟨rfl, hk2⟩
                    obtain ⟨c2, f2⟩ := (hk1.trans hk2).cf (n := wr.heap.size + 1) (by simp)
                    clear cc cf
                    rw [he'.out]
                    go_wp2_with fail
                    refine (arcAt_any _ d n m _ (HD.out _ (((hk.alloc _).trans hk1).trans hk2)) hlt2 hm4).mono ?_; rintro e w3 ⟨rfl, hk3⟩
                    obtain ⟨c3, f3⟩ := ((hk1.trans hk2).trans hk3).cf (n := wr.heap.size + 1) (by simp)
                    clear c2 f2
                    go_wp2_with fail
                    refine (entry_any _ d n m _ (HD.out _ ((((hk.alloc _).trans hk1).trans hk2).trans hk3)) hlt2 hm4).mono ?_; rintro e w4 ⟨rfl, hk4⟩
                    rw [he'.out]
                    go_wp2_with fail
                    go_roundw
                    case rel => exact ⟨m + 1, by omega, by go_num, by rw [c1'.out]; go_num, by rw [c2'.out]; rfl, (((hk.alloc _).trans hk1).trans hk2).trans (hk3.trans hk4), (((hB.alloc _).kp hk1).kp hk2).kp (hk3.trans hk4)⟩
                    case measure => simp [intOf] <;> omega
                · have t1 : ((arcAt d n m == (a : Int)) : Bool) = false := by rw [beq_eq_false_iff_ne]; exact ha
                  rw [if_neg (by simp [ha])] at c1 c2
                  have c1' := Lib.hid c1
                  have c2' := Lib.hid c2
                  clear c1 c2 ha
                  go_wp2_with fail
                  refine (arcAt_any _ d n m _ (HD.out _ (hk.alloc _)) hlt2 hm4).mono ?_; rintro e w1 ⟨rfl, hk1⟩
                  obtain ⟨cc, cf⟩ := hk1.cf (n := wr.heap.size + 1) (by simp)
                  go_wp2_with fail
                  refine (arcAt_any _ d n m _ (HD.out _ ((hk.alloc _).trans hk1)) hlt2 hm4).mono ?_; rintro e w2 ⟨rfl, hk2⟩
                  go_wp2_with fail
                  go_roundw
                  case rel => exact ⟨m + 1, by omega, by go_num, by rw [c1'.out]; rfl, by rw [c2'.out]; rfl, ((hk.alloc _).trans hk1).trans hk2, ((hB.alloc _).kp hk1).kp hk2⟩
                  case measure => simp [intOf] <;> omega
              · obtain rfl : m = 4 := by omega
                go_wp2_with fail
                go_roundw
                case rel => exact ⟨n + 1, by omega, by go_num, rfl, rfl, hk, hB⟩
                case measure => simp [intOf] <;> omega
          · obtain rfl : n = d.crs.length := by omega
            by_cases hin : cntP d a false (4 * d.crs.length) = 1
            · have i1 : ((((cntP d a false (4 * d.crs.length) : Nat) : Int) != 1) : Bool) = false := by simp only [bne_eq_false_iff_eq]; omega
              by_cases hout : cntP d a true (4 * d.crs.length) = 1
              · have i2 : ((((cntP d a true (4 * d.crs.length) : Nat) : Int) != 1) : Bool) = false := by simp only [bne_eq_false_iff_eq]; omega
                have hao : Hid (arcOk d a = true) := by rw [Hid]; unfold arcOk; rw [hin, hout]; rfl
                clear hin hout
                go_wp2_with fail
                go_roundw
                case rel => exact ⟨a + 1, by omega, by omega, by go_num, fun a' h1 h2 => by
                  rcases Nat.lt_or_ge a' a with h | h
                  · exact hok.out a' h1 h
                  · obtain rfl : a' = a := by omega
                    exact hao.out, hk, hB⟩
                case measure => simp [intOf] <;> omega
              · have i2 : ((((cntP d a true (4 * d.crs.length) : Nat) : Int) != 1) : Bool) = true := by simp only [bne_iff_ne, ne_eq]; omega
                have hao : Hid (mayB d = false) := mayB_arc ha0 hlt (by unfold arcOk; rw [hin]; simp [hout])
                clear hin hout
                go_wp2_with fail
                go_ret
                exact ⟨by rw [hao.out]; rfl, hk⟩
            · have i1 : ((((cntP d a false (4 * d.crs.length) : Nat) : Int) != 1) : Bool) = true := by simp only [bne_iff_ne, ne_eq]; omega
              have hao : Hid (mayB d = false) := mayB_arc ha0 hlt (by unfold arcOk; simp [hin])
              clear hin
              go_wp2_with fail
              go_ret
              exact ⟨by rw [hao.out]; rfl, hk⟩
      · have hao : Hid (mayB d = true) := mayB_yes Hsz.out fun a' h1 h2 => hok.out a' h1 (by omega)
        go_wp2_with fail
        go_ret
        exact ⟨by rw [hao.out]; rfl, hk⟩
theorem diagramMay_any (v : Value) (d : Dg) (w : World) (hd : IsDg w w.heap.size v d) : Calls Tryd.prog 25 #[v] w (BoPost (mayB d) w) := by
  by_cases h : d.crs.length ≤ 16 ∧ 0 ≤ d.loops ∧ d.loops ≤ 16 ∧ ¬ (d.crs.length = 0 ∧ d.loops = 0)
  · exact diagramMay_arcs v d w hd h
  · rw [mayB_size h]; exact diagramMay_size v d w hd h
end Go.Proofs.YtklcecpjgingpaaDoor
namespace Go.Proofs.YtklcecpjgingpaaDoor
open Go.ChangeShapes Go.WideShapes Go.ChangeAt Go.RowKit
/-- The last of the first J places where the arc a comes in (or, back, goes out). -/
def lastP (d : Dg) (a : Int) (back : Bool) : Nat → Nat × Nat
  | 0 => (0, 0)
  | J + 1 => if endP d a back J = true then (J / 4, J % 4) else lastP d a back J
/-- The arc at place number j. -/
def arcJ (d : Dg) (j : Nat) : Int := arcAt d (j / 4) (j % 4)
/-- How many of the first J places have one of the first m arcs. -/
def hitsM (d : Dg) (m J : Nat) : Nat := (List.range J).countP fun j => decide (1 ≤ arcJ d j ∧ arcJ d j ≤ (m : Int))
theorem hitsM_succ (d : Dg) (m J : Nat) : hitsM d (m + 1) J = hitsM d m J + (cntP d ((m + 1 : Nat) : Int) false J + cntP d ((m + 1 : Nat) : Int) true J) := by
  induction J with
  | zero => simp [hitsM, cntP]
  | succ J ih =>
    have e : ∀ m, hitsM d m (J + 1) = hitsM d m J + if 1 ≤ arcJ d J ∧ arcJ d J ≤ (m : Int) then 1 else 0 := by
      intro m
      unfold hitsM
      rw [List.range_succ, List.countP_append, List.countP_singleton]
      simp
    rw [e, e, ih, cntP_succ, cntP_succ]
    unfold endP
    change _ + (if 1 ≤ arcJ d J ∧ arcJ d J ≤ ((m + 1 : Nat) : Int) then 1 else 0) = _
    have h1 : arcAt d (J / 4) (J % 4) = arcJ d J := rfl
    rw [h1]
    by_cases hm : arcJ d J = ((m + 1 : Nat) : Int)
    · rw [if_pos (by omega), if_neg (by omega)]
      cases entryB d (J / 4) (J % 4) <;> simp [hm] <;> omega
    · have e2 : decide (arcJ d J = ((m + 1 : Nat) : Int)) = false := by simpa using hm
      rw [e2]
      simp only [Bool.false_and, Bool.false_eq_true, if_false]
      by_cases h2 : 1 ≤ arcJ d J ∧ arcJ d J ≤ (m : Int)
      · rw [if_pos (by omega), if_pos h2]; omega
      · rw [if_neg (by omega), if_neg h2]; omega
theorem hitsM_all {d : Dg} {m : Nat} (h : ∀ a : Nat, 1 ≤ a → a ≤ m → cntP d a false (4 * d.crs.length) = 1 ∧ cntP d a true (4 * d.crs.length) = 1) : hitsM d m (4 * d.crs.length) = 2 * m := by
  induction m with
  | zero =>
    unfold hitsM
    rw [List.countP_eq_zero.2 (by intro j _; simp; omega)]
  | succ m ih =>
    rw [hitsM_succ, ih fun a h0 h1 => h a h0 (by omega)]
    have := h (m + 1) (by omega) (by omega)
    omega
/-- Does each arc come in once and go out once? -/
def arcsB (d : Dg) : Bool := (List.range (2 * d.crs.length)).all fun a => arcOk d ((a + 1 : Nat) : Int)
theorem mayB_arcs (d : Dg) : mayB d = (decide (d.crs.length ≤ 16 ∧ 0 ≤ d.loops ∧ d.loops ≤ 16 ∧ ¬ (d.crs.length = 0 ∧ d.loops = 0)) && arcsB d) := rfl
theorem arcsB_out {d : Dg} (h : arcsB d = true) (a : Nat) (h0 : 1 ≤ a) (h1 : a ≤ 2 * d.crs.length) : cntP d a false (4 * d.crs.length) = 1 ∧ cntP d a true (4 * d.crs.length) = 1 := by
  have := List.all_eq_true.1 h (a - 1) (by simp; omega)
  rw [show a - 1 + 1 = a by omega] at this
  unfold arcOk at this
  simpa using this
theorem arcsB_no {d : Dg} {a : Nat} (h0 : 1 ≤ a) (h1 : a ≤ 2 * d.crs.length) (h : arcOk d a = false) : arcsB d = false := by
  refine List.all_eq_false.2 ⟨a - 1, by simp; omega, ?_⟩
  rw [show a - 1 + 1 = a by omega, h]; simp
theorem arcsB_yes {d : Dg} (h2 : ∀ a : Nat, 1 ≤ a → a ≤ 2 * d.crs.length → arcOk d a = true) : arcsB d = true := by
  refine List.all_eq_true.2 fun a ha => h2 (a + 1) (by omega) ?_
  simp at ha
  omega
/-- Where each arc comes in once and goes out once, no place has another arc. -/
theorem arcs_rng {d : Dg} (h : arcsB d = true) {j : Nat} (hj : j < 4 * d.crs.length) : 1 ≤ arcJ d j ∧ arcJ d j ≤ 2 * (d.crs.length : Int) := by
  have h1 := hitsM_all (m := 2 * d.crs.length) (arcsB_out h)
  unfold hitsM at h1
  have h2 : (List.range (4 * d.crs.length)).countP (fun j => decide (1 ≤ arcJ d j ∧ arcJ d j ≤ ((2 * d.crs.length : Nat) : Int))) = (List.range (4 * d.crs.length)).length := by rw [h1]; simp; omega
  rw [List.countP_eq_length] at h2
  have := h2 j (by simpa using hj)
  rw [decide_eq_true_iff] at this
  omega
theorem arcs_not {d : Dg} {j : Nat} (hj : j < 4 * d.crs.length) (h : ¬ (1 ≤ arcJ d j ∧ arcJ d j ≤ 2 * (d.crs.length : Int))) : arcsB d = false := by
  cases hm : arcsB d
  · rfl
  · exact absurd (arcs_rng hm hj) h
set_option maxRecDepth 100000 in
set_option maxHeartbeats 1000000 in
theorem arc_any (x : Cr) (k : Nat) (w : World) (hk : k < 4) : Calls Tryd.prog 71 #[crV x, .int .i64 k] w (IntPost (crArc x k) w) := by
  have hkk : k = 0 ∨ k = 1 ∨ k = 2 ∨ k = 3 := by omega
  unfold crV
  obtain ⟨a, b, c, d, p⟩ := x
  have i0 : ∀ w, (Instr.index 69 (.agg #[.int .i64 a, .int .i64 b, .int .i64 c, .int .i64 d]) (.int .i64 0)).run Tryd.prog w = .ok (.int .i64 a) w := fun _ => by kernel_rfl
  have i1 : ∀ w, (Instr.index 69 (.agg #[.int .i64 a, .int .i64 b, .int .i64 c, .int .i64 d]) (.int .i64 1)).run Tryd.prog w = .ok (.int .i64 b) w := fun _ => by kernel_rfl
  have i2 : ∀ w, (Instr.index 69 (.agg #[.int .i64 a, .int .i64 b, .int .i64 c, .int .i64 d]) (.int .i64 2)).run Tryd.prog w = .ok (.int .i64 c) w := fun _ => by kernel_rfl
  have i3 : ∀ w, (Instr.index 69 (.agg #[.int .i64 a, .int .i64 b, .int .i64 c, .int .i64 d]) (.int .i64 3)).run Tryd.prog w = .ok (.int .i64 d) w := fun _ => by kernel_rfl
  rcases hkk with rfl | rfl | rfl | rfl
  all_goals
    go_enter Tryd.func71, Tryd.ntmps71
    go_wp2_with fail
    go_ret
    exact ⟨rfl, (Kp.refl _).alloc _⟩
def overIn (x : Cr) : Nat := if x.plus = true then 3 else 1
set_option maxHeartbeats 1000000 in
theorem overIn_any (x : Cr) (w : World) : Calls Tryd.prog 87 #[crV x] w (IntPost (overIn x) w) := by
  obtain ⟨a, b, c, d, p⟩ := x
  unfold crV overIn
  cases p
  all_goals
    go_enter Tryd.func87, Tryd.ntmps87
    go_wp2_with fail
    go_ret
    exact ⟨rfl, (Kp.refl _).alloc _⟩
set_option maxHeartbeats 1000000 in
theorem comes_any (x : Cr) (k : Nat) (w : World) (hk : k < 4) : Calls Tryd.prog 72 #[crV x, .int .i64 k] w (BoPost (crIn x k) w) := by
  have hkk : k = 0 ∨ k = 1 ∨ k = 2 ∨ k = 3 := by omega
  have ho := Lib.hid fun w' => overIn_any x w'
  obtain ⟨a, b, c, d, p⟩ := x
  unfold crV overIn at *
  rcases hkk with rfl | rfl | rfl | rfl
  · go_enter Tryd.func72, Tryd.ntmps72
    go_wp2_with fail
    go_ret
    exact ⟨rfl, (Kp.refl _).alloc _⟩
  all_goals
    cases p
    all_goals
      go_enter Tryd.func72, Tryd.ntmps72
      go_wp2_with fail
      refine (ho.out _).mono ?_; rintro e w1 ⟨rfl, hk1⟩
      go_wp2_with fail
      go_ret
      exact ⟨rfl, Kp.trans ((Kp.refl _).alloc _) hk1⟩
end Go.Proofs.YtklcecpjgingpaaDoor
namespace Go.Proofs.YtklcecpjgingpaaDoor
open Go.ChangeShapes Go.WideShapes Go.ChangeAt Go.RowKit
def CrsPost (base : Nat) (xs : List Cr) (w : World) (e : Ending) (w' : World) : Prop := ∃ A c, e = .returned (.slice A xs.length c) ∧ Ow codCr 49 w' base (.slice A xs.length c) xs ∧ Kp w w'
set_option maxHeartbeats 1000000 in
theorem cloneCrs (A : Option Addr) (c : Nat) (xs : List Cr) (w : World) (hr : Rd codCr w w.heap.size A xs) :
    Calls Tryd.prog 70 #[.slice A xs.length c] w (CrsPost w.heap.size xs w) := by
  have hnl := fun (w : World) (a : Option Addr) (n c : Nat) => Lib.run_eql_slice_nil (P := Tryd.prog) w 28 49 a n c 0 0 Tryd.underlying28
  cases A with
  | none =>
    have h0 : xs.length = 0 := by
      rcases Nat.eq_zero_or_pos xs.length with h | h
      · exact h
      · obtain ⟨b, off, h, _⟩ := Sl.at_ hr h
        cases h
    have hx : xs = [] := List.eq_nil_of_length_eq_zero h0
    subst hx
    go_enter Tryd.func70, Tryd.ntmps70
    go_wp2_with fail
    go_ret
    exact ⟨none, 0, rfl, Ow.nil_, Kp.refl _⟩
  | some ad =>
    go_enter Tryd.func70, Tryd.ntmps70
    go_wp2_with (at_builtin; refine wp_appendSl slCr rfl _ _ rfl (World.ownsRow_made w #[] 0 (Nat.le_refl _) (by unfold maxLen; omega) rfl) rfl rfl (Rd.kp hr ((Kp.refl _).alloc _)) (cr_one xs) (by rw [Nat.zero_add]; exact hr.room) (by simp) ?_; intro v' w1 ho hg _)
    go_ret
    have ho' : Ow codCr 49 w1 w.heap.size v' xs := by
      unfold Ow
      rw [Nat.zero_add, List.nil_append] at ho
      exact ho
    obtain ⟨A', c', rfl, _⟩ := ho'.sl
    exact ⟨A', c', rfl, ho', ((Kp.refl w).alloc _).grown hg (fun k hk => by simp [Value.ownBlock] at hk; omega)⟩
def plF (x : Nat × Nat) : List Value := [.int .i64 x.1, .int .i64 x.2]
def codPl : Cod (Nat × Nat) := ⟨plF, 2, 16, fun _ => rfl⟩
/-- Of each arc, the last of the first J places where it comes in (or goes out). -/
def tabL (d : Dg) (back : Bool) (J : Nat) : List (Nat × Nat) := (List.range (2 * d.crs.length + 1)).map fun a : Nat => lastP d (a : Int) back J
/-- Of each arc, how often it has come in (or gone out). -/
def cntL (d : Dg) (back : Bool) (J : Nat) : List Int := (List.range (2 * d.crs.length + 1)).map fun a : Nat => ((cntP d (a : Int) back J : Nat) : Int)
theorem lastP_succ (d : Dg) (a : Int) (back : Bool) (J : Nat) : lastP d a back (J + 1) = if endP d a back J = true then (J / 4, J % 4) else lastP d a back J := rfl
theorem tabL_len (d : Dg) (back : Bool) (J : Nat) : (tabL d back J).length = 2 * d.crs.length + 1 := by simp [tabL]
theorem cntL_len (d : Dg) (back : Bool) (J : Nat) : (cntL d back J).length = 2 * d.crs.length + 1 := by simp [cntL]
theorem tabL_get {d : Dg} {back : Bool} {J a : Nat} (h : a < 2 * d.crs.length + 1) : ga (tabL d back J) a = lastP d (a : Int) back J := by
  rw [ga_eq (by rw [tabL_len]; exact h)]; simp [tabL]
theorem cntL_get {d : Dg} {back : Bool} {J a : Nat} (h : a < 2 * d.crs.length + 1) : gi (cntL d back J) a = (cntP d (a : Int) back J : Nat) := by
  rw [gi_eq (by rw [cntL_len]; exact h)]; simp [cntL]
theorem tabL_zero (d : Dg) (back : Bool) : tabL d back 0 = List.replicate (2 * d.crs.length + 1) (0, 0) := by
  simp only [tabL, lastP, List.map_const', List.length_range]
theorem cntL_zero (d : Dg) (back : Bool) : cntL d back 0 = List.replicate (2 * d.crs.length + 1) 0 := by
  simp [cntL, cntP, List.map_const']
theorem endP_arc {d : Dg} {a J : Nat} {back : Bool} (h : arcJ d J = a) (a' : Nat) : endP d (a' : Int) back J = (decide (a' = a) && (entryB d (J / 4) (J % 4) != back)) := by
  unfold endP
  have h1 : arcAt d (J / 4) (J % 4) = (a : Int) := h
  rw [h1]
  congr 1
  simp only [decide_eq_decide]
  omega
theorem tabL_hit {d : Dg} {back : Bool} {J a : Nat} (h : arcJ d J = a) (he : entryB d (J / 4) (J % 4) ≠ back) : tabL d back (J + 1) = (tabL d back J).set a (J / 4, J % 4) := by
  apply ga_ext
  · rw [List.length_set, tabL_len, tabL_len]
  · intro i hi
    rw [tabL_len] at hi
    have e := endP_arc (back := back) h i
    by_cases ha : a < (tabL d back J).length
    · rw [ga_set _ _ _ _ ha, tabL_get hi, tabL_get hi, lastP_succ, e]
      by_cases hi' : a = i
      · subst hi'; simp [he]
      · have : ¬ i = a := fun h => hi' h.symm
        simp [hi', this]
    · rw [List.set_eq_of_length_le (by omega), tabL_get hi, tabL_get hi]
      rw [tabL_len] at ha
      rw [lastP_succ, e]
      have : ¬ i = a := by omega
      simp [this]
theorem tabL_miss {d : Dg} {back : Bool} {J : Nat} (he : entryB d (J / 4) (J % 4) = back) : tabL d back (J + 1) = tabL d back J := by
  apply ga_ext
  · rw [tabL_len, tabL_len]
  · intro i hi
    rw [tabL_len] at hi
    rw [tabL_get hi, tabL_get hi, lastP_succ]
    unfold endP
    simp [he]
theorem cntL_hit {d : Dg} {back : Bool} {J a : Nat} (h : arcJ d J = a) (he : entryB d (J / 4) (J % 4) ≠ back) : cntL d back (J + 1) = (cntL d back J).set a (gi (cntL d back J) a + 1) := by
  apply gi_ext
  · rw [List.length_set, cntL_len, cntL_len]
  · intro i hi
    rw [cntL_len] at hi
    have e := endP_arc (back := back) h i
    by_cases ha : a < (cntL d back J).length
    · rw [gi_set _ _ _ _ ha, cntL_get hi, cntL_get hi, cntP_succ, e]
      by_cases hi' : a = i
      · subst hi'; rw [cntL_get hi]; simp [he]
      · have : ¬ i = a := fun h => hi' h.symm
        simp [hi', this]
    · rw [List.set_eq_of_length_le (by omega), cntL_get hi, cntL_get hi, cntP_succ, e]
      rw [cntL_len] at ha
      have : ¬ i = a := by omega
      simp [this]
theorem cntL_miss {d : Dg} {back : Bool} {J : Nat} (he : entryB d (J / 4) (J % 4) = back) : cntL d back (J + 1) = cntL d back J := by
  apply gi_ext
  · rw [cntL_len, cntL_len]
  · intro i hi
    rw [cntL_len] at hi
    rw [cntL_get hi, cntL_get hi, cntP_succ]
    unfold endP
    simp [he]
end Go.Proofs.YtklcecpjgingpaaDoor
namespace Go.Proofs.YtklcecpjgingpaaDoor
open Go.ChangeShapes Go.WideShapes Go.ChangeAt Go.RowKit
theorem slPl : SlT Tryd.prog 107 113 2 16 (.agg #[.int .i64 0, .int .i64 0]) := ⟨Tryd.underlying107, by kernel_rfl, rfl, by omega, by omega⟩
/-- What the first statements of 'Build' leave: the diagram at work, with empty tables. -/
def Sh (d : Dg) (w0 w : World) (p : Value) (ti tu : List (Nat × Nat)) : Prop :=
  ∃ g A c gi go, p = .pointer (some ⟨g, 0, none⟩) ∧
    Blk w g 109 #[.slice A d.crs.length c, .int .i64 d.loops, .slice (some ⟨gi, 0, none⟩) (2 * d.crs.length + 1) (2 * d.crs.length + 1), .slice (some ⟨go, 0, none⟩) (2 * d.crs.length + 1) (2 * d.crs.length + 1)] ∧
    gi ≠ go ∧ w0.heap.size < g ∧
    Ow codCr 49 w (w0.heap.size + 1) (.slice A d.crs.length c) d.crs ∧
    Ow codPl 113 w (w0.heap.size + 1) (.slice (some ⟨gi, 0, none⟩) (2 * d.crs.length + 1) (2 * d.crs.length + 1)) ti ∧
    Ow codPl 113 w (w0.heap.size + 1) (.slice (some ⟨go, 0, none⟩) (2 * d.crs.length + 1) (2 * d.crs.length + 1)) tu
theorem Sh.kp {d : Dg} {w0 w w' : World} {p : Value} {ti tu : List (Nat × Nat)} (h : Sh d w0 w p ti tu) (hk : Kp w w') : Sh d w0 w' p ti tu := by
  obtain ⟨g, A, c, gi, go, r1, r2, r3, r4, r5, r6, r7⟩ := h
  exact ⟨g, A, c, gi, go, r1, r2.kp hk, r3, r4, r5.kp hk, r6.kp hk, r7.kp hk⟩
/-- The state of 'Build' behind the first J places. -/
def Bs (d : Dg) (w0 w : World) (p ci co : Value) (J : Nat) : Prop :=
  Sh d w0 w p (tabL d false J) (tabL d true J) ∧ ∃ ga gb, ci = .slice (some ⟨ga, 0, none⟩) (2 * d.crs.length + 1) (2 * d.crs.length + 1) ∧ co = .slice (some ⟨gb, 0, none⟩) (2 * d.crs.length + 1) (2 * d.crs.length + 1) ∧ ga ≠ gb ∧
    OwnI w (w0.heap.size + 1) (.slice (some ⟨ga, 0, none⟩) (2 * d.crs.length + 1) (2 * d.crs.length + 1)) (cntL d false J) ∧ OwnI w (w0.heap.size + 1) (.slice (some ⟨gb, 0, none⟩) (2 * d.crs.length + 1) (2 * d.crs.length + 1)) (cntL d true J)
/-- The same, its blocks told. -/
structure Bq (d : Dg) (b0 g : Nat) (A : Option Addr) (c gi go ga gb : Nat) (w : World) (J : Nat) : Prop where
  sh : Blk w g 109 #[.slice A d.crs.length c, .int .i64 d.loops, .slice (some ⟨gi, 0, none⟩) (2 * d.crs.length + 1) (2 * d.crs.length + 1), .slice (some ⟨go, 0, none⟩) (2 * d.crs.length + 1) (2 * d.crs.length + 1)]
  cr : Ow codCr 49 w b0 (.slice A d.crs.length c) d.crs
  ti : Ow codPl 113 w b0 (.slice (some ⟨gi, 0, none⟩) (2 * d.crs.length + 1) (2 * d.crs.length + 1)) (tabL d false J)
  tu : Ow codPl 113 w b0 (.slice (some ⟨go, 0, none⟩) (2 * d.crs.length + 1) (2 * d.crs.length + 1)) (tabL d true J)
  ci : OwnI w b0 (.slice (some ⟨ga, 0, none⟩) (2 * d.crs.length + 1) (2 * d.crs.length + 1)) (cntL d false J)
  co : OwnI w b0 (.slice (some ⟨gb, 0, none⟩) (2 * d.crs.length + 1) (2 * d.crs.length + 1)) (cntL d true J)
  n1 : gi ≠ go
  n2 : ga ≠ gb
  lt : b0 ≤ g
section
variable {d : Dg} {b0 g c gi go ga gb J : Nat} {A : Option Addr} {w w' : World}
theorem Bq.kp (h : Bq d b0 g A c gi go ga gb w J) (hk : Kp w w') : Bq d b0 g A c gi go ga gb w' J :=
  ⟨h.sh.kp hk, h.cr.kp hk, h.ti.kp hk, h.tu.kp hk, h.ci.kp hk, h.co.kp hk, h.n1, h.n2, h.lt⟩
theorem ownI_ow {w : World} {b : Nat} {v : Value} {xs : List Int} (h : OwnI w b v xs) : Ow codI 3 w b v xs := by
  unfold Ow
  rw [flat_iv]
  exact h
theorem OwnI.kept {w w' : World} {b : Nat} {v : Value} {xs : List Int} {row : Option Nat} (h : OwnI w b v xs) (hg : Gr w w' row) (hne : v.ownBlock = none ∨ v.ownBlock ≠ row) : OwnI w' b v xs := World.ownsRow.kept h hg hne
theorem blk_ne {w : World} {α : Type} {C : Cod α} {E t : TypeId} {b g : Nat} {v : Value} {xs : List α} {cs : Array Value} (h : Ow C E w b v xs) (h' : Blk w g t cs) (hne : E ≠ t) : some g ≠ v.ownBlock := by
  rcases h.ne_blk h' hne with h | h
  · rw [h]; simp
  · exact fun e => h e.symm
theorem Bq.hitIn (h : Bq d b0 g A c gi go ga gb w J) {a : Nat} (ha : a < 2 * d.crs.length + 1) (hj : arcJ d J = a) (he : entryB d (J / 4) (J % 4) = true) :
    Bq d b0 g A c gi go ga gb (((w.setCell ⟨gi, a * 2, none⟩ (.int .i64 ((J / 4 : Nat) : Int))).setCell ⟨gi, a * 2 + 1, none⟩ (.int .i64 ((J % 4 : Nat) : Int))).setCell ⟨ga, a, none⟩ (.int .i64 (Go.Proofs.YtklcecpjgingpaaDoor.gi (cntL d false J) a + 1))) (J + 1) := by
  have ht : tabL d false (J + 1) = (tabL d false J).set a (J / 4, J % 4) := tabL_hit hj (by simp [he])
  have hu : tabL d true (J + 1) = tabL d true J := tabL_miss he
  have hc : cntL d false (J + 1) = (cntL d false J).set a (Go.Proofs.YtklcecpjgingpaaDoor.gi (cntL d false J) a + 1) := cntL_hit hj (by simp [he])
  have ho : cntL d true (J + 1) = cntL d true J := cntL_miss he
  have s1 := h.ti.set2 rfl (i := a) (by rw [tabL_len]; exact ha) (.int .i64 ((J / 4 : Nat) : Int)) (.int .i64 ((J % 4 : Nat) : Int)) (J / 4, J % 4) rfl
  have g1 := gr_set2 (w := w) (g := gi) (i := a * 2) (j := a * 2 + 1) (.int .i64 ((J / 4 : Nat) : Int)) (.int .i64 ((J % 4 : Nat) : Int))
  have c1 := h.ci.kept g1 (ownI_ow h.ci |>.ne_ h.ti (by decide))
  have g2 := gr_set1 (w := (w.setCell ⟨gi, a * 2, none⟩ (.int .i64 ((J / 4 : Nat) : Int))).setCell ⟨gi, a * 2 + 1, none⟩ (.int .i64 ((J % 4 : Nat) : Int))) (g := ga) (i := a) (.int .i64 (Go.Proofs.YtklcecpjgingpaaDoor.gi (cntL d false J) a + 1))
  have k1 := h.sh.gr g1 (blk_ne h.ti h.sh (by decide))
  have q1 := h.cr.kept g1 (h.cr.ne_ h.ti (by decide))
  have u1 := h.tu.kept g1 (.inr (by simpa [Value.ownBlock] using h.n1.symm))
  have o1 := h.co.kept g1 (ownI_ow h.co |>.ne_ h.ti (by decide))
  refine ⟨k1.gr g2 (blk_ne (ownI_ow c1) k1 (by decide)), q1.kept g2 (q1.ne_ (ownI_ow c1) (by decide)), ?_, ?_, ?_, ?_, h.n1, h.n2, h.lt⟩
  · rw [ht]; exact s1.kept g2 (s1.ne_ (ownI_ow c1) (by decide))
  · rw [hu]; exact u1.kept g2 (u1.ne_ (ownI_ow c1) (by decide))
  · rw [hc]; exact c1.set_ a _
  · rw [ho]; exact o1.kept g2 (.inr (by simpa [Value.ownBlock] using h.n2.symm))
theorem Bq.hitOut (h : Bq d b0 g A c gi go ga gb w J) {a : Nat} (ha : a < 2 * d.crs.length + 1) (hj : arcJ d J = a) (he : entryB d (J / 4) (J % 4) = false) :
    Bq d b0 g A c gi go ga gb (((w.setCell ⟨go, a * 2, none⟩ (.int .i64 ((J / 4 : Nat) : Int))).setCell ⟨go, a * 2 + 1, none⟩ (.int .i64 ((J % 4 : Nat) : Int))).setCell ⟨gb, a, none⟩ (.int .i64 (Go.Proofs.YtklcecpjgingpaaDoor.gi (cntL d true J) a + 1))) (J + 1) := by
  have ht : tabL d true (J + 1) = (tabL d true J).set a (J / 4, J % 4) := tabL_hit hj (by simp [he])
  have hu : tabL d false (J + 1) = tabL d false J := tabL_miss he
  have hc : cntL d true (J + 1) = (cntL d true J).set a (Go.Proofs.YtklcecpjgingpaaDoor.gi (cntL d true J) a + 1) := cntL_hit hj (by simp [he])
  have ho : cntL d false (J + 1) = cntL d false J := cntL_miss he
  have s1 := h.tu.set2 rfl (i := a) (by rw [tabL_len]; exact ha) (.int .i64 ((J / 4 : Nat) : Int)) (.int .i64 ((J % 4 : Nat) : Int)) (J / 4, J % 4) rfl
  have g1 := gr_set2 (w := w) (g := go) (i := a * 2) (j := a * 2 + 1) (.int .i64 ((J / 4 : Nat) : Int)) (.int .i64 ((J % 4 : Nat) : Int))
  have c1 := h.co.kept g1 (ownI_ow h.co |>.ne_ h.tu (by decide))
  have g2 := gr_set1 (w := (w.setCell ⟨go, a * 2, none⟩ (.int .i64 ((J / 4 : Nat) : Int))).setCell ⟨go, a * 2 + 1, none⟩ (.int .i64 ((J % 4 : Nat) : Int))) (g := gb) (i := a) (.int .i64 (Go.Proofs.YtklcecpjgingpaaDoor.gi (cntL d true J) a + 1))
  have k1 := h.sh.gr g1 (blk_ne h.tu h.sh (by decide))
  have q1 := h.cr.kept g1 (h.cr.ne_ h.tu (by decide))
  have u1 := h.ti.kept g1 (.inr (by simpa [Value.ownBlock] using h.n1))
  have o1 := h.ci.kept g1 (ownI_ow h.ci |>.ne_ h.tu (by decide))
  refine ⟨k1.gr g2 (blk_ne (ownI_ow c1) k1 (by decide)), q1.kept g2 (q1.ne_ (ownI_ow c1) (by decide)), ?_, ?_, ?_, ?_, h.n1, h.n2, h.lt⟩
  · rw [hu]; exact u1.kept g2 (u1.ne_ (ownI_ow c1) (by decide))
  · rw [ht]; exact s1.kept g2 (s1.ne_ (ownI_ow c1) (by decide))
  · rw [ho]; exact o1.kept g2 (.inr (by simpa [Value.ownBlock] using h.n2))
  · rw [hc]; exact c1.set_ a _
theorem Bq.inAt (h : Bq d b0 g A c gi go ga gb w J) {a : Nat} (ha : a < 2 * d.crs.length + 1) : ∃ x y X : Int, w.cell? ⟨gi, a * 2, none⟩ = some (.int .i64 x) ∧ w.cell? ⟨gi, a * 2 + 1, none⟩ = some (.int .i64 y) ∧ w.cell? ⟨ga, a, none⟩ = some (.int .i64 X) ∧
    w.frozen? ⟨gi, a * 2, none⟩ = false ∧ w.frozen? ⟨gi, a * 2 + 1, none⟩ = false ∧ w.frozen? ⟨ga, a, none⟩ = false ∧ gi ≠ ga ∧ ga ≠ gi ∧ Hid (Go.Proofs.YtklcecpjgingpaaDoor.gi (cntL d false J) a = X) ∧ 0 ≤ X ∧ X ≤ J := by
  have hl : a < (tabL d false J).length := by rw [tabL_len]; exact ha
  have hne : gi ≠ ga := by
    rcases h.ti.ne_ (ownI_ow h.ci) (by decide) with h | h
    · simp [Value.ownBlock] at h
    · simpa [Value.ownBlock] using h
  have hx := cntP_le d a false J
  exact ⟨_, _, _, h.ti.cell hl (j := 0) (by decide) rfl, h.ti.cell hl (j := 1) (by decide) rfl, h.ci.cell (by rw [cntL_len]; exact ha), h.ti.free _, h.ti.free _, h.ci.free _, hne, hne.symm, rfl,
    by rw [cntL_get ha]; omega, by rw [cntL_get ha]; omega⟩
theorem Bq.outAt (h : Bq d b0 g A c gi go ga gb w J) {a : Nat} (ha : a < 2 * d.crs.length + 1) : ∃ x y X : Int, w.cell? ⟨go, a * 2, none⟩ = some (.int .i64 x) ∧ w.cell? ⟨go, a * 2 + 1, none⟩ = some (.int .i64 y) ∧ w.cell? ⟨gb, a, none⟩ = some (.int .i64 X) ∧
    w.frozen? ⟨go, a * 2, none⟩ = false ∧ w.frozen? ⟨go, a * 2 + 1, none⟩ = false ∧ w.frozen? ⟨gb, a, none⟩ = false ∧ go ≠ gb ∧ gb ≠ go ∧ Hid (Go.Proofs.YtklcecpjgingpaaDoor.gi (cntL d true J) a = X) ∧ 0 ≤ X ∧ X ≤ J := by
  have hl : a < (tabL d true J).length := by rw [tabL_len]; exact ha
  have hne : go ≠ gb := by
    rcases h.tu.ne_ (ownI_ow h.co) (by decide) with h | h
    · simp [Value.ownBlock] at h
    · simpa [Value.ownBlock] using h
  have hx := cntP_le d a true J
  exact ⟨_, _, _, h.tu.cell hl (j := 0) (by decide) rfl, h.tu.cell hl (j := 1) (by decide) rfl, h.co.cell (by rw [cntL_len]; exact ha), h.tu.free _, h.tu.free _, h.co.free _, hne, hne.symm, rfl,
    by rw [cntL_get ha]; omega, by rw [cntL_get ha]; omega⟩
end
/-- v is a pointer to the diagram d at work, in blocks from b0 on. -/
def IsSh (w : World) (b0 : Nat) (v : Value) (d : Dg) : Prop :=
  ∃ g A c gi go, v = .pointer (some ⟨g, 0, none⟩) ∧ b0 ≤ g ∧ gi ≠ go ∧
    Blk w g 109 #[.slice A d.crs.length c, .int .i64 d.loops, .slice (some ⟨gi, 0, none⟩) (2 * d.crs.length + 1) (2 * d.crs.length + 1), .slice (some ⟨go, 0, none⟩) (2 * d.crs.length + 1) (2 * d.crs.length + 1)] ∧
    Ow codCr 49 w b0 (.slice A d.crs.length c) d.crs ∧
    Ow codPl 113 w b0 (.slice (some ⟨gi, 0, none⟩) (2 * d.crs.length + 1) (2 * d.crs.length + 1)) (tabL d false (4 * d.crs.length)) ∧
    Ow codPl 113 w b0 (.slice (some ⟨go, 0, none⟩) (2 * d.crs.length + 1) (2 * d.crs.length + 1)) (tabL d true (4 * d.crs.length))
theorem Bq.isSh {d : Dg} {b0 g c gi go ga gb : Nat} {A : Option Addr} {w : World} (h : Bq d b0 g A c gi go ga gb w (4 * d.crs.length)) : IsSh w b0 (.pointer (some ⟨g, 0, none⟩)) d :=
  ⟨g, A, c, gi, go, rfl, h.lt, h.n1, h.sh, h.cr, h.ti, h.tu⟩
def NoShPost (w : World) (e : Ending) (w' : World) : Prop := e = .returned (.tuple #[.pointer none, .bool false]) ∧ Kp w w'
def ShPost (d : Dg) (w : World) (e : Ending) (w' : World) : Prop := ∃ v, e = .returned (.tuple #[v, .bool true]) ∧ Kp w w' ∧ IsSh w' w.heap.size v d
def BuildPost (b : Bool) (d : Dg) (w : World) (e : Ending) (w' : World) : Prop := (b = false ∧ NoShPost w e w') ∨ (b = true ∧ ShPost d w e w')
set_option maxRecDepth 100000 in
set_option maxHeartbeats 4000000 in
theorem build_any (v : Value) (d : Dg) (w : World) (hd : IsDg w w.heap.size v d) (hn : d.crs.length ≤ 16) :
    Calls Tryd.prog 53 #[v] w (BuildPost (arcsB d) d w) := by
  obtain ⟨A, cap, rfl, hcap, hr⟩ := hd
  have hm := fun W => make_of slPl (2 * d.crs.length + 1) (2 * (d.crs.length : Int) + 1) (by omega) (by omega) W
  have hm2 := fun W => make_of slInt (2 * d.crs.length + 1) (2 * (d.crs.length : Int) + 1) (by omega) (by omega) W
  generalize hZ : madeCells (Value.agg #[.int .i64 0, .int .i64 0]).cells ((2 * d.crs.length + 1) * 2) = Z at *
  generalize hY : madeCells (Value.int .i64 0).cells ((2 * d.crs.length + 1) * 1) = Y at *
  have HZ := Lib.hid hZ
  have HY := Lib.hid hY
  clear hZ hY
  go_enter Tryd.func53, Tryd.ntmps53
  have W0 : IntKind.i64.wrap (2 * (d.crs.length : Int)) = 2 * (d.crs.length : Int) := IntWalk.i64_in _ (by omega)
  have W1 : IntKind.i64.wrap (2 * (d.crs.length : Int) + 1) = 2 * (d.crs.length : Int) + 1 := IntWalk.i64_in _ (by omega)
  have E0 : Hid ((w.alloc (.cells #[.slice A d.crs.length cap, .int .i64 d.loops] 30)).cell? ⟨w.heap.size, 0, none⟩ = some (.slice A d.crs.length cap)) := (Blk.new _ _ _).cell 0 rfl
  have E1 : Hid ((w.alloc (.cells #[.slice A d.crs.length cap, .int .i64 d.loops] 30)).cell? ⟨w.heap.size, 1, none⟩ = some (.int .i64 d.loops)) := (Blk.new _ _ _).cell 1 rfl
  go_upto_region 2 with (fail)
  go_cut [5] (fun p wx => Kp (w.alloc (.cells #[.slice A d.crs.length cap, .int .i64 d.loops] 30)) wx ∧ Sh d w wx p (tabL d false 0) (tabL d true 0))
  case first =>
    go_region_held3 (fun W => W.cell? ⟨w.heap.size, 0, none⟩ = some (.slice A d.crs.length cap) ∧ W.cell? ⟨w.heap.size, 1, none⟩ = some (.int .i64 d.loops)) (go_keep) (first
      | (go_at_call 70; refine (cloneCrs A cap d.crs _ (hr.kp (by repeat (with_reducible (first | exact Kp.refl _ | refine Kp.alloc ?_ _ | refine Kp.drew ?_))))).mono ?_; rintro e w1 ⟨A1, c1, rfl, ho1, hk1⟩; have hq : Kp (w.alloc (.cells #[.slice A d.crs.length cap, .int .i64 d.loops] 30)) w1 := Kp.trans (by repeat (with_reducible (first | exact Kp.refl _ | refine Kp.alloc ?_ _ | refine Kp.drew ?_))) hk1; have q0 := hq.c E0.out; have q1 := hq.c E1.out; obtain ⟨l0, l1, l2, l3, l4⟩ := lts hq.alt))
    all_goals
      have lk := hk1.size
      simp at lk
      go_wp2_with fail
      go_meet
      refine ⟨?_, _, A1, c1, _, _, rfl, Blk.new' _ _ _ (by simp), ?_, ?_, ?_, ?_, ?_⟩
      · repeat (with_reducible (first | exact Kp.refl _ | refine Kp.alloc ?_ _ | refine Kp.drew ?_ | refine Kp.trans ?_ hk1))
      · omega
      · omega
      · refine (Ow.base (ho1.kp ?_) (by simp)); repeat (with_reducible (first | exact Kp.refl _ | refine Kp.alloc ?_ _ | refine Kp.drew ?_))
      · rw [tabL_zero]
        refine Ow.made (C := codPl) (z := .agg #[.int .i64 0, .int .i64 0]) rfl ?_ (by first | omega | (simp; done) | (simp; omega)) (by unfold maxLen; omega)
        change Blk _ _ _ (madeCells (Value.agg #[.int .i64 0, .int .i64 0]).cells ((2 * d.crs.length + 1) * 2))
        rw [HZ.out]
        repeat (first | ((with_reducible refine Blk.new' _ _ _ ?_); (simp; done)) | with_reducible refine Blk.alloc ?_ _ | with_reducible refine Blk.drew ?_ | with_reducible refine Blk.kp ?_ hk1)
      · rw [tabL_zero]
        refine Ow.made (C := codPl) (z := .agg #[.int .i64 0, .int .i64 0]) rfl ?_ (by first | omega | (simp; done) | (simp; omega)) (by unfold maxLen; omega)
        change Blk _ _ _ (madeCells (Value.agg #[.int .i64 0, .int .i64 0]).cells ((2 * d.crs.length + 1) * 2))
        rw [HZ.out]
        repeat (first | ((with_reducible refine Blk.new' _ _ _ ?_); (simp; done)) | with_reducible refine Blk.alloc ?_ _ | with_reducible refine Blk.drew ?_ | with_reducible refine Blk.kp ?_ hk1)
  case rest =>
    obtain ⟨hkc, hS⟩ := hcut
    have hr' := Lib.hid hr
    clear hm hr E0 E1
    go_upto_region 3 with (fail)
    go_cut [6, 7] (fun ci co wx => Kp (w.alloc (.cells #[.slice A d.crs.length cap, .int .i64 d.loops] 30)) wx ∧ Bs d w wx u5 ci co 0)
    case first =>
      go_region
      all_goals
        have lk := hkc.size
        simp at lk
        go_wp2_with fail
        go_meet
        refine ⟨?_, ?_, _, _, rfl, rfl, ?_, ?_, ?_⟩
        · repeat (with_reducible (first | exact Kp.refl _ | refine Kp.alloc ?_ _ | refine Kp.drew ?_ | refine Kp.trans ?_ hkc))
        · refine hS.kp ?_
          repeat (with_reducible (first | exact Kp.refl _ | refine Kp.alloc ?_ _ | refine Kp.drew ?_))
        · omega
        · rw [cntL_zero]
          refine OwnI.of_ow (Ow.made (C := codI) (z := .int .i64 0) rfl ?_ (by first | omega | (simp; done) | (simp; omega)) (by unfold maxLen; omega))
          change Blk _ _ _ (madeCells (Value.int .i64 0).cells ((2 * d.crs.length + 1) * 1))
          rw [HY.out]
          repeat (first | ((with_reducible refine Blk.new' _ _ _ ?_); (simp; done)) | with_reducible refine Blk.alloc ?_ _ | with_reducible refine Blk.drew ?_)
        · rw [cntL_zero]
          refine OwnI.of_ow (Ow.made (C := codI) (z := .int .i64 0) rfl ?_ (by first | omega | (simp; done) | (simp; omega)) (by unfold maxLen; omega))
          change Blk _ _ _ (madeCells (Value.int .i64 0).cells ((2 * d.crs.length + 1) * 1))
          rw [HY.out]
          repeat (first | ((with_reducible refine Blk.new' _ _ _ ?_); (simp; done)) | with_reducible refine Blk.alloc ?_ _ | with_reducible refine Blk.drew ?_)
    case rest =>
      clear hkc hS hm2 W0 W1
      obtain ⟨hkc, ⟨g, A1, c1, gi, go, rfl, hb, n1, hl, o1, o2, o3⟩, ga, gb, rfl, rfl, n2, o4, o5⟩ := hcut
      have hQ : Bq d (w.heap.size + 1) g A1 c1 gi go ga gb wc 0 := ⟨hb, o1, o2, o3, o4, o5, n1, n2, by omega⟩
      clear hb n1 n2 o1 o2 o3 o4 o5
      have hkx : Kp w wc := hkc.al
      have hx := (Blk.new w 30 #[.slice A d.crs.length cap, .int .i64 d.loops]).kp hkc
      obtain ⟨e0, e1, e2, e3⟩ := hx.two
      clear HZ HY
      go_wp2_with fail
      go_loopw [43] (fun i wr => ∃ n : Nat, n ≤ d.crs.length ∧ i = .int .i64 n ∧ Kp w wr ∧ Bq d (w.heap.size + 1) g A1 c1 gi go ga gb wr (4 * n) ∧ Hid (∀ j, j < 4 * n → 1 ≤ arcJ d j ∧ arcJ d j ≤ 2 * (d.crs.length : Int))) (fun i _ => d.crs.length - (intOf i).toNat)
      case atStart => exact ⟨0, Nat.zero_le _, rfl, hkx, hQ, fun j hj => by omega⟩
      case round =>
        clear hQ hkx e0 e1 e2 e3 hx hkc
        obtain ⟨n, hn', rfl, hk, hQ, hrg⟩ := hrel
        by_cases hlt : n < d.crs.length
        · obtain ⟨b, off, rfl, hb1, k0, k1, k2, k3, k4⟩ := crAt (hr'.out.kp hk) hlt
          obtain ⟨wo, rfl⟩ : ∃ wo : World, wo = wr := ⟨_, rfl⟩
          obtain ⟨l0, l1, l2, l3, l4⟩ := lts hb1
          have hx := Blk.new wo 49 #[.int .i64 (Go.Proofs.YtklcecpjgingpaaDoor.ga d.crs n).a, .int .i64 (Go.Proofs.YtklcecpjgingpaaDoor.ga d.crs n).b, .int .i64 (Go.Proofs.YtklcecpjgingpaaDoor.ga d.crs n).c, .int .i64 (Go.Proofs.YtklcecpjgingpaaDoor.ga d.crs n).d, .bool (Go.Proofs.YtklcecpjgingpaaDoor.ga d.crs n).plus]
          have hx0 : ∀ k, k < 4 → arcJ d (4 * n + k) = crArc (Go.Proofs.YtklcecpjgingpaaDoor.ga d.crs n) k ∧ entryB d ((4 * n + k) / 4) ((4 * n + k) % 4) = crIn (Go.Proofs.YtklcecpjgingpaaDoor.ga d.crs n) k ∧ (4 * n + k) / 4 = n ∧ (4 * n + k) % 4 = k := fun k hk => by
            have h1 : (4 * n + k) / 4 = n := by omega
            have h2 : (4 * n + k) % 4 = k := by omega
            unfold arcJ arcAt entryB
            rw [h1, h2]
            exact ⟨rfl, rfl, rfl, rfl⟩
          have HX := Lib.hid hx0
          clear hx0
          generalize Go.Proofs.YtklcecpjgingpaaDoor.ga d.crs n = x at *
          go_wp2_with fail
          go_loopw [48] (fun i wr => ∃ m : Nat, m ≤ 4 ∧ i = .int .i64 m ∧ Kp w wr ∧ Bq d (w.heap.size + 1) g A1 c1 gi go ga gb wr (4 * n + m) ∧ Hid (∀ j, j < 4 * n + m → 1 ≤ arcJ d j ∧ arcJ d j ≤ 2 * (d.crs.length : Int)) ∧
            Blk wr wo.heap.size 49 #[.int .i64 x.a, .int .i64 x.b, .int .i64 x.c, .int .i64 x.d, .bool x.plus]) (fun i _ => 4 - (intOf i).toNat)
          case atStart => exact ⟨0, Nat.zero_le _, rfl, hk.alloc _, hQ.kp ((Kp.refl _).alloc _), hrg.out, hx⟩
          case round =>
            clear hQ hk hrg hx k0 k1 k2 k3 k4 l0 l1 l2 l3 l4 hb1
            obtain ⟨m, hm, rfl, hk, hQ, hrg, hx⟩ := hrel
            by_cases hm4 : m < 4
            · obtain ⟨k0, k1, k2, k3, k4⟩ := hx.cr
              obtain ⟨l0, l1, l2, l3, l4⟩ := lts hx.lt
              obtain ⟨hj, hen, hq1, hq2⟩ := HX.out m hm4
              by_cases hlo : 1 ≤ crArc x m
              · by_cases hhi : crArc x m ≤ 2 * (d.crs.length : Int)
                · obtain ⟨a, ha⟩ := Int.eq_ofNat_of_zero_le (show 0 ≤ crArc x m by omega)
                  rw [ha] at hlo hhi hj
                  have ha' := Lib.hid ha
                  clear ha
                  cases he : crIn x m
                  · rw [he] at hen
                    have he' := Lib.hid he
                    have hN := fun w' (h : Bq d (w.heap.size + 1) g A1 c1 gi go ga gb w' (4 * n + m)) => h.hitOut (a := a) (by omega) hj hen
                    rw [hq1, hq2] at hN
                    have HN := Lib.hid hN
                    have hj' := Lib.hid hj
                    clear hN hj hen hq1 hq2 he
                    go_wp2_with fail
                    refine (arc_any x m _ hm4).mono ?_; rintro e w1 ⟨rfl, hk1⟩
                    rw [ha'.out]
                    obtain ⟨cc, cf⟩ := hk1.cf (n := wr.heap.size) rfl
                    go_wp2_with fail
                    refine (comes_any x m _ hm4).mono ?_; rintro e w2 ⟨rfl, hk2⟩
                    rw [he'.out]
                    clear cc cf
                    have hQ2 := (hQ.kp hk1).kp hk2
                    have hx2 := (hx.kp hk1).kp hk2
                    have b1 : wo.heap.size ≠ go := fun e => blk_ne hQ2.tu hx2 (by decide) (by rw [e]; rfl)
                    have b2 : wo.heap.size ≠ gb := fun e => blk_ne (ownI_ow hQ2.co) hx2 (by decide) (by rw [e]; rfl)
                    have b3 := (hQ2.tu.lt go rfl).1
                    have b4 := (hQ2.co.lt gb rfl).1
                    obtain ⟨s0, s1, s2, s3⟩ := hQ2.sh.four
                    obtain ⟨x0, y0, X, t0, t1, t2, t3, t4, t5, t6, t7, hX, X0, X1⟩ := hQ2.outAt (a := a) (by omega)
                    go_wp2_with fail
                    go_roundw
                    case rel =>
                      have hq := HN.out w2 hQ2
                      rw [hX.out] at hq
                      exact ⟨m + 1, by omega, by go_num, ((((hk.trans hk1).trans hk2).setCell (p := ⟨go, a * 2, none⟩) (by simp; omega) _).setCell (p := ⟨go, a * 2 + 1, none⟩) (by simp; omega) _).setCell (p := ⟨gb, a, none⟩) (by simp; omega) _, hq,
                        fun j h => by
                          rcases Nat.lt_or_ge j (4 * n + m) with h1 | h1
                          · exact hrg.out j h1
                          · obtain rfl : j = 4 * n + m := by omega
                            rw [hj'.out]; omega,
                        ((hx2.far (p := ⟨go, a * 2, none⟩) b1 _).far (p := ⟨go, a * 2 + 1, none⟩) b1 _).far (p := ⟨gb, a, none⟩) b2 _⟩
                    case measure => simp [intOf] <;> omega
                  · rw [he] at hen
                    have he' := Lib.hid he
                    have hN := fun w' (h : Bq d (w.heap.size + 1) g A1 c1 gi go ga gb w' (4 * n + m)) => h.hitIn (a := a) (by omega) hj hen
                    rw [hq1, hq2] at hN
                    have HN := Lib.hid hN
                    have hj' := Lib.hid hj
                    clear hN hj hen hq1 hq2 he
                    go_wp2_with fail
                    refine (arc_any x m _ hm4).mono ?_; rintro e w1 ⟨rfl, hk1⟩
                    rw [ha'.out]
                    obtain ⟨cc, cf⟩ := hk1.cf (n := wr.heap.size) rfl
                    go_wp2_with fail
                    refine (comes_any x m _ hm4).mono ?_; rintro e w2 ⟨rfl, hk2⟩
                    rw [he'.out]
                    clear cc cf
                    have hQ2 := (hQ.kp hk1).kp hk2
                    have hx2 := (hx.kp hk1).kp hk2
                    have b1 : wo.heap.size ≠ gi := fun e => blk_ne hQ2.ti hx2 (by decide) (by rw [e]; rfl)
                    have b2 : wo.heap.size ≠ ga := fun e => blk_ne (ownI_ow hQ2.ci) hx2 (by decide) (by rw [e]; rfl)
                    have b3 := (hQ2.ti.lt gi rfl).1
                    have b4 := (hQ2.ci.lt ga rfl).1
                    obtain ⟨s0, s1, s2, s3⟩ := hQ2.sh.four
                    obtain ⟨x0, y0, X, t0, t1, t2, t3, t4, t5, t6, t7, hX, X0, X1⟩ := hQ2.inAt (a := a) (by omega)
                    go_wp2_with fail
                    go_roundw
                    case rel =>
                      have hq := HN.out w2 hQ2
                      rw [hX.out] at hq
                      exact ⟨m + 1, by omega, by go_num, ((((hk.trans hk1).trans hk2).setCell (p := ⟨gi, a * 2, none⟩) (by simp; omega) _).setCell (p := ⟨gi, a * 2 + 1, none⟩) (by simp; omega) _).setCell (p := ⟨ga, a, none⟩) (by simp; omega) _, hq,
                        fun j h => by
                          rcases Nat.lt_or_ge j (4 * n + m) with h1 | h1
                          · exact hrg.out j h1
                          · obtain rfl : j = 4 * n + m := by omega
                            rw [hj'.out]; omega,
                        ((hx2.far (p := ⟨gi, a * 2, none⟩) b1 _).far (p := ⟨gi, a * 2 + 1, none⟩) b1 _).far (p := ⟨ga, a, none⟩) b2 _⟩
                    case measure => simp [intOf] <;> omega
                · have hno := Lib.hid (arcs_not (d := d) (j := 4 * n + m) (by omega) (by rw [hj]; omega))
                  clear hj hen hq1 hq2
                  go_wp2_with fail
                  refine (arc_any x m _ hm4).mono ?_; rintro e w1 ⟨rfl, hk1⟩
                  go_wp2_with fail
                  go_ret2
                  exact .inl ⟨hno.out, rfl, hk.trans hk1⟩
              · have hno := Lib.hid (arcs_not (d := d) (j := 4 * n + m) (by omega) (by rw [hj]; omega))
                clear hj hen hq1 hq2
                go_wp2_with fail
                refine (arc_any x m _ hm4).mono ?_; rintro e w1 ⟨rfl, hk1⟩
                go_wp2_with fail
                go_ret2
                exact .inl ⟨hno.out, rfl, hk.trans hk1⟩
            · obtain rfl : m = 4 := by omega
              go_wp2_with fail
              go_roundw
              case rel => exact ⟨n + 1, by omega, by go_num, hk, hQ, hrg.out⟩
              case measure => simp [intOf] <;> omega
        · obtain rfl : n = d.crs.length := by omega
          go_wp2_with fail
          obtain ⟨wo, rfl⟩ : ∃ wo : World, wo = wr := ⟨_, rfl⟩
          go_loop [12] (fun i => ∃ a : Nat, 1 ≤ a ∧ a ≤ 2 * d.crs.length + 1 ∧ i = .int .i64 a ∧ Hid (∀ a' : Nat, 1 ≤ a' → a' < a → arcOk d a' = true)) (fun i => 2 * d.crs.length + 1 - (intOf i).toNat)
          case atStart => exact ⟨1, by omega, by omega, rfl, fun a h1 h2 => by omega⟩
          case round =>
            obtain ⟨a, ha0, ha1, rfl, hok⟩ := hrel
            by_cases hlt2 : a ≤ 2 * d.crs.length
            · have ca := hQ.ci.cell (i := a) (by rw [cntL_len]; omega)
              have cb := hQ.co.cell (i := a) (by rw [cntL_len]; omega)
              rw [cntL_get (by omega)] at ca cb
              have hao : arcOk d a = (cntP d a false (4 * d.crs.length) == 1 && cntP d a true (4 * d.crs.length) == 1) := rfl
              generalize cntP d a false (4 * d.crs.length) = X at *
              generalize cntP d a true (4 * d.crs.length) = Y at *
              by_cases hX : X = 1
              · subst hX
                by_cases hY : Y = 1
                · subst hY
                  have hao' : Hid (arcOk d a = true) := hao
                  clear hao
                  go_wp2_with fail
                  go_round
                  case rel => exact ⟨a + 1, by omega, by omega, by go_num, fun a' h1 h2 => by
                    rcases Nat.lt_or_ge a' a with h | h
                    · exact hok.out a' h1 h
                    · obtain rfl : a' = a := by omega
                      exact hao'.out⟩
                  case measure => simp [intOf] <;> omega
                · have hno := Lib.hid (arcsB_no ha0 hlt2 (by rw [hao]; simp [hY]))
                  have t1 : (((Y : Int) != 1) : Bool) = true := by simp only [bne_iff_ne, ne_eq]; omega
                  clear hao hY
                  go_wp2_with fail
                  go_ret2
                  exact .inl ⟨hno.out, rfl, hk⟩
              · have hno := Lib.hid (arcsB_no ha0 hlt2 (by rw [hao]; simp [hX]))
                have t1 : (((X : Int) != 1) : Bool) = true := by simp only [bne_iff_ne, ne_eq]; omega
                clear hao hX
                go_wp2_with fail
                go_ret2
                exact .inl ⟨hno.out, rfl, hk⟩
            · have hyes := Lib.hid (arcsB_yes (d := d) fun a' h1 h2 => hok.out a' h1 (by omega))
              go_wp2_with fail
              go_ret2
              obtain ⟨g', A', c', gi', go', r1, r2, r3⟩ := hQ.isSh
              exact .inr ⟨hyes.out, _, rfl, hk, g', A', c', gi', go', r1, by omega, r3.1, r3.2.1, r3.2.2.1.base (by omega), r3.2.2.2.1.base (by omega), r3.2.2.2.2.base (by omega)⟩
theorem new_size {n : Nat} {loops : Int} (h : ¬ (n ≤ 16 ∧ 0 ≤ loops ∧ loops ≤ 16 ∧ ¬ (n = 0 ∧ loops = 0))) : 16 < n ∨ (n ≤ 16 ∧ loops < 0) ∨ (n ≤ 16 ∧ 16 < loops) ∨ (n = 0 ∧ loops = 0) := by omega
set_option maxRecDepth 100000 in
set_option maxHeartbeats 2000000 in
theorem new_any (v : Value) (d : Dg) (w : World) (hd : IsDg w w.heap.size v d) : Calls Tryd.prog 39 #[v] w (BuildPost (mayB d) d w) := by
  obtain ⟨A, cap, rfl, hcap, hr⟩ := hd
  have hrm : d.crs.length * 40 ≤ 140737488355328 := hr.room
  by_cases h : d.crs.length ≤ 16 ∧ 0 ≤ d.loops ∧ d.loops ≤ 16 ∧ ¬ (d.crs.length = 0 ∧ d.loops = 0)
  · have hm : mayB d = arcsB d := by rw [mayB_arcs, decide_eq_true h, Bool.true_and]
    rw [hm]
    clear hm
    obtain ⟨h1, h2, h3, h4⟩ := h
    have hb := Lib.hid fun w' (hk : Kp w w') => build_any (.agg #[.slice A d.crs.length cap, .int .i64 d.loops]) d w' ⟨A, cap, rfl, hcap, hr.kp hk⟩ h1
    have t1 : ((((d.crs.length : Int) + d.loops) == 0) : Bool) = false := by rw [beq_eq_false_iff_ne]; omega
    clear h4 hr
    generalize arcsB d = b at *
    go_enter Tryd.func39, Tryd.ntmps39
    go_wp2_with fail
    refine (hb.out _ ((Kp.refl _).alloc _)).mono ?_
    rintro e w1 (⟨hb0, rfl, hk⟩ | ⟨hb1, v, rfl, hk, hs⟩)
    · have hb0' := Lib.hid hb0
      clear hb0
      go_wp2_with fail
      go_ret2
      exact .inl ⟨hb0'.out, rfl, hk.al⟩
    · have hb1' := Lib.hid hb1
      clear hb1
      go_wp2_with fail
      go_ret2
      obtain ⟨g', A', c', gi', go', r1, r2, r3⟩ := hs
      simp at r2
      exact .inr ⟨hb1'.out, v, rfl, hk.al, g', A', c', gi', go', r1, by omega, r3.1, r3.2.1, r3.2.2.1.base (by simp), r3.2.2.2.1.base (by simp), r3.2.2.2.2.base (by simp)⟩
  · rw [mayB_size h]
    have hc := new_size h
    clear h hr
    obtain ⟨cs, loops⟩ := d
    dsimp only at *
    generalize cs.length = n at *
    rcases hc with hc | ⟨hc, hc'⟩ | ⟨hc, hc'⟩ | ⟨rfl, rfl⟩
    all_goals
      go_enter Tryd.func39, Tryd.ntmps39
      go_wp2_with fail
      go_ret2
      exact .inl ⟨rfl, rfl, (Kp.refl _).alloc _⟩
end Go.Proofs.YtklcecpjgingpaaDoor
namespace Go.Proofs.YtklcecpjgingpaaDoor
open Go.ChangeShapes Go.WideShapes Go.ChangeAt Go.RowKit
def cdPl : Cd (Nat × Nat) := ⟨plF, 2, 16, 113, (0, 0), fun _ => rfl, by
  intro x u hu
  simp [plF] at hu
  rcases hu with rfl | rfl <;> rfl⟩
section
variable {w w' : World} {M : Hp} {X : Fr} {H H' : List Rs}
theorem Kp.like (h : Kp w w') : Like w w' := ⟨h.os, h.tape, h.output, h.size⟩
theorem SH.old (S : SH w M X H) (h : Kp w w') : SH w' M X H := S.kp h.like fun b hb => h.block b hb
theorem SH.adopt {r : Rs} (S : SH w M X []) (S' : SH w' M X H') (hr : r.ok (hp w')) (hb : ∀ b ∈ r.bl, w.heap.size ≤ b ∧ b < w'.heap.size) (hdis : ∀ s ∈ H', ∀ b ∈ r.bl, b ∉ s.bl) : SH w' M X (r :: H') := by
  have fresh : ∀ b, w.heap.size ≤ b → M b = none ∧ X.h b = none := fun b hge => by
    constructor
    · cases hm : M b with
      | none => rfl
      | some o => have := hp_lt (S.m b o hm); omega
    · cases hm : X.h b with
      | none => rfl
      | some o => have := hp_lt (S.x b o hm); omega
  refine ⟨S'.m, S'.x, S'.mx, fun s hs => ?_, fun s hs b hbs => ?_, fun j k s t hjk hs ht b hbs => ?_, S'.like⟩
  · rcases List.mem_cons.1 hs with rfl | hs
    · exact hr
    · exact S'.ok s hs
  · rcases List.mem_cons.1 hs with rfl | hs
    · exact ⟨(hb b hbs).2, fresh b (hb b hbs).1⟩
    · exact S'.bl s hs b hbs
  · cases j with
    | zero =>
      cases k with
      | zero => exact absurd rfl hjk
      | succ k =>
        simp only [List.getElem?_cons_zero, Option.some.injEq, List.getElem?_cons_succ] at hs ht
        subst hs
        exact hdis t (List.mem_of_getElem? ht) b hbs
    | succ j =>
      cases k with
      | zero =>
        simp only [List.getElem?_cons_zero, Option.some.injEq, List.getElem?_cons_succ] at hs ht
        subst ht
        exact fun hbt => hdis s (List.mem_of_getElem? hs) b hbt hbs
      | succ k =>
        simp only [List.getElem?_cons_succ] at hs ht
        exact S'.ap j k s t (by omega) hs ht b hbs
/-- A diagram, as the old texts read it. -/
theorem RdA.dg {N : Hp} {A : Option Addr} {c : Nat} {d : Dg} (h : RdA cdCr N A c d.crs) (hN : N.le (hp w)) : IsDg w w.heap.size (.agg [.slice A d.crs.length c, .int .i64 d.loops].toArray) d := by
  refine ⟨A, c, rfl, h.1, ⟨flat_len codCr.hf _, h.2.1, fun h0 => ?_⟩⟩
  have hlen : 0 < d.crs.length := by simpa using h0
  obtain ⟨e, cs, T, fz, hc, _⟩ := h.2.2 hlen
  refine ⟨adB A, adO A, e, hp_lt (hN _ _ hc), fun j u hu => ?_⟩
  exact h.cells hN j u hu
theorem cq_bool {f : FuncId} {vs : List Value} {b : Bool} (S : SH w M X []) (h : Calls Tryd.prog f vs.toArray w (BoPost b w)) : Cq Tryd.prog f vs w M X (fun u => u = .bool b) :=
  h.mono fun e w' ⟨he, hk⟩ => ⟨_, he, S.old hk, rfl⟩
theorem DiagramMay_q (d : Dg) {A : Option Addr} {c : Nat} (h : RdA cdCr (M.un X.h) A c d.crs) (S : SH w M X []) : Cq Tryd.prog 25 [.agg [.slice A d.crs.length c, .int .i64 d.loops].toArray] w M X (fun u => u = .bool (mayB d)) :=
  cq_bool S (diagramMay_any _ d w (h.dg S.um))
end
def ShV (d : Dg) (vi vo : Value) : Prop := ∃ gi go, vi = .slice (some ⟨gi, 0, none⟩) (2 * d.crs.length + 1) (2 * d.crs.length + 1) ∧ vo = .slice (some ⟨go, 0, none⟩) (2 * d.crs.length + 1) (2 * d.crs.length + 1) ∧ gi ≠ go
def NewR (d : Dg) (v : Value) (N : List Rs) : Prop :=
  (mayB d = false ∧ v = .tuple [.pointer none, .bool false].toArray ∧ N = []) ∨
  (mayB d = true ∧ ∃ g vc vi vo, v = .tuple [.pointer (some ⟨g, 0, none⟩), .bool true].toArray ∧
    N = [Rs.box g 109 [vc, .int .i64 d.loops, vi, vo], Rs.row cdCr vc d.crs, Rs.row cdPl vi (tabL d false (4 * d.crs.length)), Rs.row cdPl vo (tabL d true (4 * d.crs.length))] ∧ ShV d vi vo)
theorem bl_row {α : Type} {C : Cd α} {v : Value} {xs : List α} {b : Nat} (h : b ∈ (Rs.row C v xs).bl) : v.ownBlock = some b := by simpa [Rs.row] using h
theorem New_o {w : World} {M : Hp} {X : Fr} (d : Dg) {A : Option Addr} {c : Nat} (h : RdA cdCr (M.un X.h) A c d.crs) (S : SH w M X []) : Co Tryd.prog 39 [.agg [.slice A d.crs.length c, .int .i64 d.loops].toArray] w M X (NewR d) := by
  refine (new_any _ d w (h.dg S.um)).mono ?_
  rintro e w' (⟨hm, rfl, hk⟩ | ⟨hm, v, rfl, hk, g, B, cp, gi, go, rfl, hg, hne, hb, hc, hi, ho⟩)
  · exact ⟨_, rfl, [], S.old hk, .inl ⟨hm, rfl, rfl⟩⟩
  · have hci := hc.ne_ hi (by decide)
    have hco := hc.ne_ ho (by decide)
    have hcb := hc.ne_blk hb (by decide)
    have hib := hi.ne_blk hb (by decide)
    have hob := ho.ne_blk hb (by decide)
    have S0 := S.old hk
    have S1 : SH w' M X [Rs.row cdPl (.slice (some ⟨go, 0, none⟩) (2 * d.crs.length + 1) (2 * d.crs.length + 1)) (tabL d true (4 * d.crs.length))] :=
      S.adopt S0 (RowOk.of_owns (C := cdPl) (ho.base (Nat.zero_le _))) (fun b hb => ho.lt b (bl_row hb)) (by simp)
    have S2 := S.adopt S1 (r := Rs.row cdPl (.slice (some ⟨gi, 0, none⟩) (2 * d.crs.length + 1) (2 * d.crs.length + 1)) (tabL d false (4 * d.crs.length)))
      (RowOk.of_owns (C := cdPl) (hi.base (Nat.zero_le _))) (fun b hb => hi.lt b (bl_row hb)) (fun s hs b hb hbs => by
        rw [List.mem_singleton] at hs
        subst hs
        have h1 := bl_row hb
        have h2 := bl_row hbs
        simp only [Value.ownBlock, Option.some.injEq] at h1 h2
        omega)
    have S3 := S.adopt S2 (r := Rs.row cdCr (.slice B d.crs.length cp) d.crs) (RowOk.of_owns (C := cdCr) (hc.base (Nat.zero_le _))) (fun b hb => hc.lt b (bl_row hb)) (fun s hs b hb hbs => by
        have h1 := bl_row hb
        rcases List.mem_cons.1 hs with rfl | hs
        · rcases hci with h | h
          · rw [h] at h1; cases h1
          · exact h (h1.trans (bl_row hbs).symm)
        · rw [List.mem_singleton] at hs
          subst hs
          rcases hco with h | h
          · rw [h] at h1; cases h1
          · exact h (h1.trans (bl_row hbs).symm))
    have S4 := S.adopt S3 (r := Rs.box g 109 [.slice B d.crs.length cp, .int .i64 d.loops, .slice (some ⟨gi, 0, none⟩) (2 * d.crs.length + 1) (2 * d.crs.length + 1), .slice (some ⟨go, 0, none⟩) (2 * d.crs.length + 1) (2 * d.crs.length + 1)])
      hb (fun b hb' => by simp [Rs.box] at hb'; subst hb'; exact ⟨hg, hb.lt⟩) (fun s hs b hb' hbs => by
        simp [Rs.box] at hb'
        subst hb'
        rcases List.mem_cons.1 hs with rfl | hs
        · rcases hcb with h | h
          · have := bl_row hbs; rw [h] at this; cases this
          · exact h (bl_row hbs)
        · rcases List.mem_cons.1 hs with rfl | hs
          · rcases hib with h | h
            · have := bl_row hbs; rw [h] at this; cases this
            · exact h (bl_row hbs)
          · rw [List.mem_singleton] at hs
            subst hs
            rcases hob with h | h
            · have := bl_row hbs; rw [h] at this; cases this
            · exact h (bl_row hbs))
    exact ⟨_, rfl, _, S4, .inr ⟨hm, g, _, _, _, rfl, rfl, gi, go, rfl, rfl, hne⟩⟩
end Go.Proofs.YtklcecpjgingpaaDoor
namespace Go.Proofs.YtklcecpjgingpaaDoor
open Go.ChangeShapes Go.WideShapes Go.ChangeAt Go.RowKit
section
variable {P : Program} {o : Oper} {L : List (Nat × Value)} {w w' : World} {x y z : Operand} {t t' T E : TypeId} {a b : Int} {v u : Value} {n d : Nat} {Kt : List (Nat × Value) → World → Prop} {M M' : Hp} {X : Fr} {H H' : List Rs} {i g off : Nat} {l : List Value}
theorem run_makeFunc {f : FuncId} {ys : List Operand} {vs : List Value} {fa ca : Array Operand} (hop : o.op = .makeFunc (.func f) fa ca) (hf : fa = #[]) (hc : ca = ys.toArray) (hv : oevs L ys = some vs) : Run P o L w (.func (.func f) #[] vs.toArray) w := by
  intro n c he
  unfold execOp
  subst hf
  simp only [hop, hc, List.map_toArray, he.evals hv, Instr.makeFunc, Sem.run_bind, Sem.run_pure, Result.andThen_ok]
  rfl
end
section
variable {α : Type} {C : Cd α} {N : Hp} {vs : List SlV} {xss : List (List α)}
end
end Go.Proofs.YtklcecpjgingpaaDoor
namespace Go.Proofs.YtklcecpjgingpaaDoor
open Go.ChangeShapes Go.WideShapes Go.ChangeAt Go.RowKit
section
variable {P : Program} {f : FuncId} {vs vs' : List Value} {w : World} {M : Hp} {X : Fr}
theorem Cq.cast {R : Value → Prop} (h : vs = vs') (c : Cq P f vs' w M X R) : Cq P f vs w M X R := h ▸ c
theorem Ct.cast {R : Value → Hp → Prop} (h : vs = vs') (c : Ct P f vs' w M X R) : Ct P f vs w M X R := h ▸ c
/-- The facts of a lent table's rows, at the call's memory. -/
theorem Rd2.at_ {α : Type} {C : Cd α} {ss : List SlV} {xss : List (List α)} {H : List Rs} (_ : SH w M X H) (h : Rd2 C (M.un (XH w X H).h) ss xss) : Rd2 C (M.un (XH w X H).h) ss xss := h
end
end Go.Proofs.YtklcecpjgingpaaDoor
namespace Go.Proofs.YtklcecpjgingpaaDoor
open Go.ChangeShapes Go.WideShapes Go.ChangeAt Go.RowKit
def SlV.v (s : SlV) : Value := .slice s.A s.n s.c
section
variable {α : Type} {C : Cd α} {xs zs : List α} {v : Value} {w w' : World} {M : Hp} {X : Fr} {H H' : List Rs} {i q g k : Nat} {T : TypeId} {l : List Value} {vs : List SlV} {xss : List (List α)} {r s t : Rs}
theorem RowOk.cell [Inhabited α] (h : RowOk C v xs (hp w)) {e j : Nat} {u : Value} (he : e < xs.length) (hj : Nat.blt j C.k = true) (hu : nth (C.f (ga xs e)) j = some u) : w.cell? ⟨rb v, e * C.k + j, none⟩ = some u := by
  rcases h with ⟨_, h2⟩ | ⟨g, cap, cur, rfl, h2, h3, h4, h5, h6⟩
  · rw [h2] at he; simp at he
  · have hj' : j < C.k := by simpa using hj
    show w.cell? ⟨g, e * C.k + j, none⟩ = some u
    rw [cell_of_row w g _ cur C.E (0, 0) h2]
    have hlt : e * C.k + j < xs.length * C.k := by
      have := Nat.mul_le_mul_right C.k (show e + 1 ≤ xs.length by omega)
      rw [Nat.succ_mul] at this
      omega
    have h7 := flat_get C.hf (xs := xs) he hj'
    rw [← h6, List.getElem?_take, if_pos hlt, ← ga_eq he, ← nth_eq (C.f (ga xs e)), hu] at h7
    simpa using h7
end
section
variable {P : Program} {o : Oper} {L : List (Nat × Value)} {w w' : World} {x y z : Operand} {t t' T E : TypeId} {a b : Int} {v u : Value} {n d : Nat} {Kt : List (Nat × Value) → World → Prop} {M M' : Hp} {X : Fr} {H H' : List Rs} {i k g off : Nat} {l : List Value}
end
end Go.Proofs.YtklcecpjgingpaaDoor
namespace Go.Proofs.YtklcecpjgingpaaDoor
open Go.ChangeShapes Go.WideShapes Go.ChangeAt Go.RowKit
/-- A field of one cell, compared: its offset; is it a Bool? -/
def FE (P : Program) (f : Field) (p : Nat × Bool) : Prop :=
  (f.name == "_") = false ∧ f.offset = p.1 ∧ (match p.2 with | true => P.underlying f.type = some .bool | false => ∃ k, P.underlying f.type = some (.int k))
def EqIs (xs ys : List Value) : List (Nat × Bool) → Prop → Prop
  | [], Q => Q = True
  | [(o, false)], Q => ∃ k x y, nth xs o = some (.int k x) ∧ nth ys o = some (.int k y) ∧ Q = (x = y)
  | [(o, true)], Q => ∃ x y, nth xs o = some (.bool x) ∧ nth ys o = some (.bool y) ∧ Q = (x = y)
  | (o, false) :: r, Q => ∃ k x y Q', nth xs o = some (.int k x) ∧ nth ys o = some (.int k y) ∧ EqIs xs ys r Q' ∧ Q = (x = y ∧ Q')
  | (o, true) :: r, Q => ∃ x y Q', nth xs o = some (.bool x) ∧ nth ys o = some (.bool y) ∧ EqIs xs ys r Q' ∧ Q = (x = y ∧ Q')
def StEq (P : Program) (T : TypeId) (pl : List (Nat × Bool)) : Prop :=
  ∃ fs : List Field, P.underlying T = some (.struct fs.toArray) ∧ Al2 (FE P) fs pl ∧ P.stoodInHeld T = false ∧ P.eqGuardType P.depth T = false
section
variable {P : Program}
theorem eqIs_go {xs ys : List Value} {o : Nat} {b : Bool} : ∀ {r : List (Nat × Bool)} {Q : Prop}, EqIs xs ys ((o, b) :: r) Q → ∃ Q1 Q2, (match b with | false => ∃ k x y, nth xs o = some (.int k x) ∧ nth ys o = some (.int k y) ∧ Q1 = (x = y) | true => ∃ x y, nth xs o = some (.bool x) ∧ nth ys o = some (.bool y) ∧ Q1 = (x = y)) ∧ EqIs xs ys r Q2 ∧ (Q ↔ Q1 ∧ Q2)
  | [], Q, h => by
    cases b with
    | false => obtain ⟨k, x, y, h1, h2, rfl⟩ := h; exact ⟨_, True, ⟨k, x, y, h1, h2, rfl⟩, rfl, by simp⟩
    | true => obtain ⟨x, y, h1, h2, rfl⟩ := h; exact ⟨_, True, ⟨x, y, h1, h2, rfl⟩, rfl, by simp⟩
  | (_ :: _), Q, h => by
    cases b with
    | false => obtain ⟨k, x, y, Q', h1, h2, h3, rfl⟩ := h; exact ⟨_, Q', ⟨k, x, y, h1, h2, rfl⟩, h3, Iff.rfl⟩
    | true => obtain ⟨x, y, Q', h1, h2, h3, rfl⟩ := h; exact ⟨_, Q', ⟨x, y, h1, h2, rfl⟩, h3, Iff.rfl⟩
theorem part1 {T : TypeId} {dd : TypeDesc} {cs : List Value} {o : Nat} {v : Value} {w : World} (hu : P.underlying T = some dd) (hd : flatD dd = true) (hv : nth cs o = some v) : (part T cs.toArray o).run P w = .ok v w := by
  rw [nth_eq] at hv
  simp only [part, Sem.run_bind, run_isAgg hu, hd, Result.andThen_ok, Bool.not_true, Bool.false_eq_true, if_false, List.getElem?_toArray, hv, Sem.run_pure]
theorem run_eqFields {xs ys : List Value} {w : World} : ∀ {fs : List Field} {pl : List (Nat × Bool)} {Q : Prop}, Al2 (FE P) fs pl → EqIs xs ys pl Q → ∃ r : Bool, (Op.eqFields 9999 xs.toArray ys.toArray fs).run P w = .ok r w ∧ (r = true ↔ Q)
  | [], [], Q, _, h => ⟨true, rfl, by rw [show Q = True from h]; simp⟩
  | f :: fs, (o, b) :: pl, Q, ha, h => by
    obtain ⟨⟨hn, ho, hu⟩, ha⟩ := ha
    obtain ⟨Q1, Q2, h1, h2, hiff⟩ := eqIs_go h
    obtain ⟨r2, hr2, hi2⟩ := run_eqFields (w := w) ha h2
    have hne : f.name ≠ "_" := by simpa using hn
    simp only at ho
    have key : ∃ r1 : Bool, ∃ u v, (part f.type xs.toArray f.offset).run P w = .ok u w ∧ (part f.type ys.toArray f.offset).run P w = .ok v w ∧ (Op.equalIn 9999 f.type u v).run P w = .ok r1 w ∧ (r1 = true ↔ Q1) := by
      cases b with
      | false =>
        obtain ⟨k, x, y, g1, g2, rfl⟩ := h1
        obtain ⟨k', hu⟩ := hu
        exact ⟨_, _, _, part1 hu rfl (by rw [ho]; exact g1), part1 hu rfl (by rw [ho]; exact g2), run_equalIn_int w 9998 _ _ _ _ _ hu, by simp⟩
      | true =>
        obtain ⟨x, y, g1, g2, rfl⟩ := h1
        exact ⟨_, _, _, part1 hu rfl (by rw [ho]; exact g1), part1 hu rfl (by rw [ho]; exact g2), run_equalIn_bool' w 9998 _ _ _ hu, by simp⟩
    obtain ⟨r1, u, v, k1, k2, k3, k4⟩ := key
    refine ⟨r1 && r2, ?_, by rw [hiff, ← k4, ← hi2]; simp⟩
    rw [Op.eqFields, if_pos hne]
    simp only [Sem.run_bind, k1, k2, k3, Result.andThen_ok]
    cases r1 <;> simp [hr2]
  | [], _ :: _, _, ha, _ => False.elim ha
  | _ :: _, [], _, ha, _ => False.elim ha
variable {o : Oper} {L : List (Nat × Value)} {w : World} {x y : Operand} {t t' : TypeId}
theorem run_equalSt {xs ys : List Value} {pl : List (Nat × Bool)} {Q : Prop} [Decidable Q] (hT : StEq P t pl) (he : EqIs xs ys pl Q) : (Op.equalIn 10000 t (.agg xs.toArray) (.agg ys.toArray)).run P w = .ok (decide Q) w := by
  obtain ⟨fs, hu, ha, hs, _⟩ := hT
  have hfs : P.fieldsOf t = fs.toArray := by simp [Program.fieldsOf, hu]
  obtain ⟨r, hr, hi⟩ := run_eqFields (w := w) ha he
  rw [run_equalIn_struct w 9999 t _ _ (by rw [hfs]; exact hu) hs, hfs]
  have : r = decide Q := by
    by_cases h : Q
    · rw [decide_eq_true h]; exact hi.2 h
    · rw [decide_eq_false h]
      cases r with
      | false => rfl
      | true => exact absurd (hi.1 rfl) h
  rw [← this]
  exact hr
theorem run_neSt {xs ys : List Value} {pl : List (Nat × Bool)} {Q : Prop} [Decidable Q] (hop : o.op = .binOp .neq t x y t') (hx : oev L x = some (.agg xs.toArray)) (hy : oev L y = some (.agg ys.toArray)) (hT : StEq P t pl) (he : EqIs xs ys pl Q) : Run P o L w (.bool (decide (¬ Q))) w := by
  intro n c' he'
  have hg := run_eqGuard_agg (P := P) w .neq t x y xs.toArray ys.toArray hT.choose_spec.2.2.2
  unfold execOp
  simp only [hop, he'.eval hx, he'.eval hy, hg, Sem.run_bind, Sem.run_pure, Result.andThen_ok, run_neq_struct, run_equalSt hT he, decide_not]
end
end Go.Proofs.YtklcecpjgingpaaDoor
namespace Go.Proofs.YtklcecpjgingpaaDoor
open Go.ChangeShapes Go.WideShapes Go.ChangeAt Go.RowKit
def Rs.bun (H : List Rs) : Rs :=
  ⟨H.flatMap (·.bl), fun h => (∀ r ∈ H, r.ok h) ∧ ∀ (i j : Nat) r s, i ≠ j → H[i]? = some r → H[j]? = some s → ∀ b ∈ r.bl, b ∉ s.bl, fun h h' hb hk =>
    ⟨fun r hr => r.loc h h' (fun b hbr => hb b (List.mem_flatMap.2 ⟨r, hr, hbr⟩)) (hk.1 r hr), hk.2⟩⟩
section
variable {w w' : World} {M M' : Hp} {X : Fr} {H H' : List Rs} {r r' : Rs} {i : Nat}
theorem SH.bun (S : SH w M X H) : SH w M X [Rs.bun H] := by
  refine ⟨S.m, S.x, S.mx, fun s hs => ?_, fun s hs b hb => ?_, fun i j r s hij hi hj b hb => ?_, S.like⟩
  · rw [List.mem_singleton] at hs; subst hs; exact ⟨S.ok, S.ap⟩
  · rw [List.mem_singleton] at hs; subst hs
    obtain ⟨r, hr, hbr⟩ := List.mem_flatMap.1 hb
    exact S.bl r hr b hbr
  · have h1 := (List.getElem?_eq_some_iff.1 hi).1
    have h2 := (List.getElem?_eq_some_iff.1 hj).1
    simp at h1 h2; omega
theorem SH.unbun (S : SH w M X [Rs.bun H]) : SH w M X H := by
  obtain ⟨h1, h2⟩ := S.ok (Rs.bun H) (by simp)
  exact ⟨S.m, S.x, S.mx, h1, fun r hr b hb => S.bl (Rs.bun H) (by simp) b (List.mem_flatMap.2 ⟨r, hr, hb⟩), h2, S.like⟩
end
def Rs.lr (l D : Nat) (rc : Loop) : Rs :=
  ⟨[l, D], fun h => h l = some (.loop rc) ∧ h D = some (.deferred (some [])), fun h h' hb hk => ⟨by rw [hb l (by simp)]; exact hk.1, by rw [hb D (by simp)]; exact hk.2⟩⟩
namespace InF
structure Ctx where
  Q : Exit → Act → World → Prop
  r : Option Nat
def Ctx.F (C : Ctx) : Fence := match C.r with
  | none => Fence.wide
  | some l => Fence.wide.inRound l
theorem Ctx.F_fn (C : Ctx) (f : FuncId) : C.F.fn f := by
  unfold Ctx.F; split <;> trivial
theorem Ctx.F_depth (C : Ctx) : C.F.depth = none := by
  unfold Ctx.F; split <;> rfl
theorem Ctx.F_isSome (C : Ctx) {p : Prop} : C.F.depth.isSome = true → p := by rw [C.F_depth]; intro h; cases h
theorem callsF (C : Ctx) {m : Nat} {P : Program} {f : FuncId} {args : Array Value} {w : World} {R : Ending → World → Prop} (h : Calls P f args w R) : CallsIn C.F m P f args w R := by
  unfold Ctx.F
  split
  · exact callsIn_wide.2 h
  · exact (callsIn_wide.2 h).inRound _
theorem rowsF (C : Ctx) {m : Nat} {P : Program} {row : String} {args : Array Value} {w : World} {R : Value → World → Prop} (h : Rows P row args w R) : RowsIn C.F m P row args w R := by
  unfold Ctx.F
  split
  · exact fun c cs _ => let ⟨v, w', r, s⟩ := h c cs; ⟨v, w', r, stepsIn_wide.2 s⟩
  · exact fun c cs _ => let ⟨v, w', r, s⟩ := h c cs; ⟨v, w', r, stepsIn_wide.2 s⟩
theorem oper_in (C : Ctx) {P : Program} {o : Oper} {a : Act} {w : World} {next : Act → World → Prop} {Q : Exit → Act → World → Prop} (hnd : ∀ c, o.op ≠ .defer c) (h : o.wp P a w next Q) : o.wpIn C.F 0 P a w next Q := by
  refine ⟨fun f _ => C.F_fn f, ?_⟩
  rw [Oper.semAt_eq _ _ _ hnd]
  unfold Oper.wp at h
  generalize (execOp a.eval o).run P w = r at h
  cases r with
  | ok nx w' =>
    cases nx with
    | value v => exact h
    | skip => exact h
    | defer d => exact h
    | enter f args => exact ⟨C.F_isSome, callsF C h⟩
    | row row args => exact ⟨C.F_isSome, rowsF C h⟩
    | _ => exact h.elim
  | halt x w' =>
    cases x with
    | panic v => exact h
    | _ => exact h.elim
def post (P : Program) (C : Ctx) : List K → Exit → Act → World → Prop
  | [] => C.Q
  | .thn c :: s => Exit.then (c.wpIn C.F 0 P (post P C s)) (post P C s)
  | .blk id :: s => Exit.inBlock id (post P C s)
  | .lp I :: s => Exit.then I (post P C s)
def WS (P : Program) (n : Nat) (C : Ctx) (c : Code) (s : List K) (L : List (Nat × Value)) (w : World) : Prop := ∀ a, Env n L a → c.wpIn C.F 0 P (post P C s) a w
def NM (P : Program) (n : Nat) (C : Ctx) (s : List K) (L : List (Nat × Value)) (w : World) : Prop := ∀ a, Env n L a → post P C s .normal a w
def WL (P : Program) (n : Nat) (C : Ctx) (c : Code) (k : Nat) (s : List K) (L : List (Nat × Value)) (w : World) : Prop := ∀ a, Env n L a → wpListIn C.F 0 P (rg c) (post P C s) ((rg c).toList.drop k) a w
section
variable {P : Program} {n : Nat} {C : Ctx} {c : Code} {s : List K} {L : List (Nat × Value)} {w : World}
theorem ws_sub (L2 : List (Nat × Value)) (hs : Sub L L2) (h : WS P n C c s L2 w) : WS P n C c s L w := fun a ha => h a (ha.sub hs)
theorem nm_sub (L2 : List (Nat × Value)) (hs : Sub L L2) (h : NM P n C s L2 w) : NM P n C s L w := fun a ha => h a (ha.sub hs)
theorem ws_seqN (a b : Code) (hk : kind c = 1) (ha : cL c = a) (hb : cR c = b) (h : WS P n C a (.thn b :: s) L w) : WS P n C c s L w := by
  subst ha; subst hb
  intro a ha
  rw [kind_seq hk]
  exact wpIn_seq (h a ha)
theorem ws_blockN (a : Code) (i : Nat) (hk : kind c = 3) (ha : cL c = a) (hi : cId c = i) (h : WS P n C a (.blk i :: s) L w) : WS P n C c s L w := by
  subst ha; subst hi
  intro a ha
  rw [kind_block hk]
  exact wpIn_block (h a ha)
theorem ws_skip (hk : kind c = 9) (h : NM P n C s L w) : WS P n C c s L w := by
  intro a ha
  rw [kind_skip hk]
  exact wpIn_skip (h a ha)
theorem nm_thn (h : WS P n C c s L w) : NM P n C (.thn c :: s) L w := fun a ha => h a ha
theorem nm_blk {id : Nat} (h : NM P n C s L w) : NM P n C (.blk id :: s) L w := fun a ha => h a ha
theorem nm_lp {I : Act → World → Prop} (h : ∀ a, Env n L a → I a w) : NM P n C (.lp I :: s) L w := fun a ha => h a ha
theorem post_exit {id : Nat} : ∀ {s s' : List K}, popTo id s = some s' → ∀ a w, post P C s' .normal a w → post P C s (.exit id) a w
  | [], s', h, a, w, hq => by cases h
  | .thn c :: s, s', h, a, w, hq => post_exit (s := s) h a w hq
  | .lp I :: s, s', h, a, w, hq => post_exit (s := s) h a w hq
  | .blk i :: s, s', h, a, w, hq => by
    simp only [popTo] at h
    simp only [post, Exit.inBlock]
    by_cases hi : i = id
    · subst hi
      simp only [Nat.beq_refl, Option.some.injEq] at h
      subst h
      rw [if_pos rfl]
      exact hq
    · have h2 : Nat.beq i id = false := by
        cases hb : Nat.beq i id with
        | false => rfl
        | true => exact absurd (Nat.eq_of_beq_eq_true hb) hi
      simp only [h2] at h
      rw [if_neg (fun e => hi e.symm)]
      exact post_exit (s := s) h a w hq
theorem ws_exit {s' : List K} (hk : kind c = 5) (hp : popTo (cId c) s = some s') (h : NM P n C s' L w) : WS P n C c s L w := by
  intro a ha
  rw [kind_exit hk]
  exact wpIn_exit (post_exit hp a w (h a ha))
theorem ws_condN (x y : Code) {b : Bool} (hk : kind c = 2) (hb : oev L (cX c) = some (.bool b)) (hx : cL c = x) (hy : cR c = y) (ht : b = true → WS P n C x s L w) (hf : b = false → WS P n C y s L w) : WS P n C c s L w := by
  subst hx; subst hy
  intro a ha
  rw [kind_cond hk]
  exact wpIn_cond_split (ha.eval hb) (fun h => ht h a ha) (fun h => hf h a ha)
theorem ws_in {a : Act} {c' : Code} (ha : Env n L a) (hc : c' = c) (h : WS P n C c s L w) : c'.wpIn C.F 0 P (post P C s) a w := by subst hc; exact h a ha
theorem ws_loopE (I : Nat → Act → World → Prop) (hk : kind c = 4) (h0 : ∀ a, Env n L a → ∃ k, I k a w)
    (round : ∀ k a w, I k a w → (cL c).wpIn C.F 0 P (post P C (.lp (fun a' w' => ∃ k', k' < k ∧ I k' a' w') :: s)) a w) : WS P n C c s L w := by
  intro a ha
  rw [kind_loop hk]
  have key : ∀ m k, k < m → ∀ a w, I k a w → Code.roundsIn C.F 0 P (cL c) (post P C s) m a w := by
    intro m
    induction m with
    | zero => intro k hk; omega
    | succ m ih =>
      intro k hk a w hi
      rw [roundsIn_succ]
      refine wpIn_mono (round k a w hi) (fun e a w q => ?_)
      cases e with
      | normal =>
        obtain ⟨k', hlt, hi'⟩ := q
        exact ih k' (by omega) a w hi'
      | _ => exact q
  obtain ⟨k0, h1⟩ := h0 a ha
  exact wpIn_loop_rounds (k0 + 1) (key (k0 + 1) k0 (by omega) a w h1)
theorem ws_region (hk : kind c = 7) (h : WL P n C c 0 s L w) : WS P n C c s L w := by
  intro a ha
  rw [kind_region hk]
  exact wpIn_region_list (h a ha)
theorem wl_end {k : Nat} (hk : op c k = none) (h : NM P n C s L w) : WL P n C c k s L w := by
  intro a ha
  have : ((rg c).toList.drop k) = [] := by
    unfold op at hk
    rw [nth_eq] at hk
    exact List.drop_eq_nil_of_le (by simpa using hk)
  rw [this]
  exact wpListIn_nil (h a ha)
/-- No defer statement; and no operation that asks for a row of the model's own. -/
def ndOp (o : Oper) : Bool := match o.op with
  | .defer _ => false
  | _ => true
theorem ndOp_spec {o : Oper} (h : ndOp o = true) : ∀ c, o.op ≠ .defer c := fun c e => by unfold ndOp at h; rw [e] at h; cases h
theorem wl_op {k k' : Nat} {o : Oper} (ho : op c k = some o) (hk : k' = k.succ) (hg : o.guard = none) (h : WO P n o L w (fun L' w' => WL P n C c k' s L' w')) (hnd : ndOp o = true := by rfl) : WL P n C c k s L w := by
  intro a ha
  rw [drop_op ho]
  subst hk
  refine wpListIn_plain hg fun K hK => ?_
  exact oper_in C (ndOp_spec hnd) (h a ha K _ fun L' a' w' he hw => hK _ _ (hw a' he))
/-- A call of yield: a round. -/
theorem wl_yield {k k' d l : Nat} {o : Oper} {vs : List Value} {ca : Call} {fo : Operand} {xs : List Operand} (ho : op c k = some o) (hk : k' = k.succ) (hg : o.guard = none) (hd : o.dst = some d) (hop : o.op = .call ca) (hca : ca.callee = .value fo) (hfo : oev L fo = some (.func (.yield l) #[] #[]))
    (hxs : ca.args = xs.toArray) (hvs : oevs L xs = some vs) (hn : Nat.blt d n = true) {R : Value → World → Prop} (hy : YieldAt C.F 0 P l vs.toArray w fun e w' => ∃ v, e = .returned v ∧ R v w') (h : ∀ v w', R v w' → WL P n C c k' s ((d, v) :: L) w') : WL P n C c k s L w := by
  intro a ha
  rw [drop_op ho]
  subst hk
  refine wpListIn_plain hg fun K hK => ?_
  obtain ⟨fn, tmps, assign, body, hy1, hy2⟩ := hy
  have hr : (execOp a.eval o).run P w = .ok (.round l fn tmps assign body) w := by
    unfold execOp
    simp only [hop, resolve, hca, ha.eval hfo, hxs, List.map_toArray, ha.evals hvs, Deferred.ofValue, Sem.run_bind, Sem.run_pure, Result.andThen_ok, invoke, Array.empty_append]
    exact hy1
  refine ⟨fun f _ => C.F_fn f, ?_⟩
  rw [Oper.semAt_eq _ _ _ (fun c e => by rw [e] at hop; cases hop), hr, Oper.uponIn_round, hd]
  refine ⟨C.F_isSome, hy2.mono ?_⟩
  rintro e w' ⟨v, rfl, hR⟩
  exact hK _ _ (h v w' hR _ (ha.put (by simpa using hn) v))
theorem ws_ret {fn : Func} {R : Ending → World → Prop} (hC : C.Q = bodyPost P fn R) {rs : List ResultVar} (vs : List Value) (hr : fn.results = rs.toArray) (hk : kind c = 6) (h : ResIs P L w rs vs) (hR : R (.returned (tup vs)) w) : WS P n C c s L w := by
  have hpr : ∀ {s : List K} {a : Act} {w : World}, post P C [] .ret a w → post P C s .ret a w := by
    intro s
    induction s with
    | nil => exact fun h => h
    | cons x s ih => intro a w h; cases x <;> exact ih h
  intro a ha
  rw [kind_ret hk]
  refine wpIn_ret (hpr ?_)
  show C.Q .ret a w
  rw [hC]
  exact ⟨ha.df, tup vs, run_results ha hr h, hR⟩
theorem nm_end {fn : Func} {R : Ending → World → Prop} (hC : C.Q = bodyPost P fn R) {rs : List ResultVar} (vs : List Value) (hr : fn.results = rs.toArray) (h : ResIs P L w rs vs) (hR : R (.returned (tup vs)) w) : NM P n C [] L w := by
  intro a ha
  show C.Q .normal a w
  rw [hC]
  exact ⟨ha.df, tup vs, run_results ha hr h, hR⟩
/-- A function that is ranged over. -/
theorem calls_in {f : FuncId} {fn : Func} {b : Code} {args : List Value} {w : World} {R : Ending → World → Prop} (hf : P.funcs[f]? = some fn) (hb : fn.body = some b) {n : Nat} (hn : fn.ntmps = n) (hsz : Nat.ble args.length n = true)
    (h : ∀ C : Ctx, C.r = none → C.Q = bodyPost P fn R → WS P n C b [] (argL 0 args) w) : CallsIn Fence.wide 0 P f args.toArray w R := by
  have h1 := h ⟨bodyPost P fn R, none⟩ rfl rfl
  refine callsIn_of_wp hf hb trivial (h1 _ ⟨?_, rfl, fun t v hv => ?_⟩)
  · simp [hn]; have : args.length ≤ n := by simpa using hsz
    omega
  · have := (lk_argL args 0 t v hv).2
    rw [Nat.sub_zero] at this
    have hlt := (List.getElem?_eq_some_iff.1 this).1
    simp only [Array.getD_eq_getD_getElem?]
    rw [Array.getElem?_append_left (by simpa using hlt)]
    simp [this]
/-- A function that holds a loop over a function. -/
theorem calls_marks {f : FuncId} {fn : Func} {b : Code} {args : List Value} {w : World} {R : Ending → World → Prop} (hf : P.funcs[f]? = some fn) (hb : fn.body = some b) {n : Nat} (hn : fn.ntmps = n) (hsz : Nat.ble args.length n = true)
    (h : ∀ C : Ctx, C.r = none → C.Q = bodyPostM Fence.wide 0 P fn R → WS P n C b [] (argL 0 args) w) : Calls P f args.toArray w R := by
  have h1 := h ⟨bodyPostM Fence.wide 0 P fn R, none⟩ rfl rfl
  refine callsIn_wide.1 (callsIn_of_wp_marks hf hb trivial (h1 _ ⟨?_, rfl, fun t v hv => ?_⟩))
  · simp [hn]; have : args.length ≤ n := by simpa using hsz
    omega
  · have := (lk_argL args 0 t v hv).2
    rw [Nat.sub_zero] at this
    have hlt := (List.getElem?_eq_some_iff.1 this).1
    simp only [Array.getD_eq_getD_getElem?]
    rw [Array.getElem?_append_left (by simpa using hlt)]
    simp [this]
end
section
variable {P : Program} {n : Nat} {C : Ctx} {c : Code} {s : List K} {L : List (Nat × Value)} {w : World} {M : Hp} {X : Fr} {H : List Rs}
theorem lr_put {w : World} {l D : Nat} {rc rc' : Loop} {Hs : List Rs} (S : SH w M X (Rs.lr l D rc :: Hs)) : SH (w.putObj l (.loop rc')) M X (Rs.lr l D rc' :: Hs) := by
  obtain ⟨h1, h2⟩ := S.ok (Rs.lr l D rc) (by simp)
  have hne : D ≠ l := fun e => by subst e; rw [h1] at h2; cases h2
  have hlt := hp_lt h1
  have hlt2 := hp_lt h2
  refine S.step (i := 0) (r := Rs.lr l D rc) rfl rfl ⟨rfl, rfl, rfl, by simp [World.putObj]⟩ (fun b _ hb => ?_) ⟨World.putObj_heap_same hlt, (World.putObj_heap_other hne).trans h2⟩ (fun b hb => ⟨.inl hb, ?_⟩)
  · exact World.putObj_heap_other (fun e => hb (by rw [e]; simp [Rs.lr]))
  · simp only [Rs.lr, List.mem_cons, List.not_mem_nil, or_false] at hb
    rcases hb with rfl | rfl <;> simp [World.putObj, hlt, hlt2]
theorem env_start {a : Act} {p : Nat} {v : Value} (ha : Env n L a) (hp : p < n) : Env n ((p, v) :: L) { tmps := a.tmps.setIfInBounds p v, defers := [] } := by
  have := (ha.put hp v)
  exact ⟨by simpa [Act.put] using this.sz, rfl, fun t u hu => by have := this.at_ t u hu; simpa [Act.put] using this⟩
theorem lr_take {l D : Nat} {rc : Loop} {Hs : List Rs} (S : SH w M X (Rs.lr l D rc :: Hs)) : SH (w.putObj D (.deferred none)) M X Hs := by
  obtain ⟨h1, h2⟩ := S.ok (Rs.lr l D rc) (by simp)
  have S2 : SH (w.putObj D (.deferred none)) M X (Rs.emp :: Hs) := S.step (i := 0) (r := Rs.lr l D rc) rfl rfl ⟨rfl, rfl, rfl, by simp [World.putObj]⟩ (fun b _ hb => World.putObj_heap_other (fun e => hb (by rw [e]; simp [Rs.lr]))) trivial (fun b hb => by cases hb)
  exact S2.suf (N := [Rs.emp])
end
end InF
end Go.Proofs.YtklcecpjgingpaaDoor
namespace Go.Proofs.YtklcecpjgingpaaDoor
open Go.ChangeShapes Go.WideShapes Go.ChangeAt Go.RowKit
def upd {α : Type} (h : Nat → α) (e : Nat) (v : α) (k : Nat) : α := if k = e then v else h k
theorem nth_fn4 {e : Nat} (f : Nat → Value) (h : e < 4) : nth [f 0, f 1, f 2, f 3] (0 + e * 1) = some (f e) := by
  have : e = 0 ∨ e = 1 ∨ e = 2 ∨ e = 3 := by omega
  rcases this with rfl | rfl | rfl | rfl <;> rfl
theorem ble_fn4 {e : Nat} (f : Nat → Value) (v : Value) (h : e < 4) : Nat.ble (0 + e * 1 + [v].length) [f 0, f 1, f 2, f 3].length = true := by
  have : e = 0 ∨ e = 1 ∨ e = 2 ∨ e = 3 := by omega
  rcases this with rfl | rfl | rfl | rfl <;> rfl
theorem spl_fn4 {e : Nat} (f : Nat → Value) (v : Value) (h : e < 4) : spl [f 0, f 1, f 2, f 3] (0 + e * 1) [v] = [upd f e v 0, upd f e v 1, upd f e v 2, upd f e v 3] := by
  have : e = 0 ∨ e = 1 ∨ e = 2 ∨ e = 3 := by omega
  rcases this with rfl | rfl | rfl | rfl <;> rfl
end Go.Proofs.YtklcecpjgingpaaDoor
namespace Go.Proofs.YtklcecpjgingpaaDoor
open Go.ChangeShapes Go.WideShapes Go.ChangeAt Go.RowKit
def sB (l : List UInt8) : ByteArray := ⟨l.toArray⟩
theorem sB_size (a : List UInt8) : (sB a).size = a.length := by
  show (sB a).data.size = _
  simp [sB]
theorem sB_data (x : ByteArray) : sB x.data.toList = x := by
  unfold sB
  apply ByteArray.ext
  simp
def cdStr : Cd (List UInt8) := ⟨fun x => [.string (sB x)], 1, 16, 9, [], fun _ => rfl, by
  intro x u hu; simp at hu; subst hu; rfl⟩
theorem flatS (xs : List (List UInt8)) : xs.flatMap cdStr.f = xs.map (fun x => Value.string (sB x)) := by
  induction xs with
  | nil => rfl
  | cons x xs ih => rw [List.flatMap_cons, List.map_cons, ih]; rfl
section
variable {P : Program} {o : Oper} {L : List (Nat × Value)} {w w' : World} {x y z : Operand} {t t' T E src dst : TypeId} {v u : Value} {n d : Nat} {Kt : List (Nat × Value) → World → Prop} {M M' : Hp} {X : Fr} {H H' : List Rs} {i g : Nat} {l : List Value} {a b : List UInt8}
theorem run_eqlD (ho : o.op = .binOp .eql t x y t') (hx : oev L x = some (.string (sB a))) (hy : oev L y = some (.string (sB b))) : Run P o L w (.bool (decide (a = b))) w := by
  intro n c hc
  unfold execOp
  have h1 : ∀ w, (eqGuard .eql t x y (.string (sB a)) (.string (sB b))).run P w = .ok () w := by
    intro w; unfold eqGuard; simp
  have h2 : ((sB a).toList == (sB b).toList) = decide (a = b) := by
    rw [ByteArray.toList_eq, ByteArray.toList_eq]
    show (a.toArray.toList == b.toArray.toList) = _
    simp only [List.toList_toArray]
    by_cases h : a = b
    · subst h; simp
    · simp [h]
  simp only [ho, hc.eval hx, hc.eval hy, h1, binOp, Op.stringOp, Sem.run_bind, Result.andThen_ok, Sem.run_pure, h2]
/-- The library's contracts as ours. -/
theorem SH.of_below (S : SH w M X H) (h : Below w.heap.size w w') : SH w' M X H := S.kp ⟨h.os, h.tape, h.output, h.size⟩ fun b hb => h.block b hb
end
end Go.Proofs.YtklcecpjgingpaaDoor
namespace Go.Proofs.YtklcecpjgingpaaDoor
open Go.ChangeShapes Go.WideShapes Go.ChangeAt Go.RowKit
theorem sz3 : (Tryd.prog.info? 3).map (·.size) = some 1 := by kernel_rfl
theorem ce3 : Nat.blt 0 (Tryd.prog.cellsOf 3) = true := by kernel_rfl
theorem nf3 : ∃ i, Tryd.prog.info? 3 = some i := Option.isSome_iff_exists.1 (by kernel_rfl)
theorem sz23 : (Tryd.prog.info? 23).map (·.size) = some 1 := by kernel_rfl
theorem zr23 : (Tryd.prog.info? 23).map (·.zero) = some (some (.int .i64 0)) := by kernel_rfl
theorem sz28 : (Tryd.prog.info? 28).map (·.size) = some 1 := by kernel_rfl
theorem ce28 : Nat.blt 0 (Tryd.prog.cellsOf 28) = true := by kernel_rfl
theorem nf28 : ∃ i, Tryd.prog.info? 28 = some i := Option.isSome_iff_exists.1 (by kernel_rfl)
theorem sz30 : (Tryd.prog.info? 30).map (·.size) = some 2 := by kernel_rfl
theorem zr30 : (Tryd.prog.info? 30).map (·.zero) = some (some (.agg [.slice none 0 0, .int .i64 0].toArray)) := by kernel_rfl
theorem st30 : StOf Tryd.prog 30 [(0, 1), (1, 1)] [.slice none 0 0, .int .i64 0] := ⟨_, Tryd.underlying30, by kernel_rfl, ⟨⟨rfl, by kernel_rfl⟩, ⟨rfl, by kernel_rfl⟩, trivial⟩⟩
theorem sz49 : (Tryd.prog.info? 49).map (·.size) = some 5 := by kernel_rfl
theorem zr49 : (Tryd.prog.info? 49).map (·.zero) = some (some (.agg [.int .i64 0, .int .i64 0, .int .i64 0, .int .i64 0, .bool false].toArray)) := by kernel_rfl
theorem st49 : StOf Tryd.prog 49 [(0, 1), (1, 1), (2, 1), (3, 1), (4, 1)] [.int .i64 0, .int .i64 0, .int .i64 0, .int .i64 0, .bool false] := ⟨_, Tryd.underlying49, by kernel_rfl, ⟨⟨rfl, by kernel_rfl⟩, ⟨rfl, by kernel_rfl⟩, ⟨rfl, by kernel_rfl⟩, ⟨rfl, by kernel_rfl⟩, ⟨rfl, by kernel_rfl⟩, trivial⟩⟩
theorem zr69 : (Tryd.prog.info? 69).map (·.zero) = some (some (.agg [.int .i64 0, .int .i64 0, .int .i64 0, .int .i64 0].toArray)) := by kernel_rfl
theorem cf8 : ∀ args w, (callFunc 8 args).run Tryd.prog w = .ok (.enter 8 args) w := enter_ok (c := Tryd.f8.body.getD .skip) Tryd.func8 (by decide) rfl
theorem cf9 : ∀ args w, (callFunc 9 args).run Tryd.prog w = .ok (.enter 9 args) w := enter_ok (c := Tryd.f9.body.getD .skip) Tryd.func9 (by decide) rfl
theorem cf10 : ∀ args w, (callFunc 10 args).run Tryd.prog w = .ok (.enter 10 args) w := enter_ok (c := Tryd.f10.body.getD .skip) Tryd.func10 (by decide) rfl
theorem cf11 : ∀ args w, (callFunc 11 args).run Tryd.prog w = .ok (.enter 11 args) w := enter_ok (c := Tryd.f11.body.getD .skip) Tryd.func11 (by decide) rfl
theorem cf12 : ∀ args w, (callFunc 12 args).run Tryd.prog w = .ok (.enter 12 args) w := enter_ok (c := Tryd.f12.body.getD .skip) Tryd.func12 (by decide) rfl
theorem cf19 : ∀ args w, (callFunc 19 args).run Tryd.prog w = .ok (.enter 19 args) w := enter_ok (c := Tryd.f19.body.getD .skip) Tryd.func19 (by decide) rfl
theorem cf20 : ∀ args w, (callFunc 20 args).run Tryd.prog w = .ok (.enter 20 args) w := enter_ok (c := Tryd.f20.body.getD .skip) Tryd.func20 (by decide) rfl
theorem cf21 : ∀ args w, (callFunc 21 args).run Tryd.prog w = .ok (.enter 21 args) w := enter_ok (c := Tryd.f21.body.getD .skip) Tryd.func21 (by decide) rfl
theorem cf22 : ∀ args w, (callFunc 22 args).run Tryd.prog w = .ok (.enter 22 args) w := enter_ok (c := Tryd.f22.body.getD .skip) Tryd.func22 (by decide) rfl
theorem cf23 : ∀ args w, (callFunc 23 args).run Tryd.prog w = .ok (.enter 23 args) w := enter_ok (c := Tryd.f23.body.getD .skip) Tryd.func23 (by decide) rfl
theorem cf24 : ∀ args w, (callFunc 24 args).run Tryd.prog w = .ok (.enter 24 args) w := enter_ok (c := Tryd.f24.body.getD .skip) Tryd.func24 (by decide) rfl
theorem cf25 : ∀ args w, (callFunc 25 args).run Tryd.prog w = .ok (.enter 25 args) w := enter_ok (c := Tryd.f25.body.getD .skip) Tryd.func25 (by decide) rfl
theorem cf29 : ∀ args w, (callFunc 29 args).run Tryd.prog w = .ok (.enter 29 args) w := enter_ok (c := Tryd.f29.body.getD .skip) Tryd.func29 (by decide) rfl
theorem cf35 : ∀ args w, (callFunc 35 args).run Tryd.prog w = .ok (.enter 35 args) w := enter_ok (c := Tryd.f35.body.getD .skip) Tryd.func35 (by decide) rfl
theorem cf36 : ∀ args w, (callFunc 36 args).run Tryd.prog w = .ok (.enter 36 args) w := enter_ok (c := Tryd.f36.body.getD .skip) Tryd.func36 (by decide) rfl
theorem cf37 : ∀ args w, (callFunc 37 args).run Tryd.prog w = .ok (.enter 37 args) w := enter_ok (c := Tryd.f37.body.getD .skip) Tryd.func37 (by decide) rfl
theorem cf38 : ∀ args w, (callFunc 38 args).run Tryd.prog w = .ok (.enter 38 args) w := enter_ok (c := Tryd.f38.body.getD .skip) Tryd.func38 (by decide) rfl
theorem cf39 : ∀ args w, (callFunc 39 args).run Tryd.prog w = .ok (.enter 39 args) w := enter_ok (c := Tryd.f39.body.getD .skip) Tryd.func39 (by decide) rfl
theorem cf52 : ∀ args w, (callFunc 52 args).run Tryd.prog w = .ok (.enter 52 args) w := enter_ok (c := Tryd.f52.body.getD .skip) Tryd.func52 (by decide) rfl
end Go.Proofs.YtklcecpjgingpaaDoor
namespace Go.Proofs.YtklcecpjgingpaaDoor
open Go.ChangeShapes Go.WideShapes Go.ChangeAt Go.RowKit
theorem se49 : StEq Tryd.prog 49 [(0, false), (1, false), (2, false), (3, false), (4, true)] := ⟨[_, _, _, _, _], Tryd.underlying49, ⟨⟨by kernel_rfl, rfl, ⟨_, Tryd.underlying3⟩⟩, ⟨by kernel_rfl, rfl, ⟨_, Tryd.underlying3⟩⟩, ⟨by kernel_rfl, rfl, ⟨_, Tryd.underlying3⟩⟩, ⟨by kernel_rfl, rfl, ⟨_, Tryd.underlying3⟩⟩, ⟨by kernel_rfl, rfl, Tryd.underlying4⟩, trivial⟩, by kernel_rfl, by kernel_rfl⟩
theorem sl75 : SlOf Tryd.prog 75 cdInt := ⟨.int .i64 0, Tryd.underlying75, by kernel_rfl, rfl, by decide, by decide⟩
end Go.Proofs.YtklcecpjgingpaaDoor
namespace Go.Proofs.YtklcecpjgingpaaDoor
open Go.ChangeShapes Go.WideShapes Go.ChangeAt Go.RowKit
theorem SH.pubBx {w : World} {M : Hp} {X : Fr} {H H' : List Rs} {i g : Nat} {T : TypeId} {l : List Value} (S : SH w M X H) (hi : nth H i = some (Rs.box g T l)) (hH : H.set i Rs.emp = H') : ∃ M', M.le M' ∧ SH w M' X H' ∧ BxM M' g T l := by
 obtain ⟨h1, h2, h3⟩ := S.pub hi hH
 have h4 : hp w g = some (.cells l.toArray T (0, 0)) := S.get hi
 exact ⟨_, h1, h2, (h3 g (by simp [Rs.box])).trans h4⟩
theorem mayO {d : Dg} (h : mayB d = true) : d.crs.length ≤ 16 ∧ arcsB d = true ∧ 0 ≤ d.loops ∧ d.loops ≤ 16 := by
 rw [mayB_arcs, Bool.and_eq_true, decide_eq_true_iff] at h
 exact ⟨h.1.1, h.2, h.1.2.1, h.1.2.2.1⟩
def ShM (N : Hp) (d : Dg) (g : Nat) (cA iA oA : Option Addr) (cc ic oc : Nat) : Prop := BxM N g 109 [.slice cA d.crs.length cc, .int .i64 d.loops, .slice iA (tabL d false (4 * d.crs.length)).length ic, .slice oA (tabL d true (4 * d.crs.length)).length oc] ∧ RdA cdCr N cA cc d.crs ∧ RdA cdPl N iA ic (tabL d false (4 * d.crs.length)) ∧ RdA cdPl N oA oc (tabL d true (4 * d.crs.length))
def NewT (d : Dg) (v : Value) (N : Hp) : Prop :=
 (mayB d = false ∧ v = .tuple [.pointer none, .bool false].toArray) ∨
 (mayB d = true ∧ ∃ g cA iA oA cc ic oc, v = .tuple [.pointer (some ⟨g, 0, none⟩), .bool true].toArray ∧ ShM N d g cA iA oA cc ic oc)
theorem New_t {w : World} {M : Hp} {X : Fr} (d : Dg) {A : Option Addr} {c : Nat} (h : RdA cdCr (M.un X.h) A c d.crs) (S : SH w M X []) : Ct Tryd.prog 39 [.agg [.slice A d.crs.length c, .int .i64 d.loops].toArray] w M X (NewT d) := by
 refine (New_o d h S).mono ?_
 rintro e w' ⟨v, rfl, N, S1, ⟨hm, rfl, rfl⟩ | ⟨hm, g, vc, vi, vo, rfl, rfl, hv⟩⟩
 ·exact ⟨_, rfl, M, Hp.le_refl _, S1, .inl ⟨hm, rfl⟩⟩
 ·obtain ⟨hn, _⟩ := mayO hm
  have t1 := tabL_len d false (4 * d.crs.length)
  have t2 := tabL_len d true (4 * d.crs.length)
  clear hv
  obtain ⟨M1, l1, S2, ⟨cA, cc, rfl, r1⟩⟩ := S1.pubrow (i := 1) rfl rfl (by show _ * 40 ≤ _; omega)
  obtain ⟨M2, l2, S3, ⟨iA, ic, rfl, r2⟩⟩ := S2.pubrow (C := cdPl) (xs := tabL d false (4 * d.crs.length)) (i := 2) rfl rfl (by show _ * 16 ≤ _; omega)
  obtain ⟨M3, l3, S4, ⟨oA, oc, rfl, r3⟩⟩ := S3.pubrow (C := cdPl) (xs := tabL d true (4 * d.crs.length)) (i := 3) rfl rfl (by show _ * 16 ≤ _; omega)
  obtain ⟨M4, l4, S5, b⟩ := S4.pubBx (i := 0) rfl rfl
  exact ⟨_, rfl, M4, (l1.trans l2).trans (l3.trans l4), S5.pick [] [] (by decide) trivial, .inr ⟨hm, g, cA, iA, oA, cc, ic, oc, rfl, b, ((r1.mono l2).mono l3).mono l4, (r2.mono l3).mono l4, r3.mono l4⟩⟩
theorem sl28 : SlOf Tryd.prog 28 cdCr := ⟨.agg [.int .i64 0, .int .i64 0, .int .i64 0, .int .i64 0, .bool false].toArray, Tryd.underlying28, by kernel_rfl, rfl, by decide, by decide⟩
theorem sl35 : SlOf Tryd.prog 35 cdStr := ⟨.string ⟨#[]⟩, Tryd.underlying35, by kernel_rfl, rfl, by decide, by decide⟩
noncomputable def CMay_n0 : Code := Tryd.f22.body.getD .skip
noncomputable def CMay_n1 : Code := cL CMay_n0
noncomputable def CMay_n2 : Code := cR CMay_n0
noncomputable def CMay_n3 : Code := cL CMay_n2
noncomputable def CMay_n4 : Code := cR CMay_n2
noncomputable def CMay_n5 : Code := cL CMay_n4
noncomputable def CMay_n6 : Code := cR CMay_n4
set_option maxRecDepth 10000 in
theorem CMay_t {w : World} {M : Hp} {X : Fr} (d : Dg) {dcrsA : Option Addr} {dcrsc : Nat} (hdcrs : RdA cdCr (M.un X.h) dcrsA dcrsc d.crs) (S : SH w M X []) : Ct Tryd.prog 22 [.agg [.slice dcrsA d.crs.length dcrsc, .int .i64 d.loops].toArray] w M X (fun u _ => u = .bool (mayB d)) := by
 unfold Ct
 have rmhdcrs : d.crs.length * 40 ≤ 140737488355328 := hdcrs.room
 refine calls_in (b := CMay_n0) Tryd.func22 rfl Tryd.ntmps22 rfl (fun C hC => ?_)
 refine ws_sub [(0, _)] ⟨rfl, trivial⟩ ?_
 refine ws_seqN CMay_n1 CMay_n2 rfl rfl rfl ?_
 refine ws_region rfl ?_
 refine wlo 0 1 rfl rfl rfl (wo_box (l := [_, _]) rfl rfl rfl rfl rfl S ?_)
 intro gb1 w1 S1; clear S
 refine wla 1 2 rfl rfl rfl rfl rfl rfl rfl ?_
 refine wl_end rfl ?_
 refine nm_sub [(1, _)] ⟨rfl, trivial⟩ ?_
 refine nm_thn ?_
 refine ws_seqN CMay_n3 CMay_n4 rfl rfl rfl ?_
 refine ws_region rfl ?_
 refine wlo 0 1 rfl rfl rfl (wo_run rfl rfl (run_loadN (us := [_, _]) rfl rfl Tryd.underlying30 rfl sz30 (S1.boxcs (i := 0) rfl ⟨rfl, rfl, trivial⟩)) ?_)
 refine wlo 1 2 rfl rfl rfl (wo_ct rfl rfl rfl rfl rfl rfl rfl cf39 S1 (New_t d (hdcrs.mono S1.un_XH) S1.lend) ?_)
 intro vw2 w2 M1 hle1 S2 hRw2; clear S1
 replace hdcrs := hdcrs.mono (Hp.un_mono hle1 S2.mx)
 rcases hRw2 with ⟨hmay7, rfl⟩ | ⟨hmay7, g1, cA7, iA7, oA7, cc7, ic7, oc7, rfl, hsb7, hsc7, hsi7, hso7⟩
 ·refine wlm 2 3 rfl rfl rfl rfl rfl rfl rfl ?_
  refine wlo 3 4 rfl rfl rfl (wo_run rfl rfl (run_extract rfl rfl rfl) ?_)
  refine wlo 4 5 rfl rfl rfl (wo_run rfl rfl (run_extract rfl rfl rfl) ?_)
  refine wla 5 6 rfl rfl rfl rfl rfl rfl rfl ?_
  refine wla 6 7 rfl rfl rfl rfl rfl rfl rfl ?_
  refine wl_end rfl ?_
  refine nm_sub [(4, _)] ⟨rfl, trivial⟩ ?_
  refine nm_thn ?_
  refine ws_seqN CMay_n5 CMay_n6 rfl rfl rfl ?_
  refine ws_region rfl ?_
  refine wlm 0 1 rfl rfl rfl rfl rfl rfl rfl ?_
  refine wla 1 2 rfl rfl rfl rfl rfl rfl rfl ?_
  refine wl_end rfl ?_
  refine nm_sub [(2, _)] ⟨rfl, trivial⟩ ?_
  refine nm_thn ?_
  refine ws_ret hC [_] rfl rfl ⟨rfl, trivial⟩ ?_
  refine ⟨_, rfl, _, hle1, (S2.pick [] [] (by decide) trivial), ?_⟩
  exact congrArg Value.bool hmay7.symm
 ·obtain ⟨hn, hab, hlo0, hlo1⟩ := mayO hmay7
  refine wlm 2 3 rfl rfl rfl rfl rfl rfl rfl ?_
  refine wlo 3 4 rfl rfl rfl (wo_run rfl rfl (run_extract rfl rfl rfl) ?_)
  refine wlo 4 5 rfl rfl rfl (wo_run rfl rfl (run_extract rfl rfl rfl) ?_)
  refine wla 5 6 rfl rfl rfl rfl rfl rfl rfl ?_
  refine wla 6 7 rfl rfl rfl rfl rfl rfl rfl ?_
  refine wl_end rfl ?_
  refine nm_sub [(4, _)] ⟨rfl, trivial⟩ ?_
  refine nm_thn ?_
  refine ws_seqN CMay_n5 CMay_n6 rfl rfl rfl ?_
  refine ws_region rfl ?_
  refine wlm 0 1 rfl rfl rfl rfl rfl rfl rfl ?_
  refine wla 1 2 rfl rfl rfl rfl rfl rfl rfl ?_
  refine wl_end rfl ?_
  refine nm_sub [(2, _)] ⟨rfl, trivial⟩ ?_
  refine nm_thn ?_
  refine ws_ret hC [_] rfl rfl ⟨rfl, trivial⟩ ?_
  refine ⟨_, rfl, _, hle1, (S2.pick [] [] (by decide) trivial), ?_⟩
  exact congrArg Value.bool hmay7.symm
end Go.Proofs.YtklcecpjgingpaaDoor
namespace Go.Proofs.YtklcecpjgingpaaDoor
open Go.ChangeShapes Go.WideShapes Go.ChangeAt Go.RowKit
def TbW (N : Hp) (g : Nat) (l : List Value) : Prop := ∀ w : World, N.le (hp w) → ∀ o u, nth l o = some u → w.cell? ⟨g, o, none⟩ = some u
theorem TbW.mono {N N' : Hp} {g : Nat} {l : List Value} (h : TbW N g l) (k : N.le N') : TbW N' g l := fun w hw => h w (k.trans hw)
theorem TbW.cell {N : Hp} {w : World} {g : Nat} {l : List Value} (h : TbW N g l) (hN : N.le (hp w)) {o : Nat} {u : Value} (hu : nth l o = some u) : w.cell? ⟨g, o, none⟩ = some u := h w hN o u hu
theorem TbW.cells {N : Hp} {w : World} {g off : Nat} {l : List Value} (h : TbW N g l) (hN : N.le (hp w)) {us : List Value} (hp : piece l off us) : ∀ j u, us[j]? = some u → w.cell? ⟨g, off + j, none⟩ = some u :=
  fun j u hu => h.cell hN (piece_at hp j u hu)
theorem TbW.start {W : World} {g : Nat} {l : List Value} {T : TypeId} {q : Nat × Nat} (h : W.heap[g]? = some (.cells l.toArray T q)) : TbW (hp W) g l := fun w hw o u hu => by
  have h2 : w.heap[g]? = some (.cells l.toArray T q) := hw g _ h
  rw [cell_of_row w g o _ T q h2]
  rw [nth_eq] at hu
  simpa using hu
end Go.Proofs.YtklcecpjgingpaaDoor
namespace Go.Proofs.YtklcecpjgingpaaDoor
open Go.ChangeShapes Go.WideShapes Go.ChangeAt Go.RowKit
section
variable {P : Program} {o : Oper} {L : List (Nat × Value)} {w : World} {x y : Operand} {t t' src dst : TypeId} {a b : Int} {k k2 : IntKind}
theorem run_binK {bo : BinOp} {v : Value} (ho : o.op = .binOp bo t x y t') (hx : oev L x = some (.int k a)) (hy : oev L y = some (.int k2 b)) (h : ∀ w, (binOp bo t (.int k a) (.int k2 b)).run P w = .ok v w) : Run P o L w v w := by
  intro n c hc
  unfold execOp
  simp only [ho, hc.eval hx, hc.eval hy]
  have : ∀ w, (eqGuard bo t x y (.int k a) (.int k2 b)).run P w = .ok () w := by
    intro w
    unfold eqGuard
    split <;> simp
  simp [this, h]
theorem run_convI (ho : o.op = .convert src dst x) (hx : oev L x = some (.int k a)) (hs : ∃ d, P.underlying src = some d) (hd : P.underlying dst = some (.int k2)) : Run P o L w (.int k2 (k2.wrap a)) w := by
  intro n c he
  obtain ⟨d, hs⟩ := hs
  unfold execOp
  simp only [ho, he.eval hx, convert, Sem.run_bind, run_underlying hs, run_underlying hd, Result.andThen_ok, Conv.intToInt, Sem.run_pure]
end
end Go.Proofs.YtklcecpjgingpaaDoor
namespace Go.Proofs.YtklcecpjgingpaaDoor
open Go.ChangeShapes Go.WideShapes Go.ChangeAt Go.RowKit
section
variable {P : Program} {o : Oper} {L : List (Nat × Value)} {w w' : World} {x y z : Operand} {t t' T E src dst : TypeId} {v u : Value} {n d : Nat} {a b : List UInt8}
/-- s[i] -/
theorem run_indexS (i : Nat) (ho : o.op = .index T x y) (hx : oev L x = some (.string (sB a))) (hy : oev L y = some (.int .i64 (i : Int))) (hu : P.underlying T = some .string) (h : i < a.length) : Run P o L w (.int .u8 (((ga a i).toNat : Nat) : Int)) w := by
  intro n c he
  unfold execOp
  have hs : (i : Int).toNat < (sB a).size := by rw [sB_size]; omega
  have h1 := run_index_string (P := P) w T (sB a) .i64 (i : Int) hu
  rw [dif_pos ⟨by omega, by rw [sB_size]; omega⟩] at h1
  have h2 : (sB a)[(i : Int).toNat]'hs = ga a i := by
    show a.toArray[(i : Int).toNat]'_ = _
    rw [ga_eq h]
    simp
  rw [h2] at h1
  simp only [ho, he.eval hx, he.eval hy, Sem.run_bind, h1, Result.andThen_ok, Sem.run_pure]
theorem run_lenS {ca : Call} {xs : List Operand} {ts : List TypeId} (ho : o.op = .call ca) (hca : ca.callee = .builtin .len) (hxs : ca.args = xs.toArray) (hts : ca.argTypes = ts.toArray) (hx : oevs L xs = some [.string (sB a)]) (ht : nth ts 0 = some t) (hu : P.underlying t = some .string) : Run P o L w (.int .i64 (a.length : Int)) w := by
  intro n c hc
  rw [nth_eq] at ht
  have ht' : ts.toArray[0]? = some t := by simpa using ht
  unfold execOp
  simp only [ho, resolve, hca, hxs, hts, List.map_toArray, hc.evals hx, invoke, builtin, Builtin.len_, Sem.run_bind, Sem.run_pure, Result.andThen_ok, ht', List.getElem?_toArray, List.getElem?_cons_zero, run_underlying hu, goInt, sB_size]
theorem sB_drop (k : Nat) (a : List UInt8) : (sB a).extract k (sB a).size = sB (a.drop k) := by
  apply ByteArray.ext
  rw [ByteArray.data_extract, sB_size]
  show a.toArray.extract k a.length = (a.drop k).toArray
  apply Array.ext'
  simp
  exact List.take_of_length_le (by simp)
/-- s[k:] -/
theorem run_dropS (k : Nat) {lx : Operand} (hop : o.op = .slice T x (some lx) none none) (hx : oev L x = some (.string (sB a))) (hl : oev L lx = some (.int .i64 (k : Int))) (hu : P.underlying T = some .string) (h : k ≤ a.length) : Run P o L w (.string (sB (a.drop k))) w := by
  intro n c he
  have e1 : (0 : Int) ≤ (k : Int) ∧ (k : Int) ≤ ((sB a).size : Int) := by rw [sB_size]; omega
  unfold execOp
  simp only [hop, he.eval hx, he.eval hl, Instr.sliceAt, Instr.slice, Instr.sliceBounds, Instr.sliceBound, asIntOf, Option.map_none, Option.map_some, Sem.run_bind, Sem.run_pure, Result.andThen_ok, run_underlying hu, e1, and_self, if_true, Option.isSome_none, Bool.false_eq_true, if_false]
  rw [Int.toNat_natCast, sB_drop]
theorem run_neqD (ho : o.op = .binOp .neq t x y t') (hx : oev L x = some (.string (sB a))) (hy : oev L y = some (.string (sB b))) : Run P o L w (.bool (decide (¬ a = b))) w := by
  intro n c hc
  unfold execOp
  have h1 : ∀ w, (eqGuard .neq t x y (.string (sB a)) (.string (sB b))).run P w = .ok () w := by
    intro w; unfold eqGuard; simp
  have h2 : (!((sB a).toList == (sB b).toList)) = decide (¬ a = b) := by
    rw [ByteArray.toList_eq, ByteArray.toList_eq]
    show (!(a.toArray.toList == b.toArray.toList)) = _
    by_cases h : a = b
    · subst h; simp
    · simp [h]
  simp only [ho, hc.eval hx, hc.eval hy, h1, binOp, Op.stringOp, Sem.run_bind, Result.andThen_ok, Sem.run_pure, h2]
theorem u8_nat {p q : UInt8} : ((p.toNat : Nat) : Int) = ((q.toNat : Nat) : Int) ↔ p = q := ⟨fun h => UInt8.toNat_inj.1 (by omega), fun h => by rw [h]⟩
theorem run_eqlB {p q : UInt8} (ho : o.op = .binOp .eql t x y t') (hx : oev L x = some (.int .u8 ((p.toNat : Nat) : Int))) (hy : oev L y = some (.int .u8 ((q.toNat : Nat) : Int))) : Run P o L w (.bool (decide (p = q))) w := run_binK ho hx hy fun w => by
  have h2 : (((p.toNat : Nat) : Int) == ((q.toNat : Nat) : Int)) = decide (p = q) := by
    by_cases h : p = q
    · subst h; simp
    · have : ¬ ((p.toNat : Nat) : Int) = ((q.toNat : Nat) : Int) := fun e => h (u8_nat.1 e)
      simp only [beq_eq_false_iff_ne.2 this, decide_eq_false h]
  simp only [binOp, Op.intCmp, h2, ne_eq, not_true, if_false, Sem.run_pure]
theorem run_neqB {p q : UInt8} (ho : o.op = .binOp .neq t x y t') (hx : oev L x = some (.int .u8 ((p.toNat : Nat) : Int))) (hy : oev L y = some (.int .u8 ((q.toNat : Nat) : Int))) : Run P o L w (.bool (decide (¬ p = q))) w := run_binK ho hx hy fun w => by
  have h2 : (((p.toNat : Nat) : Int) != ((q.toNat : Nat) : Int)) = decide (¬ p = q) := by
    by_cases h : p = q
    · subst h; simp
    · have h3 : ¬ ((p.toNat : Nat) : Int) = ((q.toNat : Nat) : Int) := fun e => h (u8_nat.1 e)
      simp only [bne_iff_ne.2 h3, decide_eq_true (show ¬ p = q from h)]
  simp only [binOp, Op.intCmp, h2, ne_eq, not_true, if_false, Sem.run_pure]
theorem run_geqB {p q : Nat} (ho : o.op = .binOp .geq t x y t') (hx : oev L x = some (.int .u8 (p : Int))) (hy : oev L y = some (.int .u8 (q : Int))) : Run P o L w (.bool (decide (q ≤ p))) w := run_binK ho hx hy fun w => by simp [binOp, Op.intCmp]
theorem run_leqB {p q : Nat} (ho : o.op = .binOp .leq t x y t') (hx : oev L x = some (.int .u8 (p : Int))) (hy : oev L y = some (.int .u8 (q : Int))) : Run P o L w (.bool (decide (p ≤ q))) w := run_binK ho hx hy fun w => by simp [binOp, Op.intCmp]
theorem run_subB {p q : Nat} (ho : o.op = .binOp .sub t x y t') (hx : oev L x = some (.int .u8 (p : Int))) (hy : oev L y = some (.int .u8 (q : Int))) (h : q ≤ p ∧ p < 256) : Run P o L w (.int .u8 ((p - q : Nat) : Int)) w := run_binK ho hx hy fun w => by
  have e : IntKind.u8.wrap ((p : Int) - (q : Int)) = ((p - q : Nat) : Int) := by
    show ((p : Int) - (q : Int)) % 256 = _
    omega
  simp only [binOp, Op.intArith, e, ne_eq, not_true, if_false, Sem.run_pure]
theorem run_convU {s : Nat} (ho : o.op = .convert src dst x) (hx : oev L x = some (.int .u8 (s : Int))) (hs : ∃ d, P.underlying src = some d) (hd : P.underlying dst = some (.int .i64)) (h : s < 256) : Run P o L w (.int .i64 (s : Int)) w := by
  have h1 := run_convI (w := w) ho hx hs hd
  have e : IntKind.i64.wrap (s : Int) = (s : Int) := by rw [IntKind.wrap_i64]; omega
  rw [e] at h1
  exact h1
end
end Go.Proofs.YtklcecpjgingpaaDoor
namespace Go.Proofs.YtklcecpjgingpaaDoor
open Go.Shelf Go.ChangeShapes Go.WideShapes Go.ChangeAt Go.RowKit
def hpL_ren : Go.Shelf.Ren := ⟨fun | 99 => 11 | 206 => 26 | n => n, fun | 9 => 9 | 4 => 4 | 3 => 3 | n => n, fun | n => n⟩
theorem hpL : Go.Proofs.Lays.n99 Tryd.prog hpL_ren := {
  mixed := by kernel_rfl
  f99 := Tryd.func11.trans (congrArg some (by kernel_rfl))
  f206 := Tryd.func26.trans (congrArg some (by kernel_rfl))
  t3 := Tryd.underlying3
  a3 := Tryd.isAgg3
  z3 := Tryd.sizeOf3
  v3 := Tryd.zeroValue3
  t4 := Tryd.underlying4
  a4 := Tryd.isAgg4
  z4 := Tryd.sizeOf4
  v4 := Tryd.zeroValue4
  t9 := Tryd.underlying9
  a9 := Tryd.isAgg9
  z9 := Tryd.sizeOf9
  v9 := Tryd.zeroValue9 }
def splitL_ren : Go.Shelf.Ren := ⟨fun | 146 => 12 | 221 => 27 | 268 => 42 | 138 => 43 | 143 => 44 | 195 => 54 | 197 => 36 | 218 => 55 | 219 => 56 | 260 => 50 | 217 => 73 | 225 => 74 | 224 => 75 | 267 => 76 | 266 => 88 | 314 => 89 | n => n, fun | 9 => 9 | 31 => 35 | 3 => 3 | 4 => 4 | 0 => 0 | 105 => 67 | 21 => 21 | 5 => 5 | 46 => 95 | 119 => 94 | 139 => 98 | 138 => 97 | 146 => 130 | 51 => 129 | n => n, fun | 1 => 2 | 3 => 0 | 4 => 1 | n => n⟩
theorem splitL : Go.Proofs.Lays.n146 Tryd.prog splitL_ren := {
  mixed := by kernel_rfl
  f138 := Tryd.func43.trans (congrArg some (by kernel_rfl))
  f143 := Tryd.func44.trans (congrArg some (by kernel_rfl))
  f146 := Tryd.func12.trans (congrArg some (by kernel_rfl))
  f195 := Tryd.func54.trans (congrArg some (by kernel_rfl))
  f197 := Tryd.func36.trans (congrArg some (by kernel_rfl))
  f217 := Tryd.func73.trans (congrArg some (by kernel_rfl))
  f218 := Tryd.func55.trans (congrArg some (by kernel_rfl))
  f219 := Tryd.func56.trans (congrArg some (by kernel_rfl))
  f221 := Tryd.func27.trans (congrArg some (by kernel_rfl))
  f224 := Tryd.func75.trans (congrArg some (by kernel_rfl))
  f225 := Tryd.func74.trans (congrArg some (by kernel_rfl))
  f260 := Tryd.func50.trans (congrArg some (by kernel_rfl))
  f266 := Tryd.func88.trans (congrArg some (by kernel_rfl))
  f267 := Tryd.func76.trans (congrArg some (by kernel_rfl))
  f268 := Tryd.func42.trans (congrArg some (by kernel_rfl))
  f314 := Tryd.func89.trans (congrArg some (by kernel_rfl))
  t0 := Tryd.underlying0
  a0 := Tryd.isAgg0
  z0 := Tryd.sizeOf0
  v0 := Tryd.zeroValue0
  t3 := Tryd.underlying3
  a3 := Tryd.isAgg3
  z3 := Tryd.sizeOf3
  v3 := Tryd.zeroValue3
  t4 := Tryd.underlying4
  a4 := Tryd.isAgg4
  z4 := Tryd.sizeOf4
  v4 := Tryd.zeroValue4
  t5 := Tryd.underlying5
  a5 := Tryd.isAgg5
  z5 := Tryd.sizeOf5
  v5 := Tryd.zeroValue5
  t9 := Tryd.underlying9
  a9 := Tryd.isAgg9
  z9 := Tryd.sizeOf9
  v9 := Tryd.zeroValue9
  t21 := Tryd.underlying21
  a21 := Tryd.isAgg21
  z21 := Tryd.sizeOf21
  v21 := Tryd.zeroValue21
  t31 := Tryd.underlying35
  a31 := Tryd.isAgg35
  z31 := Tryd.sizeOf35
  v31 := Tryd.zeroValue35
  t46 := Tryd.underlying95
  a46 := Tryd.isAgg95
  z46 := Tryd.sizeOf95
  v46 := Tryd.zeroValue95
  t51 := Tryd.underlying129
  a51 := Tryd.isAgg129
  z51 := Tryd.sizeOf129
  v51 := Tryd.zeroValue129
  t105 := Tryd.underlying67
  a105 := Tryd.isAgg67
  z105 := Tryd.sizeOf67
  v105 := Tryd.zeroValue67
  t119 := Tryd.underlying94
  a119 := Tryd.isAgg94
  z119 := Tryd.sizeOf94
  t138 := Tryd.underlying97
  a138 := Tryd.isAgg97
  z138 := Tryd.sizeOf97
  v138 := Tryd.zeroValue97
  t139 := Tryd.underlying98
  a139 := Tryd.isAgg98
  z139 := Tryd.sizeOf98
  v139 := Tryd.zeroValue98
  t146 := Tryd.underlying130
  a146 := Tryd.isAgg130
  z146 := Tryd.sizeOf130
  v146 := Tryd.zeroValue130
  g1 := by kernel_rfl
  g3 := by kernel_rfl
  g4 := by kernel_rfl }
def atoiL_ren : Go.Shelf.Ren := ⟨fun | 172 => 29 | 244 => 46 | 245 => 47 | 247 => 57 | 279 => 58 | 280 => 59 | 281 => 60 | 282 => 61 | 287 => 77 | 316 => 78 | 171 => 31 | 205 => 79 | 321 => 90 | 322 => 91 | 243 => 49 | 246 => 62 | 283 => 80 | 284 => 81 | 285 => 82 | 286 => 83 | 129 => 93 | 317 => 92 | 318 => 94 | 319 => 95 | 320 => 96 | 337 => 99 | 338 => 100 | n => n, fun | 9 => 9 | 3 => 3 | 75 => 60 | 76 => 61 | 4 => 4 | 5 => 5 | 167 => 87 | 37 => 83 | 0 => 0 | 85 => 88 | 2 => 2 | 168 => 90 | 53 => 114 | 175 => 115 | 46 => 95 | 210 => 119 | 127 => 133 | 145 => 136 | 143 => 134 | 21 => 21 | 171 => 121 | 173 => 124 | 212 => 138 | 51 => 129 | 20 => 20 | 213 => 139 | 232 => 144 | 233 => 145 | 80 => 148 | n => n, fun | 15 => 3 | 16 => 4 | 17 => 5 | 18 => 6 | 19 => 7 | n => n⟩
theorem atoiL : Go.Proofs.LaysC.n172 Tryd.prog atoiL_ren := {
  mixed := by kernel_rfl
  f129 := Tryd.func93.trans (congrArg some (by kernel_rfl))
  f171 := Tryd.func31.trans (congrArg some (by kernel_rfl))
  f172 := Tryd.func29.trans (congrArg some (by kernel_rfl))
  f205 := Tryd.func79.trans (congrArg some (by kernel_rfl))
  f243 := Tryd.func49.trans (congrArg some (by kernel_rfl))
  f244 := Tryd.func46.trans (congrArg some (by kernel_rfl))
  f245 := Tryd.func47.trans (congrArg some (by kernel_rfl))
  f246 := Tryd.func62.trans (congrArg some (by kernel_rfl))
  f247 := Tryd.func57.trans (congrArg some (by kernel_rfl))
  f279 := Tryd.func58.trans (congrArg some (by kernel_rfl))
  f280 := Tryd.func59.trans (congrArg some (by kernel_rfl))
  f281 := Tryd.func60.trans (congrArg some (by kernel_rfl))
  f282 := Tryd.func61.trans (congrArg some (by kernel_rfl))
  f283 := Tryd.func80.trans (congrArg some (by kernel_rfl))
  f284 := Tryd.func81.trans (congrArg some (by kernel_rfl))
  f285 := Tryd.func82.trans (congrArg some (by kernel_rfl))
  f286 := Tryd.func83.trans (congrArg some (by kernel_rfl))
  f287 := Tryd.func77.trans (congrArg some (by kernel_rfl))
  f316 := Tryd.func78.trans (congrArg some (by kernel_rfl))
  f317 := Tryd.func92.trans (congrArg some (by kernel_rfl))
  f318 := Tryd.func94.trans (congrArg some (by kernel_rfl))
  f319 := Tryd.func95.trans (congrArg some (by kernel_rfl))
  f320 := Tryd.func96.trans (congrArg some (by kernel_rfl))
  f321 := Tryd.func90.trans (congrArg some (by kernel_rfl))
  f322 := Tryd.func91.trans (congrArg some (by kernel_rfl))
  f337 := Tryd.func99.trans (congrArg some (by kernel_rfl))
  f338 := Tryd.func100.trans (congrArg some (by kernel_rfl))
  t0 := Tryd.underlying0
  a0 := Tryd.isAgg0
  z0 := Tryd.sizeOf0
  v0 := Tryd.zeroValue0
  t2 := Tryd.underlying2
  a2 := Tryd.isAgg2
  z2 := Tryd.sizeOf2
  v2 := Tryd.zeroValue2
  t3 := Tryd.underlying3
  a3 := Tryd.isAgg3
  z3 := Tryd.sizeOf3
  v3 := Tryd.zeroValue3
  t4 := Tryd.underlying4
  a4 := Tryd.isAgg4
  z4 := Tryd.sizeOf4
  v4 := Tryd.zeroValue4
  t5 := Tryd.underlying5
  a5 := Tryd.isAgg5
  z5 := Tryd.sizeOf5
  v5 := Tryd.zeroValue5
  t9 := Tryd.underlying9
  a9 := Tryd.isAgg9
  z9 := Tryd.sizeOf9
  v9 := Tryd.zeroValue9
  t20 := Tryd.underlying20
  a20 := Tryd.isAgg20
  z20 := Tryd.sizeOf20
  v20 := Tryd.zeroValue20
  t21 := Tryd.underlying21
  a21 := Tryd.isAgg21
  z21 := Tryd.sizeOf21
  v21 := Tryd.zeroValue21
  t37 := Tryd.underlying83
  a37 := Tryd.isAgg83
  z37 := Tryd.sizeOf83
  v37 := Tryd.zeroValue83
  t46 := Tryd.underlying95
  a46 := Tryd.isAgg95
  z46 := Tryd.sizeOf95
  v46 := Tryd.zeroValue95
  t51 := Tryd.underlying129
  a51 := Tryd.isAgg129
  z51 := Tryd.sizeOf129
  v51 := Tryd.zeroValue129
  t53 := Tryd.underlying114
  a53 := Tryd.isAgg114
  z53 := Tryd.sizeOf114
  v53 := Tryd.zeroValue114
  t75 := Tryd.underlying60
  a75 := Tryd.isAgg60
  z75 := Tryd.sizeOf60
  v75 := Tryd.zeroValue60
  t76 := Tryd.underlying61
  a76 := Tryd.isAgg61
  z76 := Tryd.sizeOf61
  v76 := Tryd.zeroValue61
  t85 := Tryd.underlying88
  a85 := Tryd.isAgg88
  z85 := Tryd.sizeOf88
  v85 := Tryd.zeroValue88
  t127 := Tryd.underlying133
  a127 := Tryd.isAgg133
  z127 := Tryd.sizeOf133
  v127 := Tryd.zeroValue133
  t143 := Tryd.underlying134
  a143 := Tryd.isAgg134
  z143 := Tryd.sizeOf134
  v143 := Tryd.zeroValue134
  t145 := Tryd.underlying136
  a145 := Tryd.isAgg136
  z145 := Tryd.sizeOf136
  v145 := Tryd.zeroValue136
  t167 := Tryd.underlying87
  a167 := Tryd.isAgg87
  z167 := Tryd.sizeOf87
  v167 := Tryd.zeroValue87
  t168 := Tryd.underlying90
  a168 := Tryd.isAgg90
  z168 := Tryd.sizeOf90
  v168 := Tryd.zeroValue90
  t171 := Tryd.underlying121
  a171 := Tryd.isAgg121
  z171 := Tryd.sizeOf121
  v171 := Tryd.zeroValue121
  t173 := Tryd.underlying124
  a173 := Tryd.isAgg124
  z173 := Tryd.sizeOf124
  v173 := Tryd.zeroValue124
  t175 := Tryd.underlying115
  a175 := Tryd.isAgg115
  z175 := Tryd.sizeOf115
  v175 := Tryd.zeroValue115
  t210 := Tryd.underlying119
  a210 := Tryd.isAgg119
  z210 := Tryd.sizeOf119
  v210 := Tryd.zeroValue119
  t212 := Tryd.underlying138
  a212 := Tryd.isAgg138
  z212 := Tryd.sizeOf138
  v212 := Tryd.zeroValue138
  t213 := Tryd.underlying139
  a213 := Tryd.isAgg139
  z213 := Tryd.sizeOf139
  t232 := Tryd.underlying144
  a232 := Tryd.isAgg144
  z232 := Tryd.sizeOf144
  v232 := Tryd.zeroValue144
  t233 := Tryd.underlying145
  a233 := Tryd.isAgg145
  z233 := Tryd.sizeOf145
  v233 := Tryd.zeroValue145
  g15 := by kernel_rfl
  g16 := by kernel_rfl
  g17 := by kernel_rfl
  g18 := by kernel_rfl
  g19 := by kernel_rfl
  t80 := Tryd.underlying148
  a80 := Tryd.isAgg148
  z80 := Tryd.sizeOf148
  v80 := Tryd.zeroValue148
  i0 := by kernel_rfl
  i2 := by kernel_rfl
  i3 := by kernel_rfl
  i4 := by kernel_rfl
  i5 := by kernel_rfl
  i9 := by kernel_rfl
  i20 := by kernel_rfl
  i21 := by kernel_rfl
  i37 := by kernel_rfl
  i46 := by kernel_rfl
  i51 := by kernel_rfl
  i53 := by kernel_rfl
  i75 := by kernel_rfl
  i76 := by kernel_rfl
  i80 := by kernel_rfl
  i85 := by kernel_rfl
  i127 := by kernel_rfl
  i143 := by kernel_rfl
  i145 := by kernel_rfl
  i167 := by kernel_rfl
  i168 := by kernel_rfl
  i171 := by kernel_rfl
  i173 := by kernel_rfl
  i175 := by kernel_rfl
  i210 := by kernel_rfl
  i212 := by kernel_rfl
  i232 := by kernel_rfl
  i233 := by kernel_rfl
  m15 := by kernel_rfl
  m16 := by kernel_rfl
  m17 := by kernel_rfl
  m18 := by kernel_rfl
  m19 := by kernel_rfl
  c0 := by kernel_rfl
  c2 := by kernel_rfl
  c3 := by kernel_rfl
  c4 := by kernel_rfl
  c5 := by kernel_rfl
  c9 := by kernel_rfl
  c20 := by kernel_rfl
  c21 := by kernel_rfl
  c37 := by kernel_rfl
  c46 := by kernel_rfl
  c51 := by kernel_rfl
  c53 := by kernel_rfl
  c75 := by kernel_rfl
  c76 := by kernel_rfl
  c80 := by kernel_rfl
  c85 := by kernel_rfl
  c127 := by kernel_rfl
  c143 := by kernel_rfl
  c145 := by kernel_rfl
  c167 := by kernel_rfl
  c168 := by kernel_rfl
  c171 := by kernel_rfl
  c173 := by kernel_rfl
  c175 := by kernel_rfl
  c210 := by kernel_rfl
  c212 := by kernel_rfl
  c213 := by kernel_rfl
  c232 := by kernel_rfl
  c233 := by kernel_rfl }
/-- The table of powers of ten lies in a part of memory. -/
def TabU (N : Hp) : Prop := ∀ w : World, N.le (hp w) → Lib.TabIs Tryd.prog w "internal/strconv.uint64pow10" .u64 Lib.pow10Tab
theorem TabU.mono {N N' : Hp} (h : TabU N) (k : N.le N') : TabU N' := fun w hw => h w (k.trans hw)
theorem TabU.start {W : World} (h : Lib.TabIs Tryd.prog W "internal/strconv.uint64pow10" .u64 Lib.pow10Tab) : TabU (hp W) := fun w hw => by
  unfold Lib.TabIs World.var? at h ⊢
  cases hg : (Tryd.prog).globalNamed "internal/strconv.uint64pow10" with
  | none => rw [hg] at h; cases h
  | some g =>
    rw [hg] at h
    simp only [Option.bind_some] at h ⊢
    cases hb : W.heap[g]? with
    | none => rw [hb] at h; cases h
    | some ob =>
      have := hw g ob hb
      have h2 : w.heap[g]? = some ob := this
      rw [h2]
      rw [hb] at h
      exact h
/-- What the library's variables hold: a number, two errors. -/
structure LibOk (N : Hp) : Prop where
  ml : ∃ m : Int, TbW N 2 [.int .i64 m]
  es : ∃ te pe, TbW N 3 [.iface te pe]
  er : ∃ te pe, TbW N 4 [.iface te pe]
  tb : TabU N
theorem LibOk.mono {N N' : Hp} (h : LibOk N) (k : N.le N') : LibOk N' := ⟨h.ml.imp fun _ h => h.mono k, h.es.imp fun _ h => h.imp fun _ h => h.mono k, h.er.imp fun _ h => h.imp fun _ h => h.mono k, h.tb.mono k⟩
section
variable {w : World} {M : Hp} {X : Fr}
theorem sB_dt (a : List UInt8) : (sB a).data.toList = a := by simp [sB]
theorem hasP_q (s p : List UInt8) (S : SH w M X []) : Cq Tryd.prog 11 [.string (sB s), .string (sB p)] w M X (fun u => u = .bool (p.isPrefixOf s)) :=
  (Any.strings_HasPrefix hpL (sB s) (sB p) w).mono fun e w' ⟨he, hw⟩ => ⟨_, he, by rw [hw]; exact S, by rw [sB_dt, sB_dt]; rfl⟩
theorem splitB_sB (s p : List UInt8) : Lib.splitB (sB p) 0 (Lib.countB (sB s) (sB p)) (sB s) = (Lib.split s p).map sB := by
  have h := Lib.splitB_data (sB p) 0 (Lib.countB (sB s) (sB p)) (sB s)
  unfold Lib.countB at h ⊢
  rw [sB_dt, sB_dt] at h
  rw [sB_dt, sB_dt]
  unfold Lib.split
  rw [← h, List.map_map]
  conv => lhs; rw [← List.map_id (Lib.splitB _ _ _ _)]
  exact List.map_congr_left fun x _ => (sB_data x).symm
theorem split_t (s p : List UInt8) (hs : s.length < 4294967281) (hp1 : 1 ≤ p.length) (h : LibOk (M.un X.h)) (S : SH w M X []) : Ct Tryd.prog 12 [.string (sB s), .string (sB p)] w M X (fun u N => ∃ A c, u = .slice A (Lib.split s p).length c ∧ RdA cdStr N A c (Lib.split s p)) := by
  obtain ⟨m, hm⟩ := h.ml
  have hlen := Lib.splitB_all (sB p) (by rw [sB_size]; exact hp1) 0 _ (sB s) rfl
  have hle := Lib.countB_le (sB p) (by rw [sB_size]; exact hp1) (sB s).size (sB s) (Nat.le_refl _)
  rw [sB_size] at hle
  rw [splitB_sB, List.length_map] at hlen
  unfold Ct
  refine (Any.strings_Split splitL (by kernel_rfl) (sB s) (sB p) m w (by rw [sB_size]; exact hs) (hm w S.um 0 _ rfl) (by rw [sB_size]; exact hp1)).mono ?_
  rintro e w' ⟨he, hw⟩
  rw [splitB_sB] at hw
  have S1 := S.newbox cdStr.E (((Lib.split s p).map sB).map Value.string)
  have hg := S1.get (i := 0) rfl
  obtain ⟨h1, h2, h3⟩ := S1.pub (i := 0) (H' := [Rs.emp]) rfl rfl
  refine ⟨_, he, _, h1, ?_, some ⟨w.heap.size, 0, none⟩, Lib.countB (sB s) (sB p) + 1, ?_, ?_⟩
  · rw [hw]; exact h2.pick [] [] (by decide) trivial
  · rw [hlen]
  · refine ⟨by rw [hlen]; exact Nat.le_refl _, ?_, fun _ => ⟨rfl, (((Lib.split s p).map sB).map Value.string).toArray, cdStr.E, (0, 0), ?_, ?_⟩⟩
    · rw [hlen]; show _ * 16 ≤ _; omega
    · exact (h3 w.heap.size (by simp [Rs.box])).trans hg
    · intro j u hu
      rw [flatS] at hu
      show (((Lib.split s p).map sB).map Value.string).toArray[0 + j]? = some u
      rw [Nat.zero_add, List.getElem?_toArray, List.map_map]
      exact hu
end
end Go.Proofs.YtklcecpjgingpaaDoor
namespace Go.Proofs.YtklcecpjgingpaaDoor
open Go.ChangeShapes Go.WideShapes Go.ChangeAt Go.RowKit
structure Tm where
 e : Int
 c : Int
instance : Inhabited Tm := ⟨⟨0, 0⟩⟩
def tmF (t : Tm) : List Value := [.int .i64 t.e, .int .i64 t.c]
def cdTm : Cd Tm := ⟨tmF, 2, 16, 38, ⟨0, 0⟩, fun _ => rfl, by
 intro x u hu
 simp [tmF] at hu
 rcases hu with rfl | rfl <;> rfl⟩
/-- A list of terms that may be handed in. -/
def okT (a : List Tm) (i : Nat) : Prop := (-1000 ≤ (ga a i).e ∧ (ga a i).e ≤ 1000) ∧ (-1000000 ≤ (ga a i).c ∧ (ga a i).c ≤ 1000000) ∧ (ga a i).c ≠ 0 ∧ (0 < i → (ga a ((i : Int) - 1).toNat).e < (ga a i).e)
instance (a : List Tm) (i : Nat) : Decidable (okT a i) := by unfold okT; infer_instance
end Go.Proofs.YtklcecpjgingpaaDoor
namespace Go.Proofs.YtklcecpjgingpaaDoor
open Go.ChangeShapes Go.WideShapes Go.ChangeAt Go.RowKit
def allD (l : List UInt8) : Prop := ∀ c ∈ l, 48 ≤ c.toNat ∧ c.toNat ≤ 57
def valD (acc : Nat) : List UInt8 → Nat
 | [] => acc
 | c :: r => valD (10 * acc + (c.toNat - 48)) r
theorem valD_le (l : List UInt8) (n : Nat) : n ≤ valD n l := by
 induction l generalizing n with
 | nil => exact Nat.le_refl _
 | cons c l ih => have := ih (10 * n + (c.toNat - 48)); show n ≤ valD _ l; omega
theorem parse_dig {l : List UInt8} (h : allD l) : ∀ n, valD n l < 1000000000 → Lib.parseUint10 n l = .ok (valD n l) := by
 induction l with
 | nil => intro n _; rfl
 | cons c l ih =>
  intro n hn
  have hc := h c (List.mem_cons_self ..)
  have hl := valD_le l (10 * n + (c.toNat - 48))
  have hn' : valD (10 * n + (c.toNat - 48)) l < 1000000000 := hn
  unfold Lib.parseUint10
  rw [if_pos hc, if_neg (by omega), if_neg (by omega), Nat.mul_comm n 10]
  exact ih (fun x hx => h x (List.mem_cons_of_mem _ hx)) _ hn'
theorem idx1_hit {c : UInt8} : ∀ {u : List UInt8} (v : List UInt8), c ∉ u → Lib.index (u ++ c :: v) [c] = u.length
 | [], v, _ => by unfold Lib.index; simp
 | b :: u, v, h => by
  have hb : c ≠ b := fun e => h (by rw [e]; exact List.mem_cons_self ..)
  have ih := idx1_hit (u := u) v (fun hu => h (List.mem_cons_of_mem _ hu))
  show Lib.index (b :: (u ++ c :: v)) [c] = _
  unfold Lib.index
  have hp : [c].isPrefixOf (b :: (u ++ c :: v)) = false := by simp [List.isPrefixOf, hb]
  rw [hp, ih]
  have h2 : ((u.length : Int) == -1) = false := by rw [beq_eq_false_iff_ne]; omega
  rw [h2]
  simp
theorem idx1_miss {c : UInt8} : ∀ {u : List UInt8}, c ∉ u → Lib.index u [c] = -1
 | [], _ => by unfold Lib.index; simp
 | b :: u, h => by
  have hb : c ≠ b := fun e => h (by rw [e]; exact List.mem_cons_self ..)
  have ih := idx1_miss (u := u) (fun hu => h (List.mem_cons_of_mem _ hu))
  unfold Lib.index
  have hp : [c].isPrefixOf (b :: u) = false := by simp [List.isPrefixOf, hb]
  rw [hp, ih]
  simp
theorem ga_appR {α : Type} [Inhabited α] (a b : List α) (i : Nat) : ga (a ++ b) (a.length + i) = ga b i := by
 unfold ga
 rw [List.getD_eq_getElem?_getD, List.getD_eq_getElem?_getD, List.getElem?_append_right (by omega), Nat.add_sub_cancel_left]
end Go.Proofs.YtklcecpjgingpaaDoor
namespace Go.Proofs.YtklcecpjgingpaaDoor
open Go.ChangeShapes Go.WideShapes Go.ChangeAt Go.RowKit
def whA (s : List UInt8) : Nat → Nat → Nat → Nat × Nat
 | 0, i, n => (n, i)
 | f + 1, i, n => if i < s.length ∧ 48 ≤ (ga s i).toNat ∧ (ga s i).toNat ≤ 57 then whA s f (i + 1) (10 * n + ((ga s i).toNat - 48)) else (n, i)
theorem ga_mid {α : Type} [Inhabited α] (p : List α) (c : α) (r : List α) : ga (p ++ c :: r) p.length = c := by
 have := ga_appR p (c :: r) 0
 rw [Nat.add_zero] at this
 rw [this]; rfl
/-- What ends a number: nothing, or no digit. -/
def noD (r : List UInt8) : Prop := r = [] ∨ ∃ c q, r = c :: q ∧ (c.toNat < 48 ∨ 57 < c.toNat)
theorem whA_dig {d r : List UInt8} (hr : noD r) : ∀ (f : Nat) (p : List UInt8) (n : Nat), allD d → d.length ≤ f → whA (p ++ d ++ r) f p.length n = (valD n d, p.length + d.length) := by
 induction d with
 | nil =>
  intro f p n _ _
  rw [List.append_nil]
  cases f with
  | zero => rfl
  | succ f =>
   unfold whA
   rcases hr with rfl | ⟨c, q, rfl, hc⟩
   ·rw [if_neg (by rw [List.append_nil]; omega)]; rfl
   ·rw [if_neg (by rw [ga_mid]; omega)]; rfl
 | cons c d ih =>
  intro f p n hd hl
  cases f with
  | zero => simp at hl
  | succ f =>
   have hc := hd c (List.mem_cons_self ..)
   have e : p ++ (c :: d) ++ r = p ++ c :: (d ++ r) := by simp
   unfold whA
   rw [e, ga_mid, if_pos ⟨by rw [List.length_append, List.length_cons]; omega, hc⟩]
   have e2 : p ++ c :: (d ++ r) = (p ++ [c]) ++ d ++ r := by simp
   have h3 := ih f (p ++ [c]) (10 * n + (c.toNat - 48)) (fun x hx => hd x (List.mem_cons_of_mem _ hx)) (by simp at hl; omega)
   rw [e2, show p.length + 1 = (p ++ [c]).length by simp, h3]
   show (valD (10 * n + (c.toNat - 48)) d, (p ++ [c]).length + d.length) = (valD n (c :: d), p.length + (c :: d).length)
   simp only [List.length_append, List.length_cons, List.length_nil]
   congr 1
   omega
def isC (s : List UInt8) (k : Nat) (c : UInt8) : Prop := k < s.length ∧ ga s k = c
instance (s : List UInt8) (k : Nat) (c : UInt8) : Decidable (isC s k c) := by unfold isC; infer_instance
theorem ga_app2 {α : Type} [Inhabited α] (p q : List α) (j : Nat) {c : α} (h : ga q j = c) : ga (p ++ q) (p.length + j) = c := by rw [ga_appR, h]
end Go.Proofs.YtklcecpjgingpaaDoor
namespace Go.Proofs.YtklcecpjgingpaaDoor
open Go.ChangeShapes Go.WideShapes Go.ChangeAt Go.RowKit
theorem whA_stop {s : List UInt8} {f i n : Nat} (h : ¬ (i < s.length ∧ 48 ≤ (ga s i).toNat ∧ (ga s i).toNat ≤ 57)) : whA s f i n = (n, i) := by
 cases f with
 | zero => rfl
 | succ f => unfold whA; rw [if_neg h]
theorem whA_go {s : List UInt8} {f i n : Nat} (hf : 1 ≤ f) (h : i < s.length ∧ 48 ≤ (ga s i).toNat ∧ (ga s i).toNat ≤ 57) : whA s f i n = whA s (f - 1) (i + 1) (10 * n + ((ga s i).toNat - 48)) := by
 obtain ⟨g, rfl⟩ : ∃ g, f = g + 1 := ⟨f - 1, by omega⟩
 conv => lhs; unfold whA
 rw [if_pos h]; rfl
def TE (p : List Tm × Int) (u : Value) (N : Hp) : Prop := ∃ A c, u = .tuple [.slice A p.1.length c, .int .i64 p.2].toArray ∧ RdA cdTm N A c p.1
theorem TE.of {p q : List Tm × Int} {u : Value} {N : Hp} (h : TE p u N) (e : q = p) : TE q u N := by rw [e]; exact h
end Go.Proofs.YtklcecpjgingpaaDoor
