/- The reference's looks at a diagram: the arc at a place, whether a strand comes in, where an arc ends. -/
import Derived.Test.YtlbpgnimpcflaaaTyp
namespace Go.Proofs.Ytlbpgnimpcflaaa
open Go.ChangeShapes Go.WideShapes Go.ChangeAt Go.RowKit

def crArc (x : Cr) (k : Nat) : Int := if k = 0 then x.a else if k = 1 then x.b else if k = 2 then x.c else x.d
def crIn (x : Cr) (k : Nat) : Bool := decide (k = 0 ∨ k = 1 ∧ x.plus = false ∨ k = 3 ∧ x.plus = true)
def arcAt (d : Dg) (c k : Nat) : Int := crArc (ga d.crs c) k
def entryB (d : Dg) (c k : Nat) : Bool := crIn (ga d.crs c) k

def IntPost (n : Int) (w : World) (e : Ending) (w' : World) : Prop := e = .returned (.int .i64 n) ∧ Kp w w'
def BoPost (b : Bool) (w : World) (e : Ending) (w' : World) : Prop := e = .returned (.bool b) ∧ Kp w w'

set_option maxHeartbeats 1000000 in
theorem arcAt_any (v : Value) (d : Dg) (c k : Nat) (w : World) (hd : IsDg w w.heap.size v d) (hc : c < d.crs.length) (hk : k < 4) :
    Calls Try.prog 57 #[v, .agg #[.int .i64 c, .int .i64 k]] w (IntPost (arcAt d c k) w) := by
  obtain ⟨A, cap, rfl, hcap, hr⟩ := hd
  have hrm := hr.room
  obtain ⟨b, off, rfl, hb, c0, c1, c2, c3, c4⟩ := crAt hr hc
  have hkk : k = 0 ∨ k = 1 ∨ k = 2 ∨ k = 3 := by omega
  obtain ⟨l0, l1, l2, l3, l4⟩ := lts hb
  clear hr
  rcases hkk with rfl | rfl | rfl | rfl
  all_goals
    go_enter Try.func57, Try.ntmps57
    go_wp2_with fail
    go_ret
    exact ⟨rfl, (((Kp.refl _).alloc _).alloc _).alloc _⟩

set_option maxHeartbeats 2000000 in
theorem entry_any (v : Value) (d : Dg) (c k : Nat) (w : World) (hd : IsDg w w.heap.size v d) (hc : c < d.crs.length) (hk : k < 4) :
    Calls Try.prog 58 #[v, .agg #[.int .i64 c, .int .i64 k]] w (BoPost (entryB d c k) w) := by
  obtain ⟨A, cap, rfl, hcap, hr⟩ := hd
  have hrm := hr.room
  obtain ⟨b, off, rfl, hb, c0, c1, c2, c3, c4⟩ := crAt hr hc
  obtain ⟨l0, l1, l2, l3, l4⟩ := lts hb
  have hkk : k = 0 ∨ k = 1 ∨ k = 2 ∨ k = 3 := by omega
  clear hr c0 c1 c2 c3
  unfold entryB
  generalize ga d.crs c = x at *
  obtain ⟨xa, xb, xc, xd, xp⟩ := x
  dsimp only at c4
  rcases hkk with rfl | rfl | rfl | rfl
  all_goals
    cases xp
    all_goals
      go_enter Try.func58, Try.ntmps58
      go_wp2_with fail
      go_ret
      exact ⟨rfl, ((Kp.refl _).alloc _).alloc _⟩

/-- Is the place number j where the arc a comes in (or, back, goes out)? -/
def endP (d : Dg) (a : Int) (back : Bool) (j : Nat) : Bool := decide (arcAt d (j / 4) (j % 4) = a) && (entryB d (j / 4) (j % 4) != back)
def endOf (d : Dg) (a : Int) (back : Bool) : Nat × Nat :=
  match (List.range (4 * d.crs.length)).find? (endP d a back) with
  | some j => (j / 4, j % 4)
  | none => (0, 0)
theorem endOf_hit {d : Dg} {a : Int} {back : Bool} {j : Nat} (hj : j < 4 * d.crs.length) (h : endP d a back j = true) (h0 : ∀ i, i < j → endP d a back i = false) : endOf d a back = (j / 4, j % 4) := by
  have : (List.range (4 * d.crs.length)).find? (endP d a back) = some j := by
    rw [List.find?_range_eq_some]
    exact ⟨h, by simpa using hj, fun i hi => by simp [h0 i hi]⟩
  unfold endOf
  rw [this]
theorem endOf_miss {d : Dg} {a : Int} {back : Bool} (h0 : ∀ i, i < 4 * d.crs.length → endP d a back i = false) : endOf d a back = (0, 0) := by
  have : (List.range (4 * d.crs.length)).find? (endP d a back) = none := by
    rw [List.find?_eq_none]
    intro i hi
    simp [h0 i (by simpa using hi)]
  unfold endOf
  rw [this]
theorem endP_at {d : Dg} {a : Int} {back : Bool} {i k : Nat} (hk : k < 4) : endP d a back (4 * i + k) = (decide (arcAt d i k = a) && (entryB d i k != back)) := by
  unfold endP
  rw [show (4 * i + k) / 4 = i by omega, show (4 * i + k) % 4 = k by omega]

def spotV (s : Nat × Nat) : Value := .agg #[.int .i64 s.1, .int .i64 s.2]
def SpotPost (s : Nat × Nat) (w : World) (e : Ending) (w' : World) : Prop := e = .returned (spotV s) ∧ Kp w w'

set_option maxHeartbeats 2000000 in
theorem endOf_any (v : Value) (d : Dg) (a : Int) (back : Bool) (w : World) (hd : IsDg w w.heap.size v d) :
    Calls Try.prog 61 #[v, .int .i64 a, .bool back] w (SpotPost (endOf d a back) w) := by
  obtain ⟨A, cap, rfl, hcap, hr⟩ := hd
  have hrm : d.crs.length * 40 ≤ 140737488355328 := hr.room
  have hd : ∀ w', Kp w w' → IsDg w' w'.heap.size (.agg #[.slice A d.crs.length cap, .int .i64 d.loops]) d := fun w' hk => ⟨A, cap, rfl, hcap, hr.kp hk⟩
  have HD := Lib.hid hd
  clear hd hr
  go_enter Try.func61, Try.ntmps61
  go_wp2_with fail
  go_loopw [7] (fun i wr => ∃ n : Nat, n ≤ d.crs.length ∧ i = .int .i64 n ∧ Hid (∀ j, j < 4 * n → endP d a back j = false) ∧ Kp w wr ∧
    Blk wr w.heap.size 27 #[.slice A d.crs.length cap, .int .i64 d.loops] ∧ Blk wr (w.heap.size + 1) 88 #[.int .i64 0, .int .i64 0]) (fun i _ => d.crs.length - (intOf i).toNat)
  case atStart => exact ⟨0, Nat.zero_le _, rfl, fun j hj => by omega, ((Kp.refl _).alloc _).alloc _, (Blk.new _ _ _).alloc _, Blk.new' _ _ _ (by simp)⟩
  case round =>
    obtain ⟨n, hn, rfl, hno, hk, hB, hS⟩ := hrel
    obtain ⟨e0, e1, e2, e3⟩ := hB.two
    obtain ⟨f0, f1, g0, g1⟩ := hS.two
    by_cases hlt : n < d.crs.length
    · obtain ⟨wo, rfl⟩ : ∃ wo : World, wo = wr := ⟨_, rfl⟩
      go_wp2_with fail
      go_loopw [8] (fun i wr => ∃ m : Nat, m ≤ 4 ∧ i = .int .i64 m ∧ Hid (∀ j, j < 4 * n + m → endP d a back j = false) ∧ Kp w wr ∧
        Blk wr w.heap.size 27 #[.slice A d.crs.length cap, .int .i64 d.loops] ∧ Blk wr (w.heap.size + 1) 88 #[.int .i64 0, .int .i64 0]) (fun i _ => 4 - (intOf i).toNat)
      case atStart => exact ⟨0, Nat.zero_le _, rfl, hno.out, hk, hB, hS⟩
      case round =>
        clear e0 e1 e2 e3 f0 f1 g0 g1 hB hS hk hno
        obtain ⟨m, hm, rfl, hno, hk, hB, hS⟩ := hrel
        obtain ⟨e0, e1, e2, e3⟩ := hB.two
        obtain ⟨f0, f1, g0, g1⟩ := hS.two
        have hks := hk.size
        have s0 := lts hB.lt
        have s1 := lts hS.lt
        obtain ⟨s00, s01, s02, s03, s04⟩ := s0
        obtain ⟨s10, s11, s12, s13, s14⟩ := s1
        by_cases hm4 : m < 4
        · have hp := endP_at (d := d) (a := a) (back := back) (i := n) hm4
          by_cases ha : arcAt d n m = a
          · have t1 : ((arcAt d n m == a) : Bool) = true := by rw [beq_iff_eq]; exact ha
            by_cases he : entryB d n m = back
            · have t2 : ((entryB d n m == back) : Bool) = true := by rw [beq_iff_eq]; exact he
              have hno' : Hid (∀ j, j < 4 * n + (m + 1) → endP d a back j = false) := fun j hj => by
                rcases Nat.lt_or_ge j (4 * n + m) with h | h
                · exact hno.out j h
                · obtain rfl : j = 4 * n + m := by omega
                  rw [hp, he]; simp
              clear hp ha hno he
              go_wp2_with fail
              refine (arcAt_any _ d n m _ (HD.out _ (hk.alloc _)) hlt hm4).mono ?_; rintro e w1 ⟨rfl, hk1⟩
              obtain ⟨cc, cf⟩ := hk1.cf (n := wr.heap.size + 1) (by simp)
              go_wp2_with fail
              refine (entry_any _ d n m _ (HD.out _ ((hk.alloc _).trans hk1)) hlt hm4).mono ?_; rintro e w2 ⟨rfl, hk2⟩
              go_wp2_with fail
              go_roundw
              case rel => exact ⟨m + 1, by omega, by go_num, hno'.out, ((hk.alloc _).trans hk1).trans hk2, ((hB.alloc _).kp hk1).kp hk2, ((hS.alloc _).kp hk1).kp hk2⟩
              case measure => simp [intOf] <;> omega
            · have t2 : ((entryB d n m == back) : Bool) = false := by rw [beq_eq_false_iff_ne]; exact he
              have hE := Lib.hid (endOf_hit (d := d) (a := a) (back := back) (j := 4 * n + m) (by omega) (by rw [hp]; simp [ha, he]) hno.out)
              clear hp ha hno he
              go_wp2_with fail
              refine (arcAt_any _ d n m _ (HD.out _ (hk.alloc _)) hlt hm4).mono ?_; rintro e w1 ⟨rfl, hk1⟩
              obtain ⟨cc, cf⟩ := hk1.cf (n := wr.heap.size + 1) (by simp)
              go_wp2_with fail
              refine (entry_any _ d n m _ (HD.out _ ((hk.alloc _).trans hk1)) hlt hm4).mono ?_; rintro e w2 ⟨rfl, hk2⟩
              obtain ⟨c2, f2⟩ := (hk1.trans hk2).cf (n := wr.heap.size + 1) (by simp)
              clear cc cf
              have hq : (4 * n + m) / 4 = n ∧ (4 * n + m) % 4 = m := by omega
              have hE' : Hid (endOf d a back = (n, m)) := by rw [Hid, hE.out, hq.1, hq.2]
              clear hq hE
              go_wp2_with fail
              refine bodyPost_ret (v := spotV (n, m)) (by simp [results, Try.results61, go_sem, *]; rfl) rfl ?_
              exact ⟨by rw [hE'.out], ((((hk.alloc _).trans hk1).trans hk2).setCell (p := ⟨w.heap.size + 1, 0, none⟩) (by simp) _).setCell (p := ⟨w.heap.size + 1, 1, none⟩) (by simp) _⟩
          · have t1 : ((arcAt d n m == a) : Bool) = false := by rw [beq_eq_false_iff_ne]; exact ha
            have hno' : Hid (∀ j, j < 4 * n + (m + 1) → endP d a back j = false) := fun j hj => by
              rcases Nat.lt_or_ge j (4 * n + m) with h | h
              · exact hno.out j h
              · obtain rfl : j = 4 * n + m := by omega
                rw [hp]; simp [ha]
            clear hp ha hno
            go_wp2_with fail
            refine (arcAt_any _ d n m _ (HD.out _ (hk.alloc _)) hlt hm4).mono ?_; rintro e w1 ⟨rfl, hk1⟩
            go_wp2_with fail
            go_roundw
            case rel => exact ⟨m + 1, by omega, by go_num, hno'.out, (hk.alloc _).trans hk1, (hB.alloc _).kp hk1, (hS.alloc _).kp hk1⟩
            case measure => simp [intOf] <;> omega
        · obtain rfl : m = 4 := by omega
          go_wp2_with fail
          go_roundw
          case rel => exact ⟨n + 1, by omega, by go_num, fun j hj => hno.out j (by omega), hk, hB, hS⟩
          case measure => simp [intOf] <;> omega
    · obtain rfl : n = d.crs.length := by omega
      have hE := Lib.hid (endOf_miss hno.out)
      go_wp2_with fail
      refine bodyPost_ret (v := spotV (0, 0)) (by simp [results, Try.results61, go_sem, *]; rfl) rfl ?_
      exact ⟨by rw [hE.out], (hk.setCell (p := ⟨w.heap.size + 1, 0, none⟩) (by simp) _).setCell (p := ⟨w.heap.size + 1, 1, none⟩) (by simp) _⟩
end Go.Proofs.Ytlbpgnimpcflaaa
