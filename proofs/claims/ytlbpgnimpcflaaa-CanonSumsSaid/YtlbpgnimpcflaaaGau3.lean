/- Visits, sides and rows of ints that hold the same are told the same. -/
import Derived.Test.YtlbpgnimpcflaaaGau2
namespace Go.Proofs.Ytlbpgnimpcflaaa
open Go.ChangeShapes Go.WideShapes Go.ChangeAt Go.RowKit

set_option maxHeartbeats 1000000 in
theorem same_ints (u v : Value) (xs : List Int) (w : World) (hu : Ints w w.heap.size u xs) (hv : Ints w w.heap.size v xs) :
    Calls Try.prog 22 #[u, v] w (YesPost w) := by
  obtain ⟨A, c, rfl, hc, ha⟩ := hu
  obtain ⟨A', c', rfl, hc', ha'⟩ := hv
  have hr := ha.room
  go_enter Try.func22, Try.ntmps22
  go_wp2_with fail
  go_loopw [5] (fun i wr => ∃ k : Nat, k ≤ xs.length ∧ i = .int .i64 k ∧ Kp w wr) (fun i _ => xs.length - (intOf i).toNat)
  case atStart => exact ⟨0, Nat.zero_le _, rfl, Kp.refl _⟩
  case round =>
    obtain ⟨k, hk, rfl, hb⟩ := hrel
    by_cases hlt : k < xs.length
    · have g1 := ha.below hb.below
      have g2 := ha'.below hb.below
      obtain ⟨b, off, rfl, hb1, hc1⟩ := g1.at_ hlt
      obtain ⟨b', off', rfl, hb2, hc2⟩ := g2.at_ hlt
      clear ha ha' g1 g2
      go_wp2_with fail
      go_quiet (fail)
      go_wp2_with fail
      go_roundw
      case rel => exact ⟨k + 1, by omega, by go_num, hb.drewN _⟩
      case measure => simp [intOf]; omega
    · go_wp2_with fail
      go_ret
      exact ⟨rfl, hb⟩

theorem bAt {w : World} {B : Nat} {A : Option Addr} {xs : List Bool} (h : Rd codB w B A xs) {i : Nat} (hi : i < xs.length) : ∃ b off, A = some ⟨b, off, none⟩ ∧ b < B ∧ w.cell? ⟨b, off + i, none⟩ = some (.bool (ga xs i)) := by
  obtain ⟨b, off, e, hb, hc⟩ := h.at_ hi
  have := hc 0 (.bool (ga xs i)) (by decide) rfl
  exact ⟨b, off, e, hb, by simpa [codB] using this⟩
theorem viAt {w : World} {B : Nat} {A : Option Addr} {xs : List Vi} (h : Rd codVi w B A xs) {i : Nat} (hi : i < xs.length) : ∃ b off, A = some ⟨b, off, none⟩ ∧ b < B ∧ w.cell? ⟨b, off + i * 2, none⟩ = some (.int .i64 (ga xs i).c) ∧ w.cell? ⟨b, off + i * 2 + 1, none⟩ = some (.bool (ga xs i).o) := by
  obtain ⟨b, off, e, hb, hc⟩ := h.at_ hi
  have h0 := hc 0 _ (by decide) rfl
  have h1 := hc 1 _ (by decide) rfl
  exact ⟨b, off, e, hb, by simpa [codVi] using h0, by simpa [codVi, Nat.add_assoc] using h1⟩

set_option maxHeartbeats 1000000 in
theorem same_sides (u v : Value) (xs : List Bool) (w : World) (hu : Rv codB w w.heap.size u xs) (hv : Rv codB w w.heap.size v xs) :
    Calls Try.prog 25 #[u, v] w (YesPost w) := by
  obtain ⟨A, c, rfl, hc, ha⟩ := hu
  obtain ⟨A', c', rfl, hc', ha'⟩ := hv
  have hr : xs.length * 1 ≤ 140737488355328 := ha.room
  go_enter Try.func25, Try.ntmps25
  go_wp2_with fail
  go_loopw [5] (fun i wr => ∃ k : Nat, k ≤ xs.length ∧ i = .int .i64 k ∧ Kp w wr) (fun i _ => xs.length - (intOf i).toNat)
  case atStart => exact ⟨0, Nat.zero_le _, rfl, Kp.refl _⟩
  case round =>
    obtain ⟨k, hk, rfl, hb⟩ := hrel
    by_cases hlt : k < xs.length
    · obtain ⟨b, off, rfl, hb1, hc1⟩ := bAt (ha.kp hb) hlt
      obtain ⟨b', off', rfl, hb2, hc2⟩ := bAt (ha'.kp hb) hlt
      clear ha ha'
      generalize Go.Proofs.Ytlbpgnimpcflaaa.ga xs k = y at *
      go_wp2_with fail
      go_quiet (fail)
      go_wp2_with fail
      go_roundw
      case rel => exact ⟨k + 1, by omega, by go_num, hb.drewN _⟩
      case measure => simp [intOf]; omega
    · go_wp2_with fail
      go_ret
      exact ⟨rfl, hb⟩

set_option maxRecDepth 100000 in
set_option maxHeartbeats 4000000 in
theorem same_visits (u v : Value) (xss : List (List Vi)) (w : World) (hu : RvR codVi w w.heap.size u xss) (hv : RvR codVi w w.heap.size v xss) :
    Calls Try.prog 24 #[u, v] w (YesPost w) := by
  obtain ⟨vs, l1, ⟨A, c, rfl, hc, ha⟩, hin⟩ := hu
  obtain ⟨vs', l2, ⟨A', c', rfl, hc', ha'⟩, hin'⟩ := hv
  have hr : vs.length * 24 ≤ 140737488355328 := ha.room
  have ha := Lib.hid ha
  have ha' := Lib.hid ha'
  have l1' := Lib.hid l1
  have l2' := Lib.hid l2
  rw [l1] at hc hr ⊢
  rw [l2] at hc' ⊢
  clear l1 l2
  have hin := Lib.hid hin
  have hin' := Lib.hid hin'
  go_enter Try.func24, Try.ntmps24
  go_wp2_with fail
  go_loopw [5] (fun i wr => ∃ k : Nat, k ≤ xss.length ∧ i = .int .i64 k ∧ Kp w wr) (fun i _ => xss.length - (intOf i).toNat)
  case atStart => exact ⟨0, Nat.zero_le _, rfl, Kp.refl _⟩
  case round =>
    obtain ⟨k, hk, rfl, hb⟩ := hrel
    by_cases hlt : k < xss.length
    · obtain ⟨b, off, rfl, hb1, hc1⟩ := vAt (ha.out.kp hb) (i := k) (by rw [l1'.out]; exact hlt)
      obtain ⟨b', off', rfl, hb2, hc2⟩ := vAt (ha'.out.kp hb) (i := k) (by rw [l2'.out]; exact hlt)
      obtain ⟨A3, c3, e3, hc3, hr3⟩ := hin.out k hlt
      obtain ⟨A4, c4, e4, hc4, hr4⟩ := hin'.out k hlt
      rw [e3] at hc1
      rw [e4] at hc2
      generalize Go.Proofs.Ytlbpgnimpcflaaa.ga xss k = r at *
      clear e3 e4
      have hr3 := Lib.hid (hr3.kp hb)
      have hr4 := Lib.hid (hr4.kp hb)
      have hrr : r.length * 16 ≤ 140737488355328 := hr3.out.room
      obtain ⟨wo, rfl⟩ : ∃ wo : World, wo = wr := ⟨_, rfl⟩
      go_wp2_with fail
      go_quiet (fail)
      go_wp2_with fail
      go_loopw [6] (fun i wr => ∃ m : Nat, m ≤ r.length ∧ i = .int .i64 m ∧ Kp wo wr) (fun i _ => r.length - (intOf i).toNat)
      case atStart => exact ⟨0, Nat.zero_le _, rfl, (Kp.refl _).drewN _⟩
      case round =>
        obtain ⟨m, hm, rfl, hb3⟩ := hrel
        have hz := hb3.size
        have hc1' := hb3.c hc1
        have hc2' := hb3.c hc2
        by_cases hlt2 : m < r.length
        · obtain ⟨b3, off3, rfl, hb5, g1, g2⟩ := viAt (hr3.out.kp hb3) hlt2
          obtain ⟨b4, off4, rfl, hb6, g3, g4⟩ := viAt (hr4.out.kp hb3) hlt2
          generalize Go.Proofs.Ytlbpgnimpcflaaa.ga r m = y at *
          obtain ⟨y1, y2⟩ := y
          dsimp only at *
          go_wp2_with fail
          go_quiet (fail)
          go_wp2_with fail
          go_roundw
          case rel => exact ⟨m + 1, by omega, by go_num, hb3.drewN _⟩
          case measure => simp [intOf]; omega
        · obtain rfl : m = r.length := by omega
          go_wp2_with fail
          go_roundw
          case rel => exact ⟨k + 1, by omega, by go_num, hb.trans hb3⟩
          case measure => simp [intOf]; omega
    · go_wp2_with fail
      go_ret
      exact ⟨rfl, hb⟩
end Go.Proofs.Ytlbpgnimpcflaaa
