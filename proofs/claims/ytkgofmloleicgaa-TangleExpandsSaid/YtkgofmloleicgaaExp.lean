/- Expanding a fraction: the walks of the program's and of the reference's. -/
import Derived.Test.YtkgofmloleicgaaFr2
namespace Go.Proofs.Ytkgofmloleicgaa
open Go.ChangeShapes Go.WideShapes Go.ChangeAt Go.RowKit

/-- What is whole of a fraction, again and again. -/
def cf (p q : Nat) : List Int := if _h : q = 0 then [] else ((p : Int) / (q : Int)) :: cf q (p % q)
termination_by q
decreasing_by exact Nat.mod_lt _ (by omega)

theorem cf_zero (p : Nat) : cf p 0 = [] := by rw [cf]; simp
theorem cf_succ (p q : Nat) (h : 0 < q) : cf p q = ((p : Int) / (q : Int)) :: cf q (p % q) := by
  rw [cf]; simp [show ¬ q = 0 by omega]
theorem cf_len (p q : Nat) : (cf p q).length ≤ q := by
  induction q using Nat.strongRecOn generalizing p with
  | _ q ih =>
    rcases Nat.eq_zero_or_pos q with h | h
    · subst h; rw [cf_zero]; simp
    · rw [cf_succ p q h, List.length_cons]
      have := ih (p % q) (Nat.mod_lt _ h) q
      have := Nat.mod_lt p h
      omega

def adjL (l : List Int) : List Int := if l.length % 2 = 0 then l.set (l.length - 1) (gi l (l.length - 1) - 1) ++ [1] else l
def expL (p q : Nat) : List Int := (adjL (cf p q)).reverse

def NonePost (w : World) (e : Ending) (w' : World) : Prop := e = .returned (.tuple #[.slice none 0 0, .int .i64 3]) ∧ Kp w w'
def ListPost (l : List Int) (w : World) (e : Ending) (w' : World) : Prop := ∃ v, e = .returned (.tuple #[v, .int .i64 0]) ∧ Ints w' w'.heap.size v l ∧ Kp w w'
def IntsPost (l : List Int) (w : World) (e : Ending) (w' : World) : Prop := ∃ v, e = .returned v ∧ Ints w' w'.heap.size v l ∧ Kp w w'

set_option maxHeartbeats 1000000 in
theorem expand_no (p q : Int) (w : World) (h : lowB p q = false) : Calls Try.prog 10 #[.int .i64 p, .int .i64 q] w (NonePost w) := by
  have H := Lib.hid h
  clear h
  go_enter Try.func10, Try.ntmps10
  go_wp2_with fail
  refine (right_any _ _ _).mono ?_; rintro e w' ⟨rfl, hb⟩; rw [H.out]
  go_wp2_with fail
  go_ret2
  exact ⟨rfl, hb⟩

/-- 'slices.Reverse' of a row of the call's own. -/
def RevPost (base : Nat) (v : Value) (xs : List Int) (w : World) (e : Ending) (w' : World) : Prop := e = .returned (.tuple #[]) ∧ OwnI w' base v xs.reverse ∧ Gr w w' v.ownBlock

/-- After k exchanges. -/
def Rev (xs : List Int) (k : Nat) (ys : List Int) : Prop :=
  ys.length = xs.length ∧ ∀ m, m < xs.length → gi ys m = if m < k ∨ xs.length - k ≤ m then gi xs (xs.length - 1 - m) else gi xs m
theorem Rev.start (xs : List Int) : Rev xs 0 xs := ⟨rfl, fun m hm => by rw [if_neg (by omega)]⟩
theorem Rev.stop {xs ys : List Int} {k : Nat} (h : Rev xs k ys) (hk : xs.length ≤ 2 * k + 1) : ys = xs.reverse := by
  refine gi_ext (by rw [h.1, List.length_reverse]) fun i hi => ?_
  rw [h.1] at hi
  rw [h.2 i hi, gi_rev xs i hi]
  split
  · rfl
  · rw [show xs.length - 1 - i = i by omega]
theorem Rev.step {xs ys : List Int} {k : Nat} (h : Rev xs k ys) (hk : 2 * k + 1 < xs.length) : Rev xs (k + 1) ((ys.set k (gi ys (xs.length - 1 - k))).set (xs.length - 1 - k) (gi ys k)) := by
  refine ⟨by rw [List.length_set, List.length_set, h.1], fun m hm => ?_⟩
  have hl := h.1
  rw [gi_set _ _ _ _ (by rw [List.length_set]; omega), gi_set _ _ _ _ (by omega)]
  have e1 := h.2 k (by omega)
  have e2 := h.2 (xs.length - 1 - k) (by omega)
  rw [if_neg (by omega)] at e1 e2
  by_cases h1 : xs.length - 1 - k = m
  · subst h1
    rw [if_pos rfl, if_pos (by omega), e1, show xs.length - 1 - (xs.length - 1 - k) = k by omega]
  · rw [if_neg h1]
    by_cases h2 : k = m
    · subst h2
      rw [if_pos rfl, if_pos (by omega), e2]
    · rw [if_neg h2, h.2 m hm]
      by_cases h3 : m < k ∨ xs.length - k ≤ m
      · rw [if_pos h3, if_pos (by omega)]
      · rw [if_neg h3, if_neg (by omega)]

set_option maxHeartbeats 1000000 in
theorem reverse_any (v : Value) (xs : List Int) (base : Nat) (w : World) (hown : OwnI w base v xs) (hlen : xs.length ≤ 100000) :
    Calls Try.prog 22 #[v] w (RevPost base v xs w) := by
  obtain ⟨A, c, rfl, hc⟩ := hown.sl
  go_enter Try.func22, Try.ntmps22
  go_wp2
  go_loopw [2, 3] (fun i j wr => ∃ (k : Nat) (ys : List Int), 2 * k ≤ xs.length ∧ i = .int .i64 k ∧ j = .int .i64 ((xs.length : Int) - 1 - k) ∧ Rev xs k ys ∧ OwnI wr base (.slice A xs.length c) ys ∧ Gr w wr (Value.slice A xs.length c).ownBlock) (fun _ j _ => (intOf j).toNat)
  case atStart => exact ⟨0, xs, by omega, rfl, by simp, Rev.start xs, hown, gr_refl _ _⟩
  case round =>
    obtain ⟨k, ys, hk, rfl, rfl, hR, ho, hg⟩ := hrel
    by_cases hlt : 2 * k + 1 < xs.length
    · have hl := Lib.hid hR.1
      obtain ⟨g, cap, he, hg1, hg2, hcap⟩ := ho.form (by rw [hl.out]; omega)
      injection he with he1 he2 he3
      subst he1
      subst he3
      have ci : wr.cell? ⟨g, k, none⟩ = some (.int .i64 (gi ys k)) := ho.cell (by rw [hl.out]; omega)
      have cj : wr.cell? ⟨g, xs.length - 1 - k, none⟩ = some (.int .i64 (gi ys (xs.length - 1 - k))) := ho.cell (by rw [hl.out]; omega)
      have fi := ho.free k
      have fj := ho.free (xs.length - 1 - k)
      have hRs := Lib.hid (hR.step hlt)
      clear hR he2
      go_wp2
      go_region
      go_wp2
      go_roundw
      case rel =>
        have o3 := (ho.set_ k (gi ys (xs.length - 1 - k))).set_ (xs.length - 1 - k) (gi ys k)
        exact ⟨k + 1, _, by omega, by go_num, by go_num, hRs.out, o3, gr_drew (gr_setCell (gr_setCell hg _ _) _ _)⟩
      case measure => simp [intOf] <;> omega
    · have hRs := Lib.hid (hR.stop (by omega))
      clear hR
      go_wp2
      go_end0
      exact ⟨rfl, by rw [← hRs.out]; exact ho, hg⟩

theorem cf_div (x y : Nat) : (x : Int) / (y : Int) = ((x / y : Nat) : Int) := rfl

theorem adj_even {l : List Int} (h : l.length % 2 = 0) : adjL l = l.set (l.length - 1) (gi l (l.length - 1) - 1) ++ [1] := by unfold adjL; rw [if_pos h]
theorem adj_odd {l : List Int} (h : ¬ l.length % 2 = 0) : adjL l = l := by unfold adjL; rw [if_neg h]

theorem gi_cf (p q : Nat) (i : Nat) (hp : p ≤ 1000) (hq : q ≤ 1000) : 0 ≤ gi (cf p q) i ∧ gi (cf p q) i ≤ 1000 := by
  induction q using Nat.strongRecOn generalizing p i with
  | _ q ih =>
    rcases Nat.eq_zero_or_pos q with h | h
    · subst h; rw [cf_zero]; simp [gi]
    · rw [cf_succ p q h]
      cases i with
      | zero =>
        have : gi ((p : Int) / (q : Int) :: cf q (p % q)) 0 = ((p / q : Nat) : Int) := rfl
        rw [this]
        have := Nat.div_le_self p q
        exact ⟨Int.natCast_nonneg _, by omega⟩
      | succ i =>
        have : gi ((p : Int) / (q : Int) :: cf q (p % q)) (i + 1) = gi (cf q (p % q)) i := rfl
        rw [this]
        have := Nat.mod_lt p h
        exact ih (p % q) this q i hq (by omega)

set_option maxHeartbeats 2000000 in
theorem expand_yes (p q : Nat) (w : World) (h : lowB p q = true) (h1 : 1 ≤ q) (h2 : p ≤ 1000) (h3 : q ≤ 1000) :
    Calls Try.prog 10 #[.int .i64 p, .int .i64 q] w (ListPost (expL p q) w) := by
  have H := Lib.hid h
  clear h
  go_enter Try.func10, Try.ntmps10
  go_wp2_with fail
  refine (right_any _ _ _).mono ?_; rintro e w' ⟨rfl, hb⟩; rw [H.out]
  go_wp2_with fail
  go_loopw [0, 1, 6] (fun u v l wr => ∃ (x y : Nat) (acc : List Int), x ≤ 1000 ∧ y ≤ 1000 ∧ u = .int .i64 x ∧ v = .int .i64 y ∧ Hid (acc ++ cf x y = cf p q) ∧ acc.length + y ≤ 1000 ∧ OwnI wr w.heap.size l acc ∧ Kp w wr) (fun _ v _ _ => (intOf v).toNat)
  case atStart => exact ⟨p, q, [], h2, h3, rfl, rfl, rfl, by simpa using h3, OwnI.nil_, hb⟩
  case round =>
    obtain ⟨x, y, acc, hx, hy, rfl, rfl, hc, hl, ho, hk⟩ := hrel
    by_cases hy0 : y = 0
    · subst hy0
      have hc' : acc = cf p q := by have := hc.out; rwa [cf_zero, List.append_nil] at this
      have hpos : 0 < acc.length := by rw [hc', cf_succ p q h1]; simp
      have hgi := gi_cf p q (acc.length - 1) h2 h3
      rw [← hc'] at hgi
      obtain ⟨g, cap, rfl, hg1, hg2, hcap⟩ := ho.form hpos
      have hE : Hid (expL p q = (adjL acc).reverse) := by rw [hc']; rfl
      clear hc hc'
      by_cases hpar : acc.length % 2 = 0
      · have e1 : (((((acc.length : Int) - 1) % 2) == 1) : Bool) = true := by rw [beq_iff_eq]; omega
        have hadj := Lib.hid (adj_even hpar)
        clear hpar
        have ci := ho.cell (i := acc.length - 1) (by omega)
        have fi := ho.free (acc.length - 1)
        have ho2 := ho.set_ (acc.length - 1) (gi acc (acc.length - 1) - 1)
        generalize hz : gi acc (acc.length - 1) = z at *
        have hz := Lib.hid hz
        have hks := hk.size
        go_wp2_with (first | (at_builtin; refine push_int rfl _ _ rfl ho2 rfl rfl (by simp) (by rw [List.length_set]; omega) (by simp; omega) ?_; intro v' w1 ho3 hg3 _) | (go_at_call 22; refine (reverse_any _ _ _ _ ho3 (by rw [List.length_append, List.length_set]; simp; omega)).mono ?_; rintro e w2 ⟨rfl, ho4, hg4⟩))
        go_ret2
        have hkp : Kp w w2 := ((hk.setCell (p := ⟨g, acc.length - 1, none⟩) hg1 (.int .i64 (z - 1))).ownI ho2 hg3 (Nat.le_refl _)).ownI ho3 hg4 (Nat.le_refl _)
        have hi := ho4.ints (by rw [List.length_reverse, List.length_append, List.length_set]; simp; omega)
        rw [← hadj.out, ← hE.out] at hi
        exact ⟨v', rfl, hi, hkp⟩
      · have e1 : (((((acc.length : Int) - 1) % 2) == 1) : Bool) = false := by rw [beq_eq_false_iff_ne]; omega
        have hadj := Lib.hid (adj_odd hpar)
        clear hpar
        go_wp2_with (go_at_call 22; refine (reverse_any _ _ _ _ ho (by omega)).mono ?_; rintro e w2 ⟨rfl, ho4, hg4⟩)
        go_ret2
        have hi := ho4.ints (by rw [List.length_reverse]; omega)
        rw [show acc.reverse = expL p q by rw [hE.out, hadj.out]] at hi
        exact ⟨_, rfl, hi, hk.ownI ho hg4 (Nat.le_refl _)⟩
    · have hpos : 0 < y := by omega
      have hlt : x % y < y := Nat.mod_lt _ hpos
      have hks := hk.size
      have hc' : Hid ((acc ++ [(x : Int) / (y : Int)]) ++ cf y (x % y) = cf p q) := by
        have := hc.out
        rw [cf_succ x y hpos] at this
        simpa [Hid] using this
      clear hc
      have d0 : 0 ≤ (x : Int) / (y : Int) := Int.natCast_nonneg (x / y)
      have d1 : (x : Int) / (y : Int) ≤ 1000 := by have := Nat.div_le_self x y; show ((x / y : Nat) : Int) ≤ 1000; omega
      go_wp2_with (at_builtin; refine push_int rfl _ _ rfl ho rfl rfl (by simp) (by omega) (by omega) ?_; intro v' w1 ho3 hg3 _)
      go_quiet (fail)
      go_wp2
      go_roundw
      case rel =>
        exact ⟨y, x % y, _, hy, by omega, rfl, by simp, hc'.out, by rw [List.length_append]; simp; omega, ho3.drewN _, (hk.ownI ho hg3 (Nat.le_refl _)).drewN _⟩
      case measure => simp [intOf] <;> omega

theorem rev_take (l : List Int) (k : Nat) (h : k < l.length) : l.reverse.take (l.length - 1 - k) ++ [gi l k] = l.reverse.take (l.length - k) := by
  rw [show l.length - k = (l.length - 1 - k) + 1 by omega, take_gi _ _ (by rw [List.length_reverse]; omega), gi_rev _ _ (by omega), show l.length - 1 - (l.length - 1 - k) = k by omega]

set_option maxHeartbeats 2000000 in
theorem expandRef (p q : Nat) (w : World) (h1 : 1 ≤ q) (h2 : p ≤ 1000) (h3 : q ≤ 1000) :
    Calls Try.prog 12 #[.int .i64 p, .int .i64 q] w (IntsPost (expL p q) w) := by
  go_enter Try.func12, Try.ntmps12
  go_wp2_with fail
  go_loopw [0, 1, 5] (fun u v l wr => ∃ (x y : Nat) (acc : List Int), x ≤ 1000 ∧ y ≤ 1000 ∧ u = .int .i64 x ∧ v = .int .i64 y ∧ Hid (acc ++ cf x y = cf p q) ∧ acc.length + y ≤ 1000 ∧ OwnI wr w.heap.size l acc ∧ Kp w wr) (fun _ v _ _ => (intOf v).toNat)
  case atStart => exact ⟨p, q, [], h2, h3, rfl, rfl, rfl, by simpa using h3, OwnI.nil_, Kp.refl _⟩
  case round =>
    obtain ⟨x, y, acc, hx, hy, rfl, rfl, hc, hl, ho, hk⟩ := hrel
    by_cases hy0 : y = 0
    · subst hy0
      rw [show ((0 : Nat) : Int) = (0 : Int) from rfl]
      have hc' : acc = cf p q := by have := hc.out; rwa [cf_zero, List.append_nil] at this
      have hpos : 0 < acc.length := by rw [hc', cf_succ p q h1]; simp
      have hgi := gi_cf p q (acc.length - 1) h2 h3
      rw [← hc'] at hgi
      have hE : Hid (expL p q = (adjL acc).reverse) := by rw [hc']; rfl
      clear hc hc'
      have hks := hk.size
      obtain ⟨A, c, rfl, hcc⟩ := ho.sl
      go_upto_if 25 with (fail)
      go_cut [5] (fun v wx => ∃ l : List Int, Hid (expL p q = l.reverse) ∧ 0 < l.length ∧ l.length ≤ 1001 ∧ OwnI wx w.heap.size v l ∧ Kp w wx)
      case first =>
        by_cases hpar : acc.length % 2 = 0
        · have e1 : ((((acc.length : Int) % 2) == 0) : Bool) = true := by rw [beq_iff_eq]; omega
          obtain ⟨g, cap, he, hg1, hg2, hcap⟩ := ho.form hpos
          injection he with he1 he2 he3
          subst he1
          subst he3
          clear he2
          have hadj := Lib.hid (adj_even hpar)
          clear hpar
          have ci := ho.cell (i := acc.length - 1) (by omega)
          have fi := ho.free (acc.length - 1)
          have ho2 := ho.set_ (acc.length - 1) (gi acc (acc.length - 1) - 1)
          generalize hz : gi acc (acc.length - 1) = z at *
          have hz := Lib.hid hz
          go_wp2_with (at_builtin; refine push_int rfl _ _ rfl ho2 rfl rfl (by simp) (by rw [List.length_set]; omega) (by simp; omega) ?_; intro v' w1 ho3 hg3 _)
          go_meet
          case rel => exact ⟨_, by rw [Hid, hE.out, hadj.out], by simp, by simp; omega, ho3, (hk.setCell (p := ⟨g, acc.length - 1, none⟩) hg1 (.int .i64 (z - 1))).ownI ho2 hg3 (Nat.le_refl _)⟩
        · have e1 : ((((acc.length : Int) % 2) == 0) : Bool) = false := by rw [beq_eq_false_iff_ne]; omega
          have hadj := Lib.hid (adj_odd hpar)
          clear hpar
          go_wp2_with fail
          go_meet
          case rel => exact ⟨_, by rw [Hid, hE.out, hadj.out], by omega, by omega, ho, hk⟩
      case rest =>
        obtain ⟨l, hl1, hl2, hl3, ho3, hk3⟩ := hcut
        obtain ⟨A2, c2, rfl, hcc2⟩ := ho3.sl
        have hk3s := hk3.size
        go_wp2_with fail
        go_loopw [7, 8] (fun o i wr => ∃ (n : Nat) (out : List Int), n ≤ l.length ∧ i = .int .i64 ((n : Int) - 1) ∧ Hid (out = l.reverse.take (l.length - n)) ∧ out.length + n ≤ 1001 ∧ OwnI wr wc.heap.size o out ∧ Kp wc wr) (fun _ i _ => (intOf i + 1).toNat)
        case atStart => exact ⟨l.length, [], Nat.le_refl _, rfl, by simp [Hid], by simpa using hl3, OwnI.nil_, Kp.refl _⟩
        case round =>
          obtain ⟨n, out, hn, rfl, hout, hlen, hoo, hkk⟩ := hrel
          by_cases hn0 : n = 0
          · subst hn0
            go_wp2_with fail
            go_ret
            have hi := hoo.ints (by omega)
            rw [show out = expL p q by rw [hout.out, hl1.out, Nat.sub_zero, List.take_of_length_le (by simp)]] at hi
            exact ⟨_, rfl, hi, hk3.trans hkk⟩
          · obtain ⟨m, rfl⟩ : ∃ m, n = m + 1 := ⟨n - 1, by omega⟩
            have hkks := hkk.size
            have ho3' := ho3.kp hkk
            obtain ⟨g, cap, he, hg1, hg2, hcap⟩ := ho3'.form hl2
            injection he with he1 he2 he3
            subst he1
            subst he3
            clear he2
            have ci := ho3'.cell (i := m) (by omega)
            have hm1 : ((m + 1 : Nat) : Int) - 1 = (m : Int) := by omega
            rw [hm1]
            go_wp2_with (at_builtin; refine push_int rfl _ _ rfl hoo rfl rfl (by simp) (by omega) (by omega) ?_; intro v' w1 ho4 hg4 _)
            go_roundw
            case rel => exact ⟨m, _, by omega, by go_num, by rw [Hid, hout.out, ← rev_take l m (by omega)]; congr 2; omega, by simp; omega, ho4, hkk.ownI hoo hg4 (Nat.le_refl _)⟩
            case measure => simp [intOf] <;> omega
    · have hpos : 0 < y := by omega
      have hlt : x % y < y := Nat.mod_lt _ hpos
      have hks := hk.size
      have hc' : Hid ((acc ++ [(x : Int) / (y : Int)]) ++ cf y (x % y) = cf p q) := by
        have := hc.out
        rw [cf_succ x y hpos] at this
        simpa [Hid] using this
      clear hc
      have d0 : 0 ≤ (x : Int) / (y : Int) := Int.natCast_nonneg (x / y)
      have d1 : (x : Int) / (y : Int) ≤ 1000 := by have := Nat.div_le_self x y; show ((x / y : Nat) : Int) ≤ 1000; omega
      go_wp2_with (at_builtin; refine push_int rfl _ _ rfl ho rfl rfl (by simp) (by omega) (by omega) ?_; intro v' w1 ho3 hg3 _)
      go_roundw
      case rel =>
        exact ⟨y, x % y, _, hy, by omega, rfl, by simp, hc'.out, by rw [List.length_append]; simp; omega, ho3, hk.ownI ho hg3 (Nat.le_refl _)⟩
      case measure => simp [intOf] <;> omega
end Go.Proofs.Ytkgofmloleicgaa
