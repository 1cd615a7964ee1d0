/- Of each arc its part: the program's table. -/
import Derived.Test.YtlbpgnimpcflaaaDow1
namespace Go.Proofs.Ytlbpgnimpcflaaa
open Go.ChangeShapes Go.WideShapes Go.ChangeAt Go.RowKit

/-- The places that a list names get i. -/
def ptIn (out : List Int) (i : Nat) (l : List Int) : Nat → List Int
  | 0 => out
  | m + 1 => (ptIn out i l m).set (gi l m).toNat i
def ptS (xss : List (List Int)) (N : Nat) : Nat → List Int
  | 0 => List.replicate N 0
  | n + 1 => ptIn (ptS xss N n) n (ga xss n) (ga xss n).length
theorem ptIn_len (out : List Int) (i : Nat) (l : List Int) (m : Nat) : (ptIn out i l m).length = out.length := by
  induction m with
  | zero => rfl
  | succ m ih => unfold ptIn; rw [List.length_set, ih]
theorem ptS_len (xss : List (List Int)) (N n : Nat) : (ptS xss N n).length = N := by
  induction n with
  | zero => simp [ptS]
  | succ n ih => unfold ptS; rw [ptIn_len, ih]
theorem ptIn_at {out : List Int} {i : Nat} {l : List Int} (hr : ∀ y ∈ l, 0 ≤ y ∧ y < (out.length : Int)) (m : Nat) (hm : m ≤ l.length) (a : Nat) (ha : a < out.length) :
    ((∃ k, k < m ∧ gi l k = (a : Int)) → gi (ptIn out i l m) a = i) ∧ ((∀ k, k < m → gi l k ≠ (a : Int)) → gi (ptIn out i l m) a = gi out a) := by
  induction m with
  | zero => exact ⟨fun ⟨k, h, _⟩ => by omega, fun _ => rfl⟩
  | succ m ih =>
    obtain ⟨i1, i2⟩ := ih (by omega)
    have hy := hr (gi l m) (by rw [gi_eq (by omega)]; exact List.getElem_mem _)
    unfold ptIn
    rw [gi_set _ _ _ _ (by rw [ptIn_len]; omega)]
    constructor
    · rintro ⟨k, h1, h2⟩
      by_cases he : (gi l m).toNat = a
      · rw [if_pos he]
      · rw [if_neg he]
        exact i1 ⟨k, by
          rcases Nat.lt_or_ge k m with h | h
          · exact h
          · obtain rfl : k = m := by omega
            omega, h2⟩
    · intro h
      rw [if_neg (by have := h m (by omega); omega)]
      exact i2 fun k hk => h k (by omega)
theorem ptS_at {xss : List (List Int)} {N : Nat} (hr : ∀ l ∈ xss, ∀ y ∈ l, 0 ≤ y ∧ y < (N : Int)) (hd : xss.flatten.Nodup) (n : Nat) (hn : n ≤ xss.length) :
    ∀ i, i < n → ∀ a : Nat, (a : Int) ∈ ga xss i → gi (ptS xss N n) a = i := by
  induction n with
  | zero => intro i hi; omega
  | succ n ih =>
    intro i hi a ha
    have hix : i < xss.length := by omega
    have hmem : ga xss i ∈ xss := ga_mem hix
    have haN := hr _ hmem _ ha
    have hmn : ga xss n ∈ xss := ga_mem (by omega)
    unfold ptS
    have key := ptIn_at (out := ptS xss N n) (i := n) (l := ga xss n) (fun y hy => by rw [ptS_len]; exact hr _ hmn y hy) (ga xss n).length (Nat.le_refl _) a (by rw [ptS_len]; omega)
    by_cases hin : i = n
    · subst hin
      obtain ⟨k, hk, e⟩ := List.getElem_of_mem ha
      exact key.1 ⟨k, hk, by rw [gi_eq hk]; exact e⟩
    · rw [key.2 ?_]
      · exact ih (by omega) i (by omega) a ha
      · intro k hk e
        rw [List.nodup_iff_pairwise_ne, List.pairwise_flatten] at hd
        have h2 := List.pairwise_iff_getElem.1 hd.2 i n hix (by omega) (by omega)
        rw [ga_eq hix] at ha
        have hmem2 : (a : Int) ∈ xss[n] := by
          rw [← e, gi_eq hk, ← ga_eq (show n < xss.length by omega)]
          exact List.getElem_mem _
        exact h2 _ ha _ hmem2 rfl
def partsL (d : Dg) : List Int := ptS (strandsL d) (2 * d.crs.length + 1) (strandsL d).length
theorem partsL_len (d : Dg) : (partsL d).length = 2 * d.crs.length + 1 := ptS_len _ _ _
theorem parts_at {d : Dg} (h : arcsB d = true) {a i : Nat} (h0 : 1 ≤ a) (h1 : a ≤ 2 * d.crs.length) (hi : i < (strandsL d).length) : gi (partsL d) a = i ↔ (a : Int) ∈ ga (strandsL d) i := by
  obtain ⟨s1, s2⟩ := strands_all h
  have hr : ∀ l ∈ strandsL d, ∀ y ∈ l, 0 ≤ y ∧ y < ((2 * d.crs.length + 1 : Nat) : Int) := fun l hl y hy => by
    have := (s2 y).1 (List.mem_flatten.2 ⟨l, hl, hy⟩)
    omega
  have hp := ptS_at hr s1 (strandsL d).length (Nat.le_refl _)
  constructor
  · intro e
    obtain ⟨l, hl, hal⟩ := List.mem_flatten.1 ((s2 (a : Int)).2 ⟨by omega, by omega⟩)
    obtain ⟨j, hj, rfl⟩ := List.getElem_of_mem hl
    have h2 := hp j hj a (by rw [ga_eq hj]; exact hal)
    unfold partsL at e
    rw [e] at h2
    obtain rfl : i = j := by omega
    rw [ga_eq hj]
    exact hal
  · intro ha
    exact hp i hi a ha

set_option maxRecDepth 100000 in
set_option maxHeartbeats 4000000 in
theorem parts_any (v : Value) (d : Dg) (w : World) (b0 : Nat) (hs : IsSh w b0 v d) (hn : d.crs.length ≤ 16) (ha : arcsB d = true) :
    Calls Try.prog 64 #[v] w fun e w' => ∃ g, e = .returned (.slice (some ⟨g, 0, none⟩) (2 * d.crs.length + 1) (2 * d.crs.length + 1)) ∧ OwnI w' w.heap.size (.slice (some ⟨g, 0, none⟩) (2 * d.crs.length + 1) (2 * d.crs.length + 1)) (partsL d) ∧ Kp w w' := by
  have hst := Lib.hid fun w' (hk : Kp w w') => strands_own v d w' b0 (hs.kp hk) hn ha
  obtain ⟨hmem, hlen⟩ := strandsL_mem ha
  have hres : Hid (partsL d = ptS (strandsL d) (2 * d.crs.length + 1) (strandsL d).length) := rfl
  have hmk := fun W => make_of slInt (2 * d.crs.length + 1) (2 * (d.crs.length : Int) + 1) (by omega) (by omega) W
  have har := Lib.hid (arcs_any v d w b0 hs hn)
  generalize strandsL d = xss at *
  replace hmem := Lib.hid hmem
  clear hs ha
  go_enter Try.func64, Try.ntmps64
  go_wp2_with fail
  refine har.out.mono ?_; rintro e w1 ⟨rfl, rfl⟩
  go_wp2_with fail
  have q0 : OwnI (w1.alloc (.cells (madeCells #[Value.int .i64 0] (2 * d.crs.length + 1)) 3)) w1.heap.size (.slice (some ⟨w1.heap.size, 0, none⟩) (2 * d.crs.length + 1) (2 * d.crs.length + 1)) (ptS xss (2 * d.crs.length + 1) 0) := ownI_made (Blk.new _ _ _) (Nat.le_refl _) (by unfold maxLen; omega)
  refine (hst.out _ ((Kp.refl _).alloc _)).mono ?_; rintro e w2 ⟨v1, rfl, ho, hl, hk1⟩
  replace q0 := q0.kp hk1
  have hkw := hk1.al
  have hw1 := hk1.alt
  have hb : w1.heap.size + 1 ≤ w2.heap.size := hw1
  obtain ⟨A1, c1, rfl, hc1⟩ : ∃ A c, v1 = .slice A xss.length c ∧ xss.length ≤ c := by
    obtain ⟨vs, l1, h2, _⟩ := ho
    obtain ⟨A, c, e, hc⟩ := h2.sl
    exact ⟨A, c, by rw [e, l1], by omega⟩
  replace ho : Or w2 (w1.heap.size + 1) (.slice A1 xss.length c1) xss := by simpa using ho
  replace ho := Lib.hid ho
  replace hk1 := Lib.hid hk1
  go_wp2_with fail
  go_loopw [15] (fun i wr => ∃ n : Nat, n ≤ xss.length ∧ i = .int .i64 n ∧ Gr w2 wr (some w1.heap.size) ∧ OwnI wr w1.heap.size (.slice (some ⟨w1.heap.size, 0, none⟩) (2 * d.crs.length + 1) (2 * d.crs.length + 1)) (ptS xss (2 * d.crs.length + 1) n)) (fun i _ => xss.length - (intOf i).toNat)
  case atStart => exact ⟨0, Nat.zero_le _, rfl, gr_refl _ _, q0⟩
  case round =>
    clear q0
    obtain ⟨n, hn2, rfl, hg, hq⟩ := hrel
    by_cases hlt : n < xss.length
    · obtain ⟨_, g, A2, c2, e, hg1, hc, hoi⟩ := (ho.out.gr hg (by omega)).at_ hlt
      subst e
      have hle := hmem.out (Go.Proofs.Ytlbpgnimpcflaaa.ga xss n) (ga_mem hlt)
      have hps : Hid (ptS xss (2 * d.crs.length + 1) (n + 1) = ptIn (ptS xss (2 * d.crs.length + 1) n) n (Go.Proofs.Ytlbpgnimpcflaaa.ga xss n) (Go.Proofs.Ytlbpgnimpcflaaa.ga xss n).length) := rfl
      have hpl := Lib.hid (ptS_len xss (2 * d.crs.length + 1) n)
      generalize ptS xss (2 * d.crs.length + 1) n = P0 at *
      generalize Go.Proofs.Ytlbpgnimpcflaaa.ga xss n = r at *
      obtain ⟨hle1, hle2⟩ := hle
      have hz := hg.size
      replace hoi := Lib.hid hoi
      replace hle1 := Lib.hid hle1
      obtain ⟨wo, rfl⟩ : ∃ wo : World, wo = wr := ⟨_, rfl⟩
      go_wp2_with fail
      go_loopw [22] (fun i wr => ∃ m : Nat, m ≤ r.length ∧ i = .int .i64 m ∧ Gr wo wr (some w1.heap.size) ∧ OwnI wr w1.heap.size (.slice (some ⟨w1.heap.size, 0, none⟩) (2 * d.crs.length + 1) (2 * d.crs.length + 1)) (ptIn P0 n r m)) (fun i _ => r.length - (intOf i).toNat)
      case atStart => exact ⟨0, Nat.zero_le _, rfl, gr_refl _ _, hq⟩
      case round =>
        clear hq
        obtain ⟨m, hm, rfl, hg2, hq⟩ := hrel
        by_cases hlt2 : m < r.length
        · obtain ⟨g2, rfl, hg3, _, hc2⟩ := (hoi.out.kept hg2 (by
            cases hq : Value.ownBlock (.slice A2 r.length c2) with
            | none => exact .inl rfl
            | some k => exact .inr fun e => by injection e with e; have := (hoi.out.lt k hq).1; omega)).cellA hlt2
          have hy := hle1.out (gi r m) (by rw [gi_eq hlt2]; exact List.getElem_mem _)
          have hst : ptIn P0 n r (m + 1) = (ptIn P0 n r m).set (gi r m).toNat n := rfl
          have hln := ptIn_len P0 n r m
          have hln' : (ptIn P0 n r m).length = 2 * d.crs.length + 1 := by rw [hln]; exact hpl.out
          generalize ptIn P0 n r m = P1 at *
          obtain ⟨a, ha⟩ := Int.eq_ofNat_of_zero_le (show 0 ≤ gi r m by omega)
          rw [ha] at hc2 hy hst
          have hal : a < P1.length := by omega
          have cP := hq.cell (i := a) hal
          have fP := hq.free a
          have hlt3 := (hq.lt w1.heap.size rfl).2
          have hal2 : a < 2 * d.crs.length + 1 := by omega
          clear ha hln hln'
          replace hst := Lib.hid hst
          replace hal := Lib.hid hal
          go_wp2_with fail
          go_roundw
          case rel => exact ⟨m + 1, by omega, by go_num, gr_setCell hg2 _ _, by rw [hst.out]; exact hq.set_ a _⟩
          case measure => simp [intOf] <;> omega
        · obtain rfl : m = r.length := by omega
          go_wp2_with fail
          go_roundw
          case rel => exact ⟨n + 1, by omega, by go_num, gr_trans hg hg2, by rw [hps.out]; exact hq⟩
          case measure => simp [intOf] <;> omega
    · obtain rfl : n = xss.length := by omega
      go_wp2_with fail
      go_ret
      exact ⟨_, rfl, by rw [hres.out]; exact hq, hkw.grown hg (by intro k e; injection e with e; omega)⟩
end Go.Proofs.Ytlbpgnimpcflaaa
