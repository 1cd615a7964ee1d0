/- A diagram at work: the clone of its crossings. -/
import Derived.Test.YtlbpgnimpcflaaaShp0
import Derived.WalkSpells
namespace Go.Proofs.Ytlbpgnimpcflaaa
open Go.ChangeShapes Go.WideShapes Go.ChangeAt Go.RowKit

def CrsPost (base : Nat) (xs : List Cr) (w : World) (e : Ending) (w' : World) : Prop := ∃ A c, e = .returned (.slice A xs.length c) ∧ Ow codCr 73 w' base (.slice A xs.length c) xs ∧ Kp w w'

set_option maxHeartbeats 1000000 in
theorem cloneCrs (A : Option Addr) (c : Nat) (xs : List Cr) (w : World) (hr : Rd codCr w w.heap.size A xs) :
    Calls Try.prog 94 #[.slice A xs.length c] w (CrsPost w.heap.size xs w) := by
  have hnl := fun (w : World) (a : Option Addr) (n c : Nat) => Lib.run_eql_slice_nil (P := Try.prog) w 25 73 a n c 0 0 Try.underlying25
  cases A with
  | none =>
    have h0 : xs.length = 0 := by
      rcases Nat.eq_zero_or_pos xs.length with h | h
      · exact h
      · obtain ⟨b, off, h, _⟩ := Sl.at_ hr h
        cases h
    have hx : xs = [] := List.eq_nil_of_length_eq_zero h0
    subst hx
    go_enter Try.func94, Try.ntmps94
    go_wp2_with fail
    go_ret
    exact ⟨none, 0, rfl, Ow.nil_, Kp.refl _⟩
  | some ad =>
    go_enter Try.func94, Try.ntmps94
    go_wp2_with (at_builtin; refine wp_appendSl slCr rfl _ _ rfl (World.ownsRow_made w #[] 0 (Nat.le_refl _) (by unfold maxLen; omega) rfl) rfl rfl (Rd.kp hr ((Kp.refl _).alloc _)) (cr_one xs) (by rw [Nat.zero_add]; exact hr.room) (by simp) ?_; intro v' w1 ho hg _)
    go_ret
    have ho' : Ow codCr 73 w1 w.heap.size v' xs := by
      unfold Ow
      rw [Nat.zero_add, List.nil_append] at ho
      exact ho
    obtain ⟨A', c', rfl, _⟩ := ho'.sl
    exact ⟨A', c', rfl, ho', ((Kp.refl w).alloc _).grown hg (fun k hk => by simp [Value.ownBlock] at hk; omega)⟩

/-! ### The state of 'Build' -/

def plF (x : Nat × Nat) : List Value := [.int .i64 x.1, .int .i64 x.2]
def codPl : Cod (Nat × Nat) := ⟨plF, 2, 16, fun _ => rfl⟩

/-- Of each arc, the last of the first J places where it comes in (or goes out). -/
def tabL (d : Dg) (back : Bool) (J : Nat) : List (Nat × Nat) := (List.range (2 * d.crs.length + 1)).map fun a : Nat => lastP d (a : Int) back J
/-- Of each arc, how often it has come in (or gone out). -/
def cntL (d : Dg) (back : Bool) (J : Nat) : List Int := (List.range (2 * d.crs.length + 1)).map fun a : Nat => ((cntP d (a : Int) back J : Nat) : Int)
theorem lastP_succ (d : Dg) (a : Int) (back : Bool) (J : Nat) : lastP d a back (J + 1) = if endP d a back J = true then (J / 4, J % 4) else lastP d a back J := rfl
theorem tabL_len (d : Dg) (back : Bool) (J : Nat) : (tabL d back J).length = 2 * d.crs.length + 1 := by simp [tabL]
theorem cntL_len (d : Dg) (back : Bool) (J : Nat) : (cntL d back J).length = 2 * d.crs.length + 1 := by simp [cntL]
theorem tabL_get {d : Dg} {back : Bool} {J a : Nat} (h : a < 2 * d.crs.length + 1) : ga (tabL d back J) a = lastP d (a : Int) back J := by
  rw [ga_eq (by rw [tabL_len]; exact h)]; simp [tabL]
theorem cntL_get {d : Dg} {back : Bool} {J a : Nat} (h : a < 2 * d.crs.length + 1) : gi (cntL d back J) a = (cntP d (a : Int) back J : Nat) := by
  rw [gi_eq (by rw [cntL_len]; exact h)]; simp [cntL]
theorem tabL_zero (d : Dg) (back : Bool) : tabL d back 0 = List.replicate (2 * d.crs.length + 1) (0, 0) := by
  simp only [tabL, lastP, List.map_const', List.length_range]
theorem cntL_zero (d : Dg) (back : Bool) : cntL d back 0 = List.replicate (2 * d.crs.length + 1) 0 := by
  simp [cntL, cntP, List.map_const']
theorem endP_arc {d : Dg} {a J : Nat} {back : Bool} (h : arcJ d J = a) (a' : Nat) : endP d (a' : Int) back J = (decide (a' = a) && (entryB d (J / 4) (J % 4) != back)) := by
  unfold endP
  have h1 : arcAt d (J / 4) (J % 4) = (a : Int) := h
  rw [h1]
  congr 1
  simp only [decide_eq_decide]
  omega
theorem tabL_hit {d : Dg} {back : Bool} {J a : Nat} (h : arcJ d J = a) (he : entryB d (J / 4) (J % 4) ≠ back) : tabL d back (J + 1) = (tabL d back J).set a (J / 4, J % 4) := by
  apply ga_ext
  · rw [List.length_set, tabL_len, tabL_len]
  · intro i hi
    rw [tabL_len] at hi
    have e := endP_arc (back := back) h i
    by_cases ha : a < (tabL d back J).length
    · rw [ga_set _ _ _ _ ha, tabL_get hi, tabL_get hi, lastP_succ, e]
      by_cases hi' : a = i
      · subst hi'; simp [he]
      · have : ¬ i = a := fun h => hi' h.symm
        simp [hi', this]
    · rw [List.set_eq_of_length_le (by omega), tabL_get hi, tabL_get hi]
      rw [tabL_len] at ha
      rw [lastP_succ, e]
      have : ¬ i = a := by omega
      simp [this]
theorem tabL_miss {d : Dg} {back : Bool} {J : Nat} (he : entryB d (J / 4) (J % 4) = back) : tabL d back (J + 1) = tabL d back J := by
  apply ga_ext
  · rw [tabL_len, tabL_len]
  · intro i hi
    rw [tabL_len] at hi
    rw [tabL_get hi, tabL_get hi, lastP_succ]
    unfold endP
    simp [he]
theorem cntL_hit {d : Dg} {back : Bool} {J a : Nat} (h : arcJ d J = a) (he : entryB d (J / 4) (J % 4) ≠ back) : cntL d back (J + 1) = (cntL d back J).set a (gi (cntL d back J) a + 1) := by
  apply gi_ext
  · rw [List.length_set, cntL_len, cntL_len]
  · intro i hi
    rw [cntL_len] at hi
    have e := endP_arc (back := back) h i
    by_cases ha : a < (cntL d back J).length
    · rw [gi_set _ _ _ _ ha, cntL_get hi, cntL_get hi, cntP_succ, e]
      by_cases hi' : a = i
      · subst hi'; rw [cntL_get hi]; simp [he]
      · have : ¬ i = a := fun h => hi' h.symm
        simp [hi', this]
    · rw [List.set_eq_of_length_le (by omega), cntL_get hi, cntL_get hi, cntP_succ, e]
      rw [cntL_len] at ha
      have : ¬ i = a := by omega
      simp [this]
theorem cntL_miss {d : Dg} {back : Bool} {J : Nat} (he : entryB d (J / 4) (J % 4) = back) : cntL d back (J + 1) = cntL d back J := by
  apply gi_ext
  · rw [cntL_len, cntL_len]
  · intro i hi
    rw [cntL_len] at hi
    rw [cntL_get hi, cntL_get hi, cntP_succ]
    unfold endP
    simp [he]
end Go.Proofs.Ytlbpgnimpcflaaa
