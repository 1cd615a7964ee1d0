/- The library's own sort at a row of integers that the call owns. Nothing of one program stands here. -/
import Derived.Test.YtkcighnochjlgaaE5
import Derived.Sort.OwnSortedInts
import Derived.Shelf.Sort.Plain
import Derived.Shelf.Slices.In.SortNone
namespace Go.Proofs.Ytkcighnochjlgaa
open Go.ChangeShapes Go.WideShapes Go.ChangeAt Go.RowKit Go.Sort

def srt (xs : List Int) : List Int := xs.mergeSort fun x y => decide (x ≤ y)
theorem srt_perm (xs : List Int) : (srt xs).Perm xs := List.mergeSort_perm _ _
theorem srt_len (xs : List Int) : (srt xs).length = xs.length := (srt_perm xs).length_eq
theorem srt_mem {xs : List Int} {x : Int} : x ∈ srt xs ↔ x ∈ xs := (srt_perm xs).mem_iff
theorem flat_int (xs : List Int) : xs.flatMap cdInt.f = xs.map (Value.int .i64) := by
  induction xs with
  | nil => rfl
  | cons x xs ih => simp only [List.flatMap_cons, ih, List.map_cons]; rfl
theorem SH.sorted {w : World} {M : Hp} {X : Fr} {g cap n : Nat} {xs ys : List Int} {os : Array Obj} (S : SH w M X [Rs.row cdInt (.slice (some ⟨g, 0, none⟩) xs.length cap) xs]) (hl : ys.length = xs.length) :
    SH (Go.Sort.grow (putRow (Value.int .i64) (Go.Sort.ahead w n) g 0 ys.toArray) os) M X [Rs.row cdInt (.slice (some ⟨g, 0, none⟩) xs.length cap) ys] := by
  have hok : RowOk cdInt (.slice (some ⟨g, 0, none⟩) xs.length cap) xs (hp w) := S.get (i := 0) rfl
  rcases hok with ⟨h1, _⟩ | ⟨g', cap', cur, h1, h2, h3, h4, h5, h6⟩
  · cases h1
  cases h1
  have gb := grownBy_sortedI (w := w) (g := g) (n := n) (os := os) ys.toArray
  have h5' : cur.size = cap := h5.trans (Nat.mul_one _)
  refine S.step (i := 0) (H' := [Rs.row cdInt (.slice (some ⟨g, 0, none⟩) xs.length cap) ys]) rfl rfl ⟨gb.os, gb.tape, gb.output, gb.size⟩ (fun b hb hn => ?_) ?_ (fun b hb => ⟨.inl hb, ?_⟩)
  · exact gb.block b hb (fun e => hn (by injection e with e; subst e; simp [Rs.row, Value.ownBlock]))
  · refine .inr ⟨g, cap, _, by rw [hl], heap_sortedI _ h2, by rw [hl]; exact h3, h4, by simp [putCells, h5'] ; exact (Nat.mul_one _).symm, ?_⟩
    rw [flat_int, show ys.length * cdInt.k = ys.length from Nat.mul_one _]
    exact take_putCellsI cur ys (by omega)
  · have hg : g < w.heap.size := hp_lt h2
    have e : b = g := by simpa [Rs.row, Value.ownBlock] using hb
    subst e
    exact Nat.lt_of_lt_of_le hg gb.size
theorem SH.holdsI {w : World} {M : Hp} {X : Fr} {g cap : Nat} {xs : List Int} (S : SH w M X [Rs.row cdInt (.slice (some ⟨g, 0, none⟩) xs.length cap) xs]) : Holds (Value.int .i64) w g 0 xs.toArray ∧ g < w.heap.size := by
  have hok : RowOk cdInt (.slice (some ⟨g, 0, none⟩) xs.length cap) xs (hp w) := S.get (i := 0) rfl
  rcases hok with ⟨h1, _⟩ | ⟨g', cap', cur, h1, h2, h3, h4, h5, h6⟩
  · cases h1
  cases h1
  refine ⟨holds_of_blockI h2 ?_, hp_lt h2⟩
  rw [flat_int, show xs.length * cdInt.k = xs.length from Nat.mul_one _] at h6
  exact h6
/-- slices.Sort: the row holds the same numbers, sorted. -/
theorem c1_sort {P : Program} {ρ : Go.Shelf.Ren} (L : Lays.n189 P ρ) {w : World} {M : Hp} {X : Fr} {v : Value} {xs : List Int} (hsz : xs.length < 4611686018427387904) (S : SH w M X [Rs.row cdInt v xs]) :
    C1 P (ρ.f 189) [v] w M X fun u M' r' => u = .tuple #[] ∧ M' = M ∧ r' = Rs.row cdInt v (srt xs) := by
  have hok : RowOk cdInt v xs (hp w) := S.get (i := 0) rfl
  rcases hok with ⟨h1, h2⟩ | ⟨g, cap, cur, h1, _⟩
  · subst h1; subst h2
    refine (Any.slices_Sort_int_none L none 0 w).mono ?_
    rintro e w' ⟨rfl, rfl⟩
    exact ⟨_, rfl, M, _, Hp.le_refl _, S, rfl, rfl, by simp [srt]⟩
  · subst h1
    obtain ⟨hH, hb⟩ := S.holdsI
    refine (Any.slices_Sort_int L g 0 cap xs w hH hb hsz).mono ?_
    rintro e w' ⟨rfl, n, os, rfl⟩
    exact ⟨_, rfl, M, _, Hp.le_refl _, S.sorted (srt_len xs), rfl, rfl, rfl⟩
end Go.Proofs.Ytkcighnochjlgaa
