/- From the old contracts to the new ones: links tied together. -/
import Derived.Test.YtlbpgnimpcflaaaEb
import Derived.Test.YtlbpgnimpcflaaaSum1
namespace Go.Proofs.Ytlbpgnimpcflaaa
open Go.ChangeShapes Go.WideShapes Go.ChangeAt Go.RowKit

section
variable {w w' : World} {M : Hp} {X : Fr} {H H' : List Rs}
theorem Arcs_q {v : Value} (d : Dg) (hs : IsSh w 0 v d) (hn : d.crs.length ≤ 16) (S : SH w M X []) : Cq Try.prog 55 [v] w M X (fun u => u = .int .i64 (2 * (d.crs.length : Int))) :=
  (arcs_any v d w 0 hs hn).mono fun e w' ⟨he, hk⟩ => ⟨_, he, by subst hk; exact S, rfl⟩
theorem IsArc_q {v : Value} (d : Dg) (x : Int) (hs : IsSh w 0 v d) (hn : d.crs.length ≤ 16) (S : SH w M X []) : Cq Try.prog 54 [v, .int .i64 x] w M X (fun u => u = .bool (decide (1 ≤ x ∧ x ≤ 2 * (d.crs.length : Int)))) :=
  (isArc_any v d x w 0 hs hn).mono fun e w' ⟨he, hk⟩ => ⟨_, he, by subst hk; exact S, rfl⟩
theorem set_row {i e k : Nat} {v : Value} {ys : List Cr} {a : Int} (S : SH w M X H) (hi : nth H i = some (Rs.row cdCr v ys)) (he : e < ys.length) (hk : k < 4) :
    Calls Try.prog 56 [.pointer (some ⟨rb v, e * cdCr.k, none⟩), .int .i64 k, .int .i64 a].toArray w fun en w' => ∃ u, en = .returned u ∧ SH w' M X (H.set i (Rs.row cdCr v (ys.set e (setC (ga ys e) k a)))) := by
  rcases (S.get hi : RowOk cdCr v ys (hp w)) with ⟨_, h2⟩ | ⟨g, cap, cur, rfl, h2, h3, h4, h5, h6⟩
  · subst h2; simp at he
  · have hcell : w.cell? ⟨g, e * 5 + k, none⟩ = some (if k = 0 then .int .i64 (ga ys e).a else if k = 1 then .int .i64 (ga ys e).b else if k = 2 then .int .i64 (ga ys e).c else .int .i64 (ga ys e).d) := by
      have hh : k = 0 ∨ k = 1 ∨ k = 2 ∨ k = 3 := by omega
      rcases hh with rfl | rfl | rfl | rfl
      · exact S.rowc hi he (j := 0) rfl rfl
      · exact S.rowc hi he (j := 1) rfl rfl
      · exact S.rowc hi he (j := 2) rfl rfl
      · exact S.rowc hi he (j := 3) rfl rfl
    have hf : w.frozen? ⟨g, e * 5 + k, none⟩ = false := frozen_of_row w g _ cur cdCr.E h2
    refine (set_any g (e * 5) k a w hk hcell hf).mono ?_
    rintro en w' ⟨rfl, rfl⟩
    refine ⟨_, rfl, SH.drew ?_⟩
    refine S.step hi rfl ⟨rfl, rfl, rfl, by simp [World.setCell]⟩ (fun b _ hb => heap_setCell_other w _ b _ (by simpa [Rs.row, Value.ownBlock] using hb)) ?_ (fun b hb => ⟨.inl hb, ?_⟩)
    · have h7 := heap_setCell_same w g (e * 5 + k) cur cdCr.E (.int .i64 a) h2
      refine .inr ⟨g, cap, _, by rw [List.length_set], h7, by rw [List.length_set]; exact h3, h4, by simp [h5], ?_⟩
      rw [List.length_set]
      have hy : spl (cdCr.f ys[e]) k [.int .i64 a] = cdCr.f (setC (ga ys e) k a) := by
        rw [← ga_eq he]
        have hh : k = 0 ∨ k = 1 ∨ k = 2 ∨ k = 3 := by omega
        rcases hh with rfl | rfl | rfl | rfl <;> rfl
      rw [← flat_spl (C := cdCr) ys e k [.int .i64 a] _ he (by show k + 1 ≤ 5; omega) hy, ← h6]
      simp only [spl, Array.toList_setIfInBounds]
      rw [List.take_set]
      rfl
    · simp [Rs.row, Value.ownBlock] at hb
      subst hb
      have := hp_lt h2
      simpa [World.setCell] using this
end
end Go.Proofs.Ytlbpgnimpcflaaa
