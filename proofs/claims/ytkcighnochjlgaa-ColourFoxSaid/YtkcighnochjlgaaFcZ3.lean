/- Part 3 of the proof of the law ColourFox: the walks through its functions and the plain laws that they need. -/
import Derived.Test.YtkcighnochjlgaaFcZ2
import Derived.Laws.Cover3
import Derived.Laws.Pointers
import Derived.Laws.StructEq
import Derived.MapKept
import Derived.Carry
import Derived.RangeFuncNested
import Derived.RangeFuncBound
import Derived.RangeFuncCalls
import Derived.RangeFuncLeaves
import Derived.LoopNIn
import Derived.Sort.OwnSortedInts
import Derived.Shelf.Sort.Plain
import Derived.Shelf.Slices.In.SortNone
import Derived.Maps.RangeRun
import Derived.Shelf.SlMaps.Clone
set_option linter.unusedSimpArgs false
set_option linter.unusedVariables false
noncomputable section
namespace Go.Proofs.Ytkcighnochjlgaa
open Go.ChangeShapes Go.WideShapes Go.ChangeAt Go.RowKit
theorem slPl : SlT Try.prog 112 196 2 16 (.agg #[.int .i64 0, .int .i64 0]) := ⟨uT112, by kernel_rfl, rfl, by omega, by omega⟩
def Sh (d : Dg) (w0 w : World) (p : Value) (ti tu : List (Nat × Nat)) : Prop :=
  ∃ g A c gi go, p = .pointer (some ⟨g, 0, none⟩) ∧
    Blk w g 114 #[.slice A d.crs.length c, .int .i64 d.loops, .slice (some ⟨gi, 0, none⟩) (2 * d.crs.length + 1) (2 * d.crs.length + 1), .slice (some ⟨go, 0, none⟩) (2 * d.crs.length + 1) (2 * d.crs.length + 1)] ∧
    gi ≠ go ∧ w0.heap.size < g ∧
    Ow codCr 111 w (w0.heap.size + 1) (.slice A d.crs.length c) d.crs ∧
    Ow codPl 196 w (w0.heap.size + 1) (.slice (some ⟨gi, 0, none⟩) (2 * d.crs.length + 1) (2 * d.crs.length + 1)) ti ∧
    Ow codPl 196 w (w0.heap.size + 1) (.slice (some ⟨go, 0, none⟩) (2 * d.crs.length + 1) (2 * d.crs.length + 1)) tu
theorem Sh.kp {d : Dg} {w0 w w' : World} {p : Value} {ti tu : List (Nat × Nat)} (h : Sh d w0 w p ti tu) (hk : Kp w w') : Sh d w0 w' p ti tu := by
  obtain ⟨g, A, c, gi, go, r1, r2, r3, r4, r5, r6, r7⟩ := h
  exact ⟨g, A, c, gi, go, r1, r2.kp hk, r3, r4, r5.kp hk, r6.kp hk, r7.kp hk⟩
def Bs (d : Dg) (w0 w : World) (p ci co : Value) (J : Nat) : Prop :=
  Sh d w0 w p (tabL d false J) (tabL d true J) ∧ ∃ ga gb, ci = .slice (some ⟨ga, 0, none⟩) (2 * d.crs.length + 1) (2 * d.crs.length + 1) ∧ co = .slice (some ⟨gb, 0, none⟩) (2 * d.crs.length + 1) (2 * d.crs.length + 1) ∧ ga ≠ gb ∧
    OwnI w (w0.heap.size + 1) (.slice (some ⟨ga, 0, none⟩) (2 * d.crs.length + 1) (2 * d.crs.length + 1)) (cntL d false J) ∧ OwnI w (w0.heap.size + 1) (.slice (some ⟨gb, 0, none⟩) (2 * d.crs.length + 1) (2 * d.crs.length + 1)) (cntL d true J)
structure Bq (d : Dg) (b0 g : Nat) (A : Option Addr) (c gi go ga gb : Nat) (w : World) (J : Nat) : Prop where
  sh : Blk w g 114 #[.slice A d.crs.length c, .int .i64 d.loops, .slice (some ⟨gi, 0, none⟩) (2 * d.crs.length + 1) (2 * d.crs.length + 1), .slice (some ⟨go, 0, none⟩) (2 * d.crs.length + 1) (2 * d.crs.length + 1)]
  cr : Ow codCr 111 w b0 (.slice A d.crs.length c) d.crs
  ti : Ow codPl 196 w b0 (.slice (some ⟨gi, 0, none⟩) (2 * d.crs.length + 1) (2 * d.crs.length + 1)) (tabL d false J)
  tu : Ow codPl 196 w b0 (.slice (some ⟨go, 0, none⟩) (2 * d.crs.length + 1) (2 * d.crs.length + 1)) (tabL d true J)
  ci : OwnI w b0 (.slice (some ⟨ga, 0, none⟩) (2 * d.crs.length + 1) (2 * d.crs.length + 1)) (cntL d false J)
  co : OwnI w b0 (.slice (some ⟨gb, 0, none⟩) (2 * d.crs.length + 1) (2 * d.crs.length + 1)) (cntL d true J)
  n1 : gi ≠ go
  n2 : ga ≠ gb
  lt : b0 ≤ g
section
variable {d : Dg} {b0 g c gi go ga gb J : Nat} {A : Option Addr} {w w' : World}
theorem Bq.kp (h : Bq d b0 g A c gi go ga gb w J) (hk : Kp w w') : Bq d b0 g A c gi go ga gb w' J :=
  ⟨h.sh.kp hk, h.cr.kp hk, h.ti.kp hk, h.tu.kp hk, h.ci.kp hk, h.co.kp hk, h.n1, h.n2, h.lt⟩
theorem U13 {w : World} {b : Nat} {v : Value} {xs : List Int} (h : OwnI w b v xs) : Ow codI 3 w b v xs := by
  unfold Ow
  rw [flat_iv]
  exact h
theorem OwnI.kept {w w' : World} {b : Nat} {v : Value} {xs : List Int} {row : Option Nat} (h : OwnI w b v xs) (hg : Gr w w' row) (hne : v.ownBlock = none ∨ v.ownBlock ≠ row) : OwnI w' b v xs := World.ownsRow.kept h hg hne
theorem blk_ne {w : World} {α : Type} {C : Cod α} {E t : TypeId} {b g : Nat} {v : Value} {xs : List α} {cs : Array Value} (h : Ow C E w b v xs) (h' : Blk w g t cs) (hne : E ≠ t) : some g ≠ v.ownBlock := by
  rcases h.ne_blk h' hne with h | h
  · rw [h]; simp
  · exact fun e => h e.symm
theorem Bq.hitIn (h : Bq d b0 g A c gi go ga gb w J) {a : Nat} (ha : a < 2 * d.crs.length + 1) (hj : arcJ d J = a) (he : Ui d (J / 4) (J % 4) = true) :
    Bq d b0 g A c gi go ga gb (((w.setCell ⟨gi, a * 2, none⟩ (.int .i64 ((J / 4 : Nat) : Int))).setCell ⟨gi, a * 2 + 1, none⟩ (.int .i64 ((J % 4 : Nat) : Int))).setCell ⟨ga, a, none⟩ (.int .i64 (Go.Proofs.Ytkcighnochjlgaa.gi (cntL d false J) a + 1))) (J + 1) := by
  have ht : tabL d false (J + 1) = (tabL d false J).set a (J / 4, J % 4) := tabL_hit hj (by simp [he])
  have hu : tabL d true (J + 1) = tabL d true J := tabL_miss he
  have hc : cntL d false (J + 1) = (cntL d false J).set a (Go.Proofs.Ytkcighnochjlgaa.gi (cntL d false J) a + 1) := cntL_hit hj (by simp [he])
  have ho : cntL d true (J + 1) = cntL d true J := cntL_miss he
  have s1 := h.ti.set2 rfl (i := a) (by rw [Uo]; exact ha) (.int .i64 ((J / 4 : Nat) : Int)) (.int .i64 ((J % 4 : Nat) : Int)) (J / 4, J % 4) rfl
  have g1 := gr_set2 (w := w) (g := gi) (i := a * 2) (j := a * 2 + 1) (.int .i64 ((J / 4 : Nat) : Int)) (.int .i64 ((J % 4 : Nat) : Int))
  have c1 := h.ci.kept g1 (U13 h.ci |>.ne_ h.ti (by decide))
  have g2 := gr_set1 (w := (w.setCell ⟨gi, a * 2, none⟩ (.int .i64 ((J / 4 : Nat) : Int))).setCell ⟨gi, a * 2 + 1, none⟩ (.int .i64 ((J % 4 : Nat) : Int))) (g := ga) (i := a) (.int .i64 (Go.Proofs.Ytkcighnochjlgaa.gi (cntL d false J) a + 1))
  have k1 := h.sh.gr g1 (blk_ne h.ti h.sh (by decide))
  have q1 := h.cr.kept g1 (h.cr.ne_ h.ti (by decide))
  have u1 := h.tu.kept g1 (.inr (by simpa [Value.ownBlock] using h.n1.symm))
  have o1 := h.co.kept g1 (U13 h.co |>.ne_ h.ti (by decide))
  refine ⟨k1.gr g2 (blk_ne (U13 c1) k1 (by decide)), q1.kept g2 (q1.ne_ (U13 c1) (by decide)), ?_, ?_, ?_, ?_, h.n1, h.n2, h.lt⟩
  · rw [ht]; exact s1.kept g2 (s1.ne_ (U13 c1) (by decide))
  · rw [hu]; exact u1.kept g2 (u1.ne_ (U13 c1) (by decide))
  · rw [hc]; exact c1.set_ a _
  · rw [ho]; exact o1.kept g2 (.inr (by simpa [Value.ownBlock] using h.n2.symm))
theorem Bq.hitOut (h : Bq d b0 g A c gi go ga gb w J) {a : Nat} (ha : a < 2 * d.crs.length + 1) (hj : arcJ d J = a) (he : Ui d (J / 4) (J % 4) = false) :
    Bq d b0 g A c gi go ga gb (((w.setCell ⟨go, a * 2, none⟩ (.int .i64 ((J / 4 : Nat) : Int))).setCell ⟨go, a * 2 + 1, none⟩ (.int .i64 ((J % 4 : Nat) : Int))).setCell ⟨gb, a, none⟩ (.int .i64 (Go.Proofs.Ytkcighnochjlgaa.gi (cntL d true J) a + 1))) (J + 1) := by
  have ht : tabL d true (J + 1) = (tabL d true J).set a (J / 4, J % 4) := tabL_hit hj (by simp [he])
  have hu : tabL d false (J + 1) = tabL d false J := tabL_miss he
  have hc : cntL d true (J + 1) = (cntL d true J).set a (Go.Proofs.Ytkcighnochjlgaa.gi (cntL d true J) a + 1) := cntL_hit hj (by simp [he])
  have ho : cntL d false (J + 1) = cntL d false J := cntL_miss he
  have s1 := h.tu.set2 rfl (i := a) (by rw [Uo]; exact ha) (.int .i64 ((J / 4 : Nat) : Int)) (.int .i64 ((J % 4 : Nat) : Int)) (J / 4, J % 4) rfl
  have g1 := gr_set2 (w := w) (g := go) (i := a * 2) (j := a * 2 + 1) (.int .i64 ((J / 4 : Nat) : Int)) (.int .i64 ((J % 4 : Nat) : Int))
  have c1 := h.co.kept g1 (U13 h.co |>.ne_ h.tu (by decide))
  have g2 := gr_set1 (w := (w.setCell ⟨go, a * 2, none⟩ (.int .i64 ((J / 4 : Nat) : Int))).setCell ⟨go, a * 2 + 1, none⟩ (.int .i64 ((J % 4 : Nat) : Int))) (g := gb) (i := a) (.int .i64 (Go.Proofs.Ytkcighnochjlgaa.gi (cntL d true J) a + 1))
  have k1 := h.sh.gr g1 (blk_ne h.tu h.sh (by decide))
  have q1 := h.cr.kept g1 (h.cr.ne_ h.tu (by decide))
  have u1 := h.ti.kept g1 (.inr (by simpa [Value.ownBlock] using h.n1))
  have o1 := h.ci.kept g1 (U13 h.ci |>.ne_ h.tu (by decide))
  refine ⟨k1.gr g2 (blk_ne (U13 c1) k1 (by decide)), q1.kept g2 (q1.ne_ (U13 c1) (by decide)), ?_, ?_, ?_, ?_, h.n1, h.n2, h.lt⟩
  · rw [hu]; exact u1.kept g2 (u1.ne_ (U13 c1) (by decide))
  · rw [ht]; exact s1.kept g2 (s1.ne_ (U13 c1) (by decide))
  · rw [ho]; exact o1.kept g2 (.inr (by simpa [Value.ownBlock] using h.n2))
  · rw [hc]; exact c1.set_ a _
theorem Bq.inAt (h : Bq d b0 g A c gi go ga gb w J) {a : Nat} (ha : a < 2 * d.crs.length + 1) : ∃ x y X : Int, w.cell? ⟨gi, a * 2, none⟩ = some (.int .i64 x) ∧ w.cell? ⟨gi, a * 2 + 1, none⟩ = some (.int .i64 y) ∧ w.cell? ⟨ga, a, none⟩ = some (.int .i64 X) ∧
    w.frozen? ⟨gi, a * 2, none⟩ = false ∧ w.frozen? ⟨gi, a * 2 + 1, none⟩ = false ∧ w.frozen? ⟨ga, a, none⟩ = false ∧ gi ≠ ga ∧ ga ≠ gi ∧ Hid (Go.Proofs.Ytkcighnochjlgaa.gi (cntL d false J) a = X) ∧ 0 ≤ X ∧ X ≤ J := by
  have hl : a < (tabL d false J).length := by rw [Uo]; exact ha
  have hne : gi ≠ ga := by
    rcases h.ti.ne_ (U13 h.ci) (by decide) with h | h
    · simp [Value.ownBlock] at h
    · simpa [Value.ownBlock] using h
  have hx := cntP_le d a false J
  exact ⟨_, _, _, h.ti.cell hl (j := 0) (by decide) rfl, h.ti.cell hl (j := 1) (by decide) rfl, h.ci.cell (by rw [U17]; exact ha), h.ti.free _, h.ti.free _, h.ci.free _, hne, hne.symm, rfl,
    by rw [U18 ha]; omega, by rw [U18 ha]; omega⟩
theorem Bq.outAt (h : Bq d b0 g A c gi go ga gb w J) {a : Nat} (ha : a < 2 * d.crs.length + 1) : ∃ x y X : Int, w.cell? ⟨go, a * 2, none⟩ = some (.int .i64 x) ∧ w.cell? ⟨go, a * 2 + 1, none⟩ = some (.int .i64 y) ∧ w.cell? ⟨gb, a, none⟩ = some (.int .i64 X) ∧
    w.frozen? ⟨go, a * 2, none⟩ = false ∧ w.frozen? ⟨go, a * 2 + 1, none⟩ = false ∧ w.frozen? ⟨gb, a, none⟩ = false ∧ go ≠ gb ∧ gb ≠ go ∧ Hid (Go.Proofs.Ytkcighnochjlgaa.gi (cntL d true J) a = X) ∧ 0 ≤ X ∧ X ≤ J := by
  have hl : a < (tabL d true J).length := by rw [Uo]; exact ha
  have hne : go ≠ gb := by
    rcases h.tu.ne_ (U13 h.co) (by decide) with h | h
    · simp [Value.ownBlock] at h
    · simpa [Value.ownBlock] using h
  have hx := cntP_le d a true J
  exact ⟨_, _, _, h.tu.cell hl (j := 0) (by decide) rfl, h.tu.cell hl (j := 1) (by decide) rfl, h.co.cell (by rw [U17]; exact ha), h.tu.free _, h.tu.free _, h.co.free _, hne, hne.symm, rfl,
    by rw [U18 ha]; omega, by rw [U18 ha]; omega⟩
end
def IsSh (w : World) (b0 : Nat) (v : Value) (d : Dg) : Prop :=
  ∃ g A c gi go, v = .pointer (some ⟨g, 0, none⟩) ∧ b0 ≤ g ∧ gi ≠ go ∧
    Blk w g 114 #[.slice A d.crs.length c, .int .i64 d.loops, .slice (some ⟨gi, 0, none⟩) (2 * d.crs.length + 1) (2 * d.crs.length + 1), .slice (some ⟨go, 0, none⟩) (2 * d.crs.length + 1) (2 * d.crs.length + 1)] ∧
    Ow codCr 111 w b0 (.slice A d.crs.length c) d.crs ∧
    Ow codPl 196 w b0 (.slice (some ⟨gi, 0, none⟩) (2 * d.crs.length + 1) (2 * d.crs.length + 1)) (tabL d false (4 * d.crs.length)) ∧
    Ow codPl 196 w b0 (.slice (some ⟨go, 0, none⟩) (2 * d.crs.length + 1) (2 * d.crs.length + 1)) (tabL d true (4 * d.crs.length))
theorem Bq.isSh {d : Dg} {b0 g c gi go ga gb : Nat} {A : Option Addr} {w : World} (h : Bq d b0 g A c gi go ga gb w (4 * d.crs.length)) : IsSh w b0 (.pointer (some ⟨g, 0, none⟩)) d :=
  ⟨g, A, c, gi, go, rfl, h.lt, h.n1, h.sh, h.cr, h.ti, h.tu⟩
def NoShPost (w : World) (e : Ending) (w' : World) : Prop := e = .returned (.tuple #[.pointer none, .bool false]) ∧ Kp w w'
def ShPost (d : Dg) (w : World) (e : Ending) (w' : World) : Prop := ∃ v, e = .returned (.tuple #[v, .bool true]) ∧ Kp w w' ∧ IsSh w' w.heap.size v d
def BuildPost (b : Bool) (d : Dg) (w : World) (e : Ending) (w' : World) : Prop := (b = false ∧ NoShPost w e w') ∨ (b = true ∧ ShPost d w e w')
set_option maxRecDepth 100000 in
set_option maxHeartbeats 4000000 in
theorem build_any (v : Value) (d : Dg) (w : World) (hd : IsDg w w.heap.size v d) (hn : d.crs.length ≤ 16) :
    Calls Try.prog 148 #[v] w (BuildPost (Ue d) d w) := by
  obtain ⟨A, cap, rfl, hcap, hr⟩ := hd
  have hm := fun W => make_of slPl (2 * d.crs.length + 1) (2 * (d.crs.length : Int) + 1) (by omega) (by omega) W
  have hm2 := fun W => make_of slInt (2 * d.crs.length + 1) (2 * (d.crs.length : Int) + 1) (by omega) (by omega) W
  generalize hZ : madeCells (Value.agg #[.int .i64 0, .int .i64 0]).cells ((2 * d.crs.length + 1) * 2) = Z at *
  generalize hY : madeCells (Value.int .i64 0).cells ((2 * d.crs.length + 1) * 1) = Y at *
  have HZ := Lib.hid hZ
  have HY := Lib.hid hY
  clear hZ hY
  go_enter Try.func148, Try.ntmps148
  have W0 : IntKind.i64.wrap (2 * (d.crs.length : Int)) = 2 * (d.crs.length : Int) := IntWalk.i64_in _ (by omega)
  have W1 : IntKind.i64.wrap (2 * (d.crs.length : Int) + 1) = 2 * (d.crs.length : Int) + 1 := IntWalk.i64_in _ (by omega)
  have E0 : Hid ((w.alloc (.cells #[.slice A d.crs.length cap, .int .i64 d.loops] 51)).cell? ⟨w.heap.size, 0, none⟩ = some (.slice A d.crs.length cap)) := (Blk.new _ _ _).cell 0 rfl
  have E1 : Hid ((w.alloc (.cells #[.slice A d.crs.length cap, .int .i64 d.loops] 51)).cell? ⟨w.heap.size, 1, none⟩ = some (.int .i64 d.loops)) := (Blk.new _ _ _).cell 1 rfl
  go_upto_region 2 with (fail)
  go_cut [5] (fun p wx => Kp (w.alloc (.cells #[.slice A d.crs.length cap, .int .i64 d.loops] 51)) wx ∧ Sh d w wx p (tabL d false 0) (tabL d true 0))
  case first =>
    go_region_held3 (fun W => W.cell? ⟨w.heap.size, 0, none⟩ = some (.slice A d.crs.length cap) ∧ W.cell? ⟨w.heap.size, 1, none⟩ = some (.int .i64 d.loops)) (go_keep) (first
      | (go_at_call 123; refine (cloneCrs A cap d.crs _ (hr.kp (by repeat (with_reducible (first | exact Kp.refl _ | refine Kp.alloc ?_ _ | refine Kp.drew ?_))))).mono ?_; rintro e w1 ⟨A1, c1, rfl, ho1, hk1⟩; have hq : Kp (w.alloc (.cells #[.slice A d.crs.length cap, .int .i64 d.loops] 51)) w1 := Kp.trans (by repeat (with_reducible (first | exact Kp.refl _ | refine Kp.alloc ?_ _ | refine Kp.drew ?_))) hk1; have q0 := hq.c E0.out; have q1 := hq.c E1.out; obtain ⟨l0, l1, l2, l3, l4⟩ := lts hq.alt))
    all_goals
      have lk := hk1.size
      simp at lk
      go_wp2_with fail
      go_meet
      refine ⟨?_, _, A1, c1, _, _, rfl, Blk.new' _ _ _ (by simp), ?_, ?_, ?_, ?_, ?_⟩
      · repeat (with_reducible (first | exact Kp.refl _ | refine Kp.alloc ?_ _ | refine Kp.drew ?_ | refine Kp.trans ?_ hk1))
      · omega
      · omega
      · refine (Ow.base (ho1.kp ?_) (by simp)); repeat (with_reducible (first | exact Kp.refl _ | refine Kp.alloc ?_ _ | refine Kp.drew ?_))
      · rw [tabL_zero]
        refine Ow.made (C := codPl) (z := .agg #[.int .i64 0, .int .i64 0]) rfl ?_ (by first | omega | (simp; done) | (simp; omega)) (by unfold maxLen; omega)
        change Blk _ _ _ (madeCells (Value.agg #[.int .i64 0, .int .i64 0]).cells ((2 * d.crs.length + 1) * 2))
        rw [HZ.out]
        repeat (first | ((with_reducible refine Blk.new' _ _ _ ?_); (simp; done)) | with_reducible refine Blk.alloc ?_ _ | with_reducible refine Blk.drew ?_ | with_reducible refine Blk.kp ?_ hk1)
      · rw [tabL_zero]
        refine Ow.made (C := codPl) (z := .agg #[.int .i64 0, .int .i64 0]) rfl ?_ (by first | omega | (simp; done) | (simp; omega)) (by unfold maxLen; omega)
        change Blk _ _ _ (madeCells (Value.agg #[.int .i64 0, .int .i64 0]).cells ((2 * d.crs.length + 1) * 2))
        rw [HZ.out]
        repeat (first | ((with_reducible refine Blk.new' _ _ _ ?_); (simp; done)) | with_reducible refine Blk.alloc ?_ _ | with_reducible refine Blk.drew ?_ | with_reducible refine Blk.kp ?_ hk1)
  case rest =>
    obtain ⟨hkc, hS⟩ := hcut
    have hr' := Lib.hid hr
    clear hm hr E0 E1
    go_upto_region 3 with (fail)
    go_cut [6, 7] (fun ci co wx => Kp (w.alloc (.cells #[.slice A d.crs.length cap, .int .i64 d.loops] 51)) wx ∧ Bs d w wx u5 ci co 0)
    case first =>
      go_region
      all_goals
        have lk := hkc.size
        simp at lk
        go_wp2_with fail
        go_meet
        refine ⟨?_, ?_, _, _, rfl, rfl, ?_, ?_, ?_⟩
        · repeat (with_reducible (first | exact Kp.refl _ | refine Kp.alloc ?_ _ | refine Kp.drew ?_ | refine Kp.trans ?_ hkc))
        · refine hS.kp ?_
          repeat (with_reducible (first | exact Kp.refl _ | refine Kp.alloc ?_ _ | refine Kp.drew ?_))
        · omega
        · rw [cntL_zero]
          refine OwnI.of_ow (Ow.made (C := codI) (z := .int .i64 0) rfl ?_ (by first | omega | (simp; done) | (simp; omega)) (by unfold maxLen; omega))
          change Blk _ _ _ (madeCells (Value.int .i64 0).cells ((2 * d.crs.length + 1) * 1))
          rw [HY.out]
          repeat (first | ((with_reducible refine Blk.new' _ _ _ ?_); (simp; done)) | with_reducible refine Blk.alloc ?_ _ | with_reducible refine Blk.drew ?_)
        · rw [cntL_zero]
          refine OwnI.of_ow (Ow.made (C := codI) (z := .int .i64 0) rfl ?_ (by first | omega | (simp; done) | (simp; omega)) (by unfold maxLen; omega))
          change Blk _ _ _ (madeCells (Value.int .i64 0).cells ((2 * d.crs.length + 1) * 1))
          rw [HY.out]
          repeat (first | ((with_reducible refine Blk.new' _ _ _ ?_); (simp; done)) | with_reducible refine Blk.alloc ?_ _ | with_reducible refine Blk.drew ?_)
    case rest =>
      clear hkc hS hm2 W0 W1
      obtain ⟨hkc, ⟨g, A1, c1, gi, go, rfl, hb, n1, hl, o1, o2, o3⟩, ga, gb, rfl, rfl, n2, o4, o5⟩ := hcut
      have hQ : Bq d (w.heap.size + 1) g A1 c1 gi go ga gb wc 0 := ⟨hb, o1, o2, o3, o4, o5, n1, n2, by omega⟩
      clear hb n1 n2 o1 o2 o3 o4 o5
      have hkx : Kp w wc := hkc.al
      have hx := (Blk.new w 51 #[.slice A d.crs.length cap, .int .i64 d.loops]).kp hkc
      obtain ⟨e0, e1, e2, e3⟩ := hx.two
      clear HZ HY
      go_wp2_with fail
      go_loopw [43] (fun i wr => ∃ n : Nat, n ≤ d.crs.length ∧ i = .int .i64 n ∧ Kp w wr ∧ Bq d (w.heap.size + 1) g A1 c1 gi go ga gb wr (4 * n) ∧ Hid (∀ j, j < 4 * n → 1 ≤ arcJ d j ∧ arcJ d j ≤ 2 * (d.crs.length : Int))) (fun i _ => d.crs.length - (intOf i).toNat)
      case atStart => exact ⟨0, Nat.zero_le _, rfl, hkx, hQ, fun j hj => by omega⟩
      case round =>
        clear hQ hkx e0 e1 e2 e3 hx hkc
        obtain ⟨n, hn', rfl, hk, hQ, hrg⟩ := hrel
        by_cases hlt : n < d.crs.length
        · obtain ⟨b, off, rfl, hb1, k0, k1, k2, k3, k4⟩ := crAt (hr'.out.kp hk) hlt
          obtain ⟨wo, rfl⟩ : ∃ wo : World, wo = wr := ⟨_, rfl⟩
          obtain ⟨l0, l1, l2, l3, l4⟩ := lts hb1
          have hx := Blk.new wo 111 #[.int .i64 (Go.Proofs.Ytkcighnochjlgaa.ga d.crs n).a, .int .i64 (Go.Proofs.Ytkcighnochjlgaa.ga d.crs n).b, .int .i64 (Go.Proofs.Ytkcighnochjlgaa.ga d.crs n).c, .int .i64 (Go.Proofs.Ytkcighnochjlgaa.ga d.crs n).d, .bool (Go.Proofs.Ytkcighnochjlgaa.ga d.crs n).plus]
          have hx0 : ∀ k, k < 4 → arcJ d (4 * n + k) = crArc (Go.Proofs.Ytkcighnochjlgaa.ga d.crs n) k ∧ Ui d ((4 * n + k) / 4) ((4 * n + k) % 4) = crIn (Go.Proofs.Ytkcighnochjlgaa.ga d.crs n) k ∧ (4 * n + k) / 4 = n ∧ (4 * n + k) % 4 = k := fun k hk => by
            have h1 : (4 * n + k) / 4 = n := by omega
            have h2 : (4 * n + k) % 4 = k := by omega
            unfold arcJ Uu Ui
            rw [h1, h2]
            exact ⟨rfl, rfl, rfl, rfl⟩
          have HX := Lib.hid hx0
          clear hx0
          generalize Go.Proofs.Ytkcighnochjlgaa.ga d.crs n = x at *
          go_wp2_with fail
          go_loopw [48] (fun i wr => ∃ m : Nat, m ≤ 4 ∧ i = .int .i64 m ∧ Kp w wr ∧ Bq d (w.heap.size + 1) g A1 c1 gi go ga gb wr (4 * n + m) ∧ Hid (∀ j, j < 4 * n + m → 1 ≤ arcJ d j ∧ arcJ d j ≤ 2 * (d.crs.length : Int)) ∧
            Blk wr wo.heap.size 111 #[.int .i64 x.a, .int .i64 x.b, .int .i64 x.c, .int .i64 x.d, .bool x.plus]) (fun i _ => 4 - (intOf i).toNat)
          case atStart => exact ⟨0, Nat.zero_le _, rfl, hk.alloc _, hQ.kp ((Kp.refl _).alloc _), hrg.out, hx⟩
          case round =>
            clear hQ hk hrg hx k0 k1 k2 k3 k4 l0 l1 l2 l3 l4 hb1
            obtain ⟨m, hm, rfl, hk, hQ, hrg, hx⟩ := hrel
            by_cases hm4 : m < 4
            · obtain ⟨k0, k1, k2, k3, k4⟩ := hx.cr
              obtain ⟨l0, l1, l2, l3, l4⟩ := lts hx.lt
              obtain ⟨hj, hen, hq1, hq2⟩ := HX.out m hm4
              by_cases hlo : 1 ≤ crArc x m
              · by_cases hhi : crArc x m ≤ 2 * (d.crs.length : Int)
                · obtain ⟨a, ha⟩ := Int.eq_ofNat_of_zero_le (show 0 ≤ crArc x m by omega)
                  rw [ha] at hlo hhi hj
                  have ha' := Lib.hid ha
                  clear ha
                  cases he : crIn x m
                  · rw [he] at hen
                    have he' := Lib.hid he
                    have hN := fun w' (h : Bq d (w.heap.size + 1) g A1 c1 gi go ga gb w' (4 * n + m)) => h.hitOut (a := a) (by omega) hj hen
                    rw [hq1, hq2] at hN
                    have HN := Lib.hid hN
                    have hj' := Lib.hid hj
                    clear hN hj hen hq1 hq2 he
                    go_wp2_with fail
                    refine (arc_any x m _ hm4).mono ?_; rintro e w1 ⟨rfl, hk1⟩
                    rw [ha'.out]
                    obtain ⟨cc, cf⟩ := hk1.cf (n := wr.heap.size) rfl
                    go_wp2_with fail
                    refine (comes_any x m _ hm4).mono ?_; rintro e w2 ⟨rfl, hk2⟩
                    rw [he'.out]
                    clear cc cf
                    have hQ2 := (hQ.kp hk1).kp hk2
                    have hx2 := (hx.kp hk1).kp hk2
                    have b1 : wo.heap.size ≠ go := fun e => blk_ne hQ2.tu hx2 (by decide) (by rw [e]; rfl)
                    have b2 : wo.heap.size ≠ gb := fun e => blk_ne (U13 hQ2.co) hx2 (by decide) (by rw [e]; rfl)
                    have b3 := (hQ2.tu.lt go rfl).1
                    have b4 := (hQ2.co.lt gb rfl).1
                    obtain ⟨s0, s1, s2, s3⟩ := hQ2.sh.four
                    obtain ⟨x0, y0, X, t0, t1, t2, t3, t4, t5, t6, t7, hX, X0, X1⟩ := hQ2.outAt (a := a) (by omega)
                    go_wp2_with fail
                    go_roundw
                    case rel =>
                      have hq := HN.out w2 hQ2
                      rw [hX.out] at hq
                      exact ⟨m + 1, by omega, by go_num, ((((hk.trans hk1).trans hk2).setCell (p := ⟨go, a * 2, none⟩) (by simp; omega) _).setCell (p := ⟨go, a * 2 + 1, none⟩) (by simp; omega) _).setCell (p := ⟨gb, a, none⟩) (by simp; omega) _, hq,
                        fun j h => by
                          rcases Nat.lt_or_ge j (4 * n + m) with h1 | h1
                          · exact hrg.out j h1
                          · obtain rfl : j = 4 * n + m := by omega
                            rw [hj'.out]; omega,
                        ((hx2.far (p := ⟨go, a * 2, none⟩) b1 _).far (p := ⟨go, a * 2 + 1, none⟩) b1 _).far (p := ⟨gb, a, none⟩) b2 _⟩
                    case measure => simp [intOf] <;> omega
                  · rw [he] at hen
                    have he' := Lib.hid he
                    have hN := fun w' (h : Bq d (w.heap.size + 1) g A1 c1 gi go ga gb w' (4 * n + m)) => h.hitIn (a := a) (by omega) hj hen
                    rw [hq1, hq2] at hN
                    have HN := Lib.hid hN
                    have hj' := Lib.hid hj
                    clear hN hj hen hq1 hq2 he
                    go_wp2_with fail
                    refine (arc_any x m _ hm4).mono ?_; rintro e w1 ⟨rfl, hk1⟩
                    rw [ha'.out]
                    obtain ⟨cc, cf⟩ := hk1.cf (n := wr.heap.size) rfl
                    go_wp2_with fail
                    refine (comes_any x m _ hm4).mono ?_; rintro e w2 ⟨rfl, hk2⟩
                    rw [he'.out]
                    clear cc cf
                    have hQ2 := (hQ.kp hk1).kp hk2
                    have hx2 := (hx.kp hk1).kp hk2
                    have b1 : wo.heap.size ≠ gi := fun e => blk_ne hQ2.ti hx2 (by decide) (by rw [e]; rfl)
                    have b2 : wo.heap.size ≠ ga := fun e => blk_ne (U13 hQ2.ci) hx2 (by decide) (by rw [e]; rfl)
                    have b3 := (hQ2.ti.lt gi rfl).1
                    have b4 := (hQ2.ci.lt ga rfl).1
                    obtain ⟨s0, s1, s2, s3⟩ := hQ2.sh.four
                    obtain ⟨x0, y0, X, t0, t1, t2, t3, t4, t5, t6, t7, hX, X0, X1⟩ := hQ2.inAt (a := a) (by omega)
                    go_wp2_with fail
                    go_roundw
                    case rel =>
                      have hq := HN.out w2 hQ2
                      rw [hX.out] at hq
                      exact ⟨m + 1, by omega, by go_num, ((((hk.trans hk1).trans hk2).setCell (p := ⟨gi, a * 2, none⟩) (by simp; omega) _).setCell (p := ⟨gi, a * 2 + 1, none⟩) (by simp; omega) _).setCell (p := ⟨ga, a, none⟩) (by simp; omega) _, hq,
                        fun j h => by
                          rcases Nat.lt_or_ge j (4 * n + m) with h1 | h1
                          · exact hrg.out j h1
                          · obtain rfl : j = 4 * n + m := by omega
                            rw [hj'.out]; omega,
                        ((hx2.far (p := ⟨gi, a * 2, none⟩) b1 _).far (p := ⟨gi, a * 2 + 1, none⟩) b1 _).far (p := ⟨ga, a, none⟩) b2 _⟩
                    case measure => simp [intOf] <;> omega
                · have hno := Lib.hid (arcs_not (d := d) (j := 4 * n + m) (by omega) (by rw [hj]; omega))
                  clear hj hen hq1 hq2
                  go_wp2_with fail
                  refine (arc_any x m _ hm4).mono ?_; rintro e w1 ⟨rfl, hk1⟩
                  go_wp2_with fail
                  go_ret2
                  exact .inl ⟨hno.out, rfl, hk.trans hk1⟩
              · have hno := Lib.hid (arcs_not (d := d) (j := 4 * n + m) (by omega) (by rw [hj]; omega))
                clear hj hen hq1 hq2
                go_wp2_with fail
                refine (arc_any x m _ hm4).mono ?_; rintro e w1 ⟨rfl, hk1⟩
                go_wp2_with fail
                go_ret2
                exact .inl ⟨hno.out, rfl, hk.trans hk1⟩
            · obtain rfl : m = 4 := by omega
              go_wp2_with fail
              go_roundw
              case rel => exact ⟨n + 1, by omega, by go_num, hk, hQ, hrg.out⟩
              case measure => simp [intOf] <;> omega
        · obtain rfl : n = d.crs.length := by omega
          go_wp2_with fail
          obtain ⟨wo, rfl⟩ : ∃ wo : World, wo = wr := ⟨_, rfl⟩
          go_loop [12] (fun i => ∃ a : Nat, 1 ≤ a ∧ a ≤ 2 * d.crs.length + 1 ∧ i = .int .i64 a ∧ Hid (∀ a' : Nat, 1 ≤ a' → a' < a → arcOk d a' = true)) (fun i => 2 * d.crs.length + 1 - (intOf i).toNat)
          case atStart => exact ⟨1, by omega, by omega, rfl, fun a h1 h2 => by omega⟩
          case round =>
            obtain ⟨a, ha0, ha1, rfl, hok⟩ := hrel
            by_cases hlt2 : a ≤ 2 * d.crs.length
            · have ca := hQ.ci.cell (i := a) (by rw [U17]; omega)
              have cb := hQ.co.cell (i := a) (by rw [U17]; omega)
              rw [U18 (by omega)] at ca cb
              have hao : arcOk d a = (cntP d a false (4 * d.crs.length) == 1 && cntP d a true (4 * d.crs.length) == 1) := rfl
              generalize cntP d a false (4 * d.crs.length) = X at *
              generalize cntP d a true (4 * d.crs.length) = Y at *
              by_cases hX : X = 1
              · subst hX
                by_cases hY : Y = 1
                · subst hY
                  have hao' : Hid (arcOk d a = true) := hao
                  clear hao
                  go_wp2_with fail
                  go_round
                  case rel => exact ⟨a + 1, by omega, by omega, by go_num, fun a' h1 h2 => by
                    rcases Nat.lt_or_ge a' a with h | h
                    · exact hok.out a' h1 h
                    · obtain rfl : a' = a := by omega
                      exact hao'.out⟩
                  case measure => simp [intOf] <;> omega
                · have hno := Lib.hid (arcsB_no ha0 hlt2 (by rw [hao]; simp [hY]))
                  have t1 : (((Y : Int) != 1) : Bool) = true := by simp only [bne_iff_ne, ne_eq]; omega
                  clear hao hY
                  go_wp2_with fail
                  go_ret2
                  exact .inl ⟨hno.out, rfl, hk⟩
              · have hno := Lib.hid (arcsB_no ha0 hlt2 (by rw [hao]; simp [hX]))
                have t1 : (((X : Int) != 1) : Bool) = true := by simp only [bne_iff_ne, ne_eq]; omega
                clear hao hX
                go_wp2_with fail
                go_ret2
                exact .inl ⟨hno.out, rfl, hk⟩
            · have hyes := Lib.hid (arcsB_yes (d := d) fun a' h1 h2 => hok.out a' h1 (by omega))
              go_wp2_with fail
              go_ret2
              obtain ⟨g', A', c', gi', go', r1, r2, r3⟩ := hQ.isSh
              exact .inr ⟨hyes.out, _, rfl, hk, g', A', c', gi', go', r1, by omega, r3.1, r3.2.1, r3.2.2.1.base (by omega), r3.2.2.2.1.base (by omega), r3.2.2.2.2.base (by omega)⟩
theorem new_size {n : Nat} {loops : Int} (h : ¬ (n ≤ 16 ∧ 0 ≤ loops ∧ loops ≤ 16 ∧ ¬ (n = 0 ∧ loops = 0))) : 16 < n ∨ (n ≤ 16 ∧ loops < 0) ∨ (n ≤ 16 ∧ 16 < loops) ∨ (n = 0 ∧ loops = 0) := by omega
set_option maxRecDepth 100000 in
set_option maxHeartbeats 2000000 in
theorem new_any (v : Value) (d : Dg) (w : World) (hd : IsDg w w.heap.size v d) : Calls Try.prog 114 #[v] w (BuildPost (mayB d) d w) := by
  obtain ⟨A, cap, rfl, hcap, hr⟩ := hd
  have hrm : d.crs.length * 40 ≤ 140737488355328 := hr.room
  by_cases h : d.crs.length ≤ 16 ∧ 0 ≤ d.loops ∧ d.loops ≤ 16 ∧ ¬ (d.crs.length = 0 ∧ d.loops = 0)
  · have hm : mayB d = Ue d := by rw [mayB_arcs, decide_eq_true h, Bool.true_and]
    rw [hm]
    clear hm
    obtain ⟨h1, h2, h3, h4⟩ := h
    have hb := Lib.hid fun w' (hk : Kp w w') => build_any (.agg #[.slice A d.crs.length cap, .int .i64 d.loops]) d w' ⟨A, cap, rfl, hcap, hr.kp hk⟩ h1
    have t1 : ((((d.crs.length : Int) + d.loops) == 0) : Bool) = false := by rw [beq_eq_false_iff_ne]; omega
    clear h4 hr
    generalize Ue d = b at *
    go_enter Try.func114, Try.ntmps114
    go_wp2_with fail
    refine (hb.out _ ((Kp.refl _).alloc _)).mono ?_
    rintro e w1 (⟨hb0, rfl, hk⟩ | ⟨hb1, v, rfl, hk, hs⟩)
    · have hb0' := Lib.hid hb0
      clear hb0
      go_wp2_with fail
      go_ret2
      exact .inl ⟨hb0'.out, rfl, hk.al⟩
    · have hb1' := Lib.hid hb1
      clear hb1
      go_wp2_with fail
      go_ret2
      obtain ⟨g', A', c', gi', go', r1, r2, r3⟩ := hs
      simp at r2
      exact .inr ⟨hb1'.out, v, rfl, hk.al, g', A', c', gi', go', r1, by omega, r3.1, r3.2.1, r3.2.2.1.base (by simp), r3.2.2.2.1.base (by simp), r3.2.2.2.2.base (by simp)⟩
  · rw [mayB_size h]
    have hc := new_size h
    clear h hr
    obtain ⟨cs, loops⟩ := d
    dsimp only at *
    generalize cs.length = n at *
    rcases hc with hc | ⟨hc, hc'⟩ | ⟨hc, hc'⟩ | ⟨rfl, rfl⟩
    all_goals
      go_enter Try.func114, Try.ntmps114
      go_wp2_with fail
      go_ret2
      exact .inl ⟨rfl, rfl, (Kp.refl _).alloc _⟩
end Go.Proofs.Ytkcighnochjlgaa
namespace Go.Proofs.Ytkcighnochjlgaa
open Go.ChangeShapes Go.WideShapes Go.ChangeAt Go.RowKit
theorem Ow.rd {α : Type} {C : Cod α} {E : TypeId} {w : World} {b n c : Nat} {A : Option Addr} {xs : List α} (h : Ow C E w b (.slice A n c) xs) (hr : xs.length * C.u8 ≤ 140737488355328) : Rd C w w.heap.size A xs := by
  obtain rfl := h.n_eq
  exact Sl.of_own h hr
theorem IsSh.look {w : World} {b0 : Nat} {v : Value} {d : Dg} (h : IsSh w b0 v d) (hn : d.crs.length ≤ 16) : ∃ g A c gi go, v = .pointer (some ⟨g, 0, none⟩) ∧ g < w.heap.size ∧ gi < w.heap.size ∧ go < w.heap.size ∧
    w.cell? ⟨g, 0, none⟩ = some (.slice A d.crs.length c) ∧ w.cell? ⟨g, 1, none⟩ = some (.int .i64 d.loops) ∧
    w.cell? ⟨g, 2, none⟩ = some (.slice (some ⟨gi, 0, none⟩) (2 * d.crs.length + 1) (2 * d.crs.length + 1)) ∧ w.cell? ⟨g, 3, none⟩ = some (.slice (some ⟨go, 0, none⟩) (2 * d.crs.length + 1) (2 * d.crs.length + 1)) ∧
    Rd codCr w w.heap.size A d.crs ∧
    Hid (∀ a, a < 2 * d.crs.length + 1 → w.cell? ⟨gi, a * 2, none⟩ = some (.int .i64 (lastP d a false (4 * d.crs.length)).1) ∧ w.cell? ⟨gi, a * 2 + 1, none⟩ = some (.int .i64 (lastP d a false (4 * d.crs.length)).2)) ∧
    Hid (∀ a, a < 2 * d.crs.length + 1 → w.cell? ⟨go, a * 2, none⟩ = some (.int .i64 (lastP d a true (4 * d.crs.length)).1) ∧ w.cell? ⟨go, a * 2 + 1, none⟩ = some (.int .i64 (lastP d a true (4 * d.crs.length)).2)) := by
  obtain ⟨g, A, c, gi, go, rfl, r2, r3, r4, r5, r6, r7⟩ := h
  obtain ⟨s0, s1, s2, s3⟩ := r4.four
  refine ⟨g, A, c, gi, go, rfl, r4.lt, (r6.lt gi rfl).2, (r7.lt go rfl).2, s0, s1, s2, s3, r5.rd (by show d.crs.length * 40 ≤ _; omega), fun a ha => ?_, fun a ha => ?_⟩
  · have h0 := r6.cell (i := a) (by rw [Uo]; exact ha) (j := 0) (by decide) rfl
    have h1 := r6.cell (i := a) (by rw [Uo]; exact ha) (j := 1) (by decide) rfl
    rw [U1r ha] at h0 h1
    exact ⟨h0, h1⟩
  · have h0 := r7.cell (i := a) (by rw [Uo]; exact ha) (j := 0) (by decide) rfl
    have h1 := r7.cell (i := a) (by rw [Uo]; exact ha) (j := 1) (by decide) rfl
    rw [U1r ha] at h0 h1
    exact ⟨h0, h1⟩
theorem endOf_lt {d : Dg} (h : Ue d = true) {a : Nat} (h0 : 1 ≤ a) (h1 : a ≤ 2 * d.crs.length) (back : Bool) :
    (Un d a back).1 < d.crs.length ∧ (Un d a back).2 < 4 ∧ lastP d a back (4 * d.crs.length) = Un d a back ∧ Uu d (Un d a back).1 (Un d a back).2 = a ∧ Ui d (Un d a back).1 (Un d a back).2 = !back := by
  have hc : cntP d a back (4 * d.crs.length) = 1 := by cases back <;> simp [arcsB_out h a h0 h1]
  obtain ⟨j, j1, j2, j3, j4⟩ := cntP_one hc
  have e := lastP_end hc
  rw [j4] at e
  rw [← e]
  dsimp only
  unfold endP at j2
  rw [Bool.and_eq_true, decide_eq_true_iff] at j2
  refine ⟨by omega, by omega, by rw [j4], j2.1, ?_⟩
  have := j2.2
  cases back <;> cases hq : Ui d (j / 4) (j % 4) <;> simp_all
end Go.Proofs.Ytkcighnochjlgaa
namespace Go.Proofs.Ytkcighnochjlgaa
open Go.ChangeShapes Go.WideShapes Go.ChangeAt Go.RowKit
def cdPl : Cd (Nat × Nat) := ⟨plF, 2, 16, 196, (0, 0), fun _ => rfl, by
  intro x u hu
  simp [plF] at hu
  rcases hu with rfl | rfl <;> rfl⟩
section
variable {w w' : World} {M : Hp} {X : Fr} {H H' : List Rs}
theorem Kp.like (h : Kp w w') : Like w w' := ⟨h.os, h.tape, h.output, h.size⟩
theorem SH.old (S : SH w M X H) (h : Kp w w') : SH w' M X H := S.kp h.like fun b hb => h.block b hb
theorem SH.adopt {r : Rs} (S : SH w M X []) (S' : SH w' M X H') (hr : r.ok (hp w')) (hb : ∀ b ∈ r.bl, w.heap.size ≤ b ∧ b < w'.heap.size) (hdis : ∀ s ∈ H', ∀ b ∈ r.bl, b ∉ s.bl) : SH w' M X (r :: H') := by
  have fresh : ∀ b, w.heap.size ≤ b → M b = none ∧ X.h b = none := fun b hge => by
    constructor
    · cases hm : M b with
      | none => rfl
      | some o => have := U27 (S.m b o hm); omega
    · cases hm : X.h b with
      | none => rfl
      | some o => have := U27 (S.x b o hm); omega
  refine ⟨S'.m, S'.x, S'.mx, fun s hs => ?_, fun s hs b hbs => ?_, fun j k s t hjk hs ht b hbs => ?_, S'.like⟩
  · rcases List.mem_cons.1 hs with rfl | hs
    · exact hr
    · exact S'.ok s hs
  · rcases List.mem_cons.1 hs with rfl | hs
    · exact ⟨(hb b hbs).2, fresh b (hb b hbs).1⟩
    · exact S'.bl s hs b hbs
  · cases j with
    | zero =>
      cases k with
      | zero => exact absurd rfl hjk
      | succ k =>
        simp only [List.getElem?_cons_zero, Option.some.injEq, List.getElem?_cons_succ] at hs ht
        subst hs
        exact hdis t (List.mem_of_getElem? ht) b hbs
    | succ j =>
      cases k with
      | zero =>
        simp only [List.getElem?_cons_zero, Option.some.injEq, List.getElem?_cons_succ] at hs ht
        subst ht
        exact fun hbt => hdis s (List.mem_of_getElem? hs) b hbt hbs
      | succ k =>
        simp only [List.getElem?_cons_succ] at hs ht
        exact S'.ap j k s t (by omega) hs ht b hbs
theorem RdA.dg {N : Hp} {A : Option Addr} {c : Nat} {d : Dg} (h : RdA cdCr N A c d.crs) (hN : N.le (hp w)) : IsDg w w.heap.size (.agg [.slice A d.crs.length c, .int .i64 d.loops].toArray) d := by
  refine ⟨A, c, rfl, h.1, ⟨Uw codCr.hf _, h.2.1, fun h0 => ?_⟩⟩
  have hlen : 0 < d.crs.length := by simpa using h0
  obtain ⟨e, cs, T, fz, hc, _⟩ := h.2.2 hlen
  refine ⟨adB A, adO A, e, U27 (hN _ _ hc), fun j u hu => ?_⟩
  exact h.cells hN j u hu
theorem cq_bool {f : FuncId} {vs : List Value} {b : Bool} (S : SH w M X []) (h : Calls Try.prog f vs.toArray w (BoPost b w)) : Cq Try.prog f vs w M X (fun u => u = .bool b) :=
  h.mono fun e w' ⟨he, hk⟩ => ⟨_, he, S.old hk, rfl⟩
theorem DiagramMay_q (d : Dg) {A : Option Addr} {c : Nat} (h : RdA cdCr (M.un X.h) A c d.crs) (S : SH w M X []) : Cq Try.prog 85 [.agg [.slice A d.crs.length c, .int .i64 d.loops].toArray] w M X (fun u => u = .bool (mayB d)) :=
  cq_bool S (diagramMay_any _ d w (h.dg S.um))
end
def ShV (d : Dg) (vi vo : Value) : Prop := ∃ gi go, vi = .slice (some ⟨gi, 0, none⟩) (2 * d.crs.length + 1) (2 * d.crs.length + 1) ∧ vo = .slice (some ⟨go, 0, none⟩) (2 * d.crs.length + 1) (2 * d.crs.length + 1) ∧ gi ≠ go
def NewR (d : Dg) (v : Value) (N : List Rs) : Prop :=
  (mayB d = false ∧ v = .tuple [.pointer none, .bool false].toArray ∧ N = []) ∨
  (mayB d = true ∧ ∃ g vc vi vo, v = .tuple [.pointer (some ⟨g, 0, none⟩), .bool true].toArray ∧
    N = [Rs.box g 114 [vc, .int .i64 d.loops, vi, vo], Rs.row cdCr vc d.crs, Rs.row cdPl vi (tabL d false (4 * d.crs.length)), Rs.row cdPl vo (tabL d true (4 * d.crs.length))] ∧ ShV d vi vo)
theorem U25 {α : Type} {C : Cd α} {v : Value} {xs : List α} {b : Nat} (h : b ∈ (Rs.row C v xs).bl) : v.ownBlock = some b := by simpa [Rs.row] using h
theorem New_o {w : World} {M : Hp} {X : Fr} (d : Dg) {A : Option Addr} {c : Nat} (h : RdA cdCr (M.un X.h) A c d.crs) (S : SH w M X []) : Co Try.prog 114 [.agg [.slice A d.crs.length c, .int .i64 d.loops].toArray] w M X (NewR d) := by
  refine (new_any _ d w (h.dg S.um)).mono ?_
  rintro e w' (⟨hm, rfl, hk⟩ | ⟨hm, v, rfl, hk, g, B, cp, gi, go, rfl, hg, hne, hb, hc, hi, ho⟩)
  · exact ⟨_, rfl, [], S.old hk, .inl ⟨hm, rfl, rfl⟩⟩
  · have hci := hc.ne_ hi (by decide)
    have hco := hc.ne_ ho (by decide)
    have hcb := hc.ne_blk hb (by decide)
    have hib := hi.ne_blk hb (by decide)
    have hob := ho.ne_blk hb (by decide)
    have S0 := S.old hk
    have S1 : SH w' M X [Rs.row cdPl (.slice (some ⟨go, 0, none⟩) (2 * d.crs.length + 1) (2 * d.crs.length + 1)) (tabL d true (4 * d.crs.length))] :=
      S.adopt S0 (U1f.of_owns (C := cdPl) (ho.base (Nat.zero_le _))) (fun b hb => ho.lt b (U25 hb)) (by simp)
    have S2 := S.adopt S1 (r := Rs.row cdPl (.slice (some ⟨gi, 0, none⟩) (2 * d.crs.length + 1) (2 * d.crs.length + 1)) (tabL d false (4 * d.crs.length)))
      (U1f.of_owns (C := cdPl) (hi.base (Nat.zero_le _))) (fun b hb => hi.lt b (U25 hb)) (fun s hs b hb hbs => by
        rw [List.mem_singleton] at hs
        subst hs
        have h1 := U25 hb
        have h2 := U25 hbs
        simp only [Value.ownBlock, Option.some.injEq] at h1 h2
        omega)
    have S3 := S.adopt S2 (r := Rs.row cdCr (.slice B d.crs.length cp) d.crs) (U1f.of_owns (C := cdCr) (hc.base (Nat.zero_le _))) (fun b hb => hc.lt b (U25 hb)) (fun s hs b hb hbs => by
        have h1 := U25 hb
        rcases List.mem_cons.1 hs with rfl | hs
        · rcases hci with h | h
          · rw [h] at h1; cases h1
          · exact h (h1.trans (U25 hbs).symm)
        · rw [List.mem_singleton] at hs
          subst hs
          rcases hco with h | h
          · rw [h] at h1; cases h1
          · exact h (h1.trans (U25 hbs).symm))
    have S4 := S.adopt S3 (r := Rs.box g 114 [.slice B d.crs.length cp, .int .i64 d.loops, .slice (some ⟨gi, 0, none⟩) (2 * d.crs.length + 1) (2 * d.crs.length + 1), .slice (some ⟨go, 0, none⟩) (2 * d.crs.length + 1) (2 * d.crs.length + 1)])
      hb (fun b hb' => by simp [Rs.box] at hb'; subst hb'; exact ⟨hg, hb.lt⟩) (fun s hs b hb' hbs => by
        simp [Rs.box] at hb'
        subst hb'
        rcases List.mem_cons.1 hs with rfl | hs
        · rcases hcb with h | h
          · have := U25 hbs; rw [h] at this; cases this
          · exact h (U25 hbs)
        · rcases List.mem_cons.1 hs with rfl | hs
          · rcases hib with h | h
            · have := U25 hbs; rw [h] at this; cases this
            · exact h (U25 hbs)
          · rw [List.mem_singleton] at hs
            subst hs
            rcases hob with h | h
            · have := U25 hbs; rw [h] at this; cases this
            · exact h (U25 hbs))
    exact ⟨_, rfl, _, S4, .inr ⟨hm, g, _, _, _, rfl, rfl, gi, go, rfl, rfl, hne⟩⟩
end Go.Proofs.Ytkcighnochjlgaa
namespace Go.Proofs.Ytkcighnochjlgaa
open Go.ChangeShapes Go.WideShapes Go.ChangeAt Go.RowKit
section
variable {P : Program} {o : Oper} {L : List (Nat × Value)} {w w' : World} {x y z : Operand} {t t' T E : TypeId} {a b : Int} {v u : Value} {n d : Nat} {Kt : List (Nat × Value) → World → Prop} {M M' : Hp} {X : Fr} {H H' : List Rs} {i g off : Nat} {l : List Value}
theorem run_makeFunc {f : FuncId} {ys : List Operand} {vs : List Value} {fa ca : Array Operand} (hop : o.op = .makeFunc (.func f) fa ca) (hf : fa = #[]) (hc : ca = ys.toArray) (hv : oevs L ys = some vs) : Run P o L w (.func (.func f) #[] vs.toArray) w := by
  intro n c he
  unfold execOp
  subst hf
  simp only [hop, hc, List.map_toArray, he.evals hv, Instr.makeFunc, Sem.run_bind, Sem.run_pure, Result.andThen_ok]
  rfl
theorem wo_cqF {f : FuncId} {vs cap : List Value} {ca : Call} {fo : Operand} {xs : List Operand} (hd : o.dst = some d) (hop : o.op = .call ca) (hca : ca.callee = .value fo) (hfo : oev L fo = some (.func (.func f) #[] cap.toArray))
    (hxs : ca.args = xs.toArray) (hvs : oevs L xs = some vs) (hn : Nat.blt d n = true) (hen : ∀ args w, (callFunc f args).run P w = .ok (.enter f args) w) (S : SH w M X H)
    {R : Value → Prop} (hcall : Cq P f (vs ++ cap) w M (XH w X H) R) (h : ∀ v w', SH w' M X H → R v → Kt ((d, v) :: L) w') : WO P n o L w Kt := by
  intro a ha next Q hk
  have hr : (execOp a.eval o).run P w = .ok (.enter f (vs ++ cap).toArray) w := by
    unfold execOp
    simp only [hop, resolve, hca, ha.eval hfo, hxs, List.map_toArray, ha.evals hvs, Deferred.ofValue, Sem.run_bind, Sem.run_pure, Result.andThen_ok, invoke, Array.empty_append, List.append_toArray]
    exact hen _ _
  unfold Oper.wp
  rw [hr, Oper.upon_enter, hd]
  refine hcall.mono ?_
  rintro e w' ⟨v, rfl, h2, h4⟩
  exact hk _ _ _ (ha.put (by simpa using hn) v) (h v w' (S.back h2) h4)
theorem SH.boxM (S : SH w M X H) (hi : nth H i = some (Rs.box g E l)) : BxM (M.un (XH w X H).h) g E l := by
  have hmem : Rs.box g E l ∈ H := by rw [Up] at hi; exact List.mem_of_getElem? hi
  have h1 := S.bl _ hmem g (by simp [Rs.box])
  have h2 : hp w g = some (.cells l.toArray E (0, 0)) := S.get hi
  unfold BxM
  have h3 : (H.any fun r => r.bl.contains g) = true := any_bl.2 ⟨_, hmem, List.mem_singleton.2 rfl⟩
  simp only [Hp.un, h1.2.1, XH, h3, if_true, h2]
theorem run_max {ca : Call} {ops : List Operand} {ts : List TypeId} (hop : o.op = .call ca) (hca : ca.callee = .builtin .max) (hxs : ca.args = ops.toArray) (hts : ca.argTypes = ts.toArray) (hx : oevs L ops = some [.int .i64 a, .int .i64 b]) : Run P o L w (.int .i64 (max a b)) w := by
  intro n c he
  have e : (if b > a then b else a) = max a b := by
    by_cases h : b > a
    · rw [if_pos h]; omega
    · rw [if_neg h]; omega
  unfold execOp
  simp only [hop, resolve, hca, hxs, hts, List.map_toArray, he.evals hx, Sem.run_bind, Sem.run_pure, Result.andThen_ok, invoke, builtin, Builtin.max_, List.foldlM_cons, List.foldlM_nil, Builtin.max2, e]
theorem run_sliceI {A : Option Addr} {len cap lo hi size : Nat} {lx hx : Option Operand} {lv hv : Option Value} (hop : o.op = .slice T x lx hx none) (hxx : oev L x = some (.slice A len cap)) (hlo : lx.map (oev L) = lv.map some) (hhi : hx.map (oev L) = hv.map some) (hu : P.underlying T = some (.slice E)) (hk : (P.info? E).map (·.size) = some size)
    (h1 : (lv = none ∧ lo = 0) ∨ lv = some (.int .i64 (lo : Int))) (h2 : (hv = none ∧ hi = len) ∨ hv = some (.int .i64 (hi : Int))) (hle : lo ≤ hi) (hc : hi ≤ cap) :
    Run P o L w (.slice (if cap = lo then A else A.map (·.add (lo * size))) (hi - lo) (cap - lo)) w := by
  intro n c he
  have e1 : lx.map c.eval = lv := by
    cases lx <;> cases lv <;> simp at hlo ⊢
    exact he.eval hlo
  have e2 : hx.map c.eval = hv := by
    cases hx <;> cases hv <;> simp at hhi ⊢
    exact he.eval hhi
  have g1 : (0 : Int) ≤ (lo : Int) ∧ (lo : Int) ≤ (hi : Int) := by omega
  have g2 : (0 : Int) ≤ (hi : Int) ∧ (hi : Int) ≤ (cap : Int) := by omega
  unfold execOp
  rcases h1 with ⟨rfl, rfl⟩ | rfl <;> rcases h2 with ⟨rfl, rfl⟩ | rfl <;>
    simp only [hop, he.eval hxx, e1, e2, Instr.sliceAt, Instr.slice, Instr.sliceBounds, Instr.sliceBound, asIntOf, Option.map_none, Sem.run_bind, Sem.run_pure, Result.andThen_ok, run_underlying hu, run_sizeOf hk, g1, g2, and_self, if_true, Int.toNat_natCast, Option.isSome_none, Bool.false_eq_true, if_false]
end
section
variable {α : Type} {C : Cd α} {N : Hp} {vs : List SlV} {xss : List (List α)}
end
end Go.Proofs.Ytkcighnochjlgaa
namespace Go.Proofs.Ytkcighnochjlgaa
open Go.ChangeShapes Go.WideShapes Go.ChangeAt Go.RowKit
section
variable {P : Program} {f : FuncId} {vs vs' : List Value} {w : World} {M : Hp} {X : Fr}
theorem Cq.cast {R : Value → Prop} (h : vs = vs') (c : Cq P f vs' w M X R) : Cq P f vs w M X R := h ▸ c
end
end Go.Proofs.Ytkcighnochjlgaa
namespace Go.Proofs.Ytkcighnochjlgaa
open Go.ChangeShapes Go.WideShapes Go.ChangeAt Go.RowKit
def SlV.v (s : SlV) : Value := .slice s.A s.n s.c
def tabBl (vs : List SlV) : List Nat := vs.flatMap (fun s => s.v.ownBlock.toList)
def TabOk {α : Type} (C : Cd α) (vs : List SlV) (xss : List (List α)) (h : Hp) : Prop :=
  vs.length = xss.length ∧ (∀ i, i < xss.length → U1f C (ga vs i).v (ga xss i) h) ∧ ∀ i j, i < vs.length → j < vs.length → i ≠ j → ∀ b ∈ (ga vs i).v.ownBlock.toList, b ∉ (ga vs j).v.ownBlock.toList
theorem tab_mem {vs : List SlV} {b : Nat} : b ∈ tabBl vs ↔ ∃ i, i < vs.length ∧ b ∈ (ga vs i).v.ownBlock.toList := by
  unfold tabBl
  rw [List.mem_flatMap]
  constructor
  · rintro ⟨s, hs, hb⟩
    obtain ⟨i, hi, rfl⟩ := List.mem_iff_getElem.1 hs
    exact ⟨i, hi, by rw [U14 hi]; exact hb⟩
  · rintro ⟨i, hi, hb⟩
    exact ⟨ga vs i, ga_mem hi, hb⟩
def Rs.tab {α : Type} (C : Cd α) (vs : List SlV) (xss : List (List α)) : Rs :=
  ⟨tabBl vs, TabOk C vs xss, fun h h' hb hk => ⟨hk.1, fun i hi => (Rs.row C (ga vs i).v (ga xss i)).loc h h' (fun b hm => hb b (tab_mem.2 ⟨i, by rw [hk.1]; exact hi, hm⟩)) (hk.2.1 i hi), hk.2.2⟩⟩
section
variable {α : Type} {C : Cd α} {xs zs : List α} {v : Value} {w w' : World} {M : Hp} {X : Fr} {H H' : List Rs} {i q g k : Nat} {T : TypeId} {l : List Value} {vs : List SlV} {xss : List (List α)} {r s t : Rs}
theorem SH.newtab (S : SH w M X H) (C : Cd α) (n : Nat) : SH w M X (Rs.tab C (List.replicate n ⟨none, 0, 0⟩) (List.replicate n []) :: H) := by
  have hb : tabBl (List.replicate n ⟨none, 0, 0⟩) = [] := by
    unfold tabBl
    rw [List.flatMap_eq_nil_iff]
    intro x hx
    rw [List.eq_of_mem_replicate hx]
    rfl
  refine S.add ⟨by simp, fun i hi => ?_, fun i j hi hj _ b hb' => ?_⟩ hb
  · rw [List.length_replicate] at hi
    rw [U24 _ _ _ hi, U24 _ _ _ hi]
    exact .inl ⟨rfl, rfl⟩
  · rw [List.length_replicate] at hi
    rw [U24 _ _ _ hi] at hb'
    cases hb'
theorem SH.newtab0 (S : SH w M X H) (C : Cd α) : SH w M X (Rs.tab C [] [] :: H) := S.newtab C 0
theorem SH.merge (S : SH w M X H) (hi : nth H i = some r) (hq : nth H q = some s) (hiq : i ≠ q) (hok : t.ok (hp w)) (hbl : ∀ b ∈ t.bl, b ∈ r.bl ∨ b ∈ s.bl) (hH : (H.set i t).set q Rs.emp = H') : SH w M X H' := by
  subst hH
  rw [Up] at hi hq
  have hget : ∀ j u, ((H.set i t).set q Rs.emp)[j]? = some u → (j = q ∧ u = Rs.emp) ∨ (j ≠ q ∧ j = i ∧ u = t) ∨ (j ≠ q ∧ j ≠ i ∧ H[j]? = some u) := fun j u hu => by
    rw [List.getElem?_set] at hu
    by_cases h1 : q = j
    · subst h1
      rw [if_pos rfl] at hu
      split at hu
      · injection hu with hu; exact .inl ⟨rfl, hu.symm⟩
      · cases hu
    · rw [if_neg h1, List.getElem?_set] at hu
      by_cases h2 : i = j
      · subst h2
        rw [if_pos rfl] at hu
        split at hu
        · injection hu with hu; exact .inr (.inl ⟨fun e => h1 e.symm, rfl, hu.symm⟩)
        · cases hu
      · rw [if_neg h2] at hu
        exact .inr (.inr ⟨fun e => h1 e.symm, fun e => h2 e.symm, hu⟩)
  refine ⟨S.m, S.x, S.mx, fun u hu => ?_, fun u hu b hb => ?_, fun j m u y hjm hu hy b hb => ?_, S.like⟩
  · obtain ⟨j, hj⟩ := List.mem_iff_getElem?.1 hu
    rcases hget j u hj with ⟨_, rfl⟩ | ⟨_, _, rfl⟩ | ⟨_, _, h⟩
    · trivial
    · exact hok
    · exact S.ok u (List.mem_of_getElem? h)
  · obtain ⟨j, hj⟩ := List.mem_iff_getElem?.1 hu
    rcases hget j u hj with ⟨_, rfl⟩ | ⟨_, _, rfl⟩ | ⟨_, _, h⟩
    · cases hb
    · rcases hbl b hb with h | h
      · exact S.bl r (List.mem_of_getElem? hi) b h
      · exact S.bl s (List.mem_of_getElem? hq) b h
    · exact S.bl u (List.mem_of_getElem? h) b hb
  · rcases hget j u hu with ⟨_, rfl⟩ | ⟨h1, rfl, rfl⟩ | ⟨h1, h2, h⟩
    · cases hb
    · rcases hget m y hy with ⟨_, rfl⟩ | ⟨_, rfl, _⟩ | ⟨h3, h4, h⟩
      · intro hc; cases hc
      · exact absurd rfl hjm
      · rcases hbl b hb with hb | hb
        · exact S.ap j m r y hjm hi h b hb
        · exact S.ap q m s y (fun e => h3 e.symm) hq h b hb
    · rcases hget m y hy with ⟨_, rfl⟩ | ⟨h3, rfl, rfl⟩ | ⟨_, _, h'⟩
      · intro hc; cases hc
      · intro hc
        rcases hbl b hc with hc | hc
        · exact S.ap j m u r hjm h hi b hb hc
        · exact S.ap j q u s h1 h hq b hb hc
      · exact S.ap j m u y hjm h h' b hb
theorem ga_set_ne {β : Type} [Inhabited β] (xs : List β) (i j : Nat) (y : β) (h : i ≠ j) : ga (xs.set i y) j = ga xs j := by
  unfold ga
  rw [List.getD_eq_getElem?_getD, List.getD_eq_getElem?_getD, List.getElem?_set, if_neg h]
theorem SH.tabsnoc {A : Option Addr} {c : Nat} (S : SH w M X H) (hi : nth H i = some (Rs.tab C vs xss)) (hq : nth H q = some (Rs.row C (.slice A zs.length c) zs)) (hiq : i ≠ q) (hH : (H.set i (Rs.tab C (vs ++ [⟨A, zs.length, c⟩]) (xss ++ [zs]))).set q Rs.emp = H') : SH w M X H' := by
  have ht : TabOk C vs xss (hp w) := S.get hi
  have hr : U1f C (.slice A zs.length c) zs (hp w) := S.get hq
  have hap : ∀ j, j < vs.length → ∀ b ∈ (ga vs j).v.ownBlock.toList, b ∉ (Value.slice A zs.length c).ownBlock.toList := fun j hj b hb => by
    rw [Up] at hi hq
    exact S.ap i q _ _ hiq hi hq b (tab_mem.2 ⟨j, hj, hb⟩)
  have hga : ∀ j, j < vs.length + 1 → ga (vs ++ [(⟨A, zs.length, c⟩ : SlV)]) j = if j < vs.length then ga vs j else ⟨A, zs.length, c⟩ := fun j hj => by
    split
    · rename_i h; exact Ur _ _ _ h
    · rw [U11 _ _ _ (by omega), show j - vs.length = 0 by omega]; rfl
  refine S.merge (t := Rs.tab C (vs ++ [⟨A, zs.length, c⟩]) (xss ++ [zs])) hi hq hiq ⟨by simp [ht.1], fun j hj => ?_, fun j m hj hm hjm b hb => ?_⟩ (fun b hb => ?_) hH
  · rw [List.length_append, List.length_singleton] at hj
    rw [hga j (by rw [ht.1]; exact hj)]
    by_cases h : j < vs.length
    · rw [if_pos h, Ur _ _ _ (by rw [← ht.1]; exact h)]; exact ht.2.1 j (by rw [← ht.1]; exact h)
    · rw [if_neg h, U11 _ _ _ (by rw [← ht.1]; omega), show j - xss.length = 0 by rw [← ht.1]; rw [← ht.1] at hj; omega]; exact hr
  · rw [List.length_append, List.length_singleton] at hj hm
    rw [hga j hj] at hb
    rw [hga m hm]
    by_cases h1 : j < vs.length
    · rw [if_pos h1] at hb
      by_cases h2 : m < vs.length
      · rw [if_pos h2]; exact ht.2.2 j m h1 h2 hjm b hb
      · rw [if_neg h2]; exact hap j h1 b hb
    · rw [if_neg h1] at hb
      rw [if_pos (by omega)]
      exact fun hc => hap m (by omega) b hc hb
  · obtain ⟨j, hj, hb⟩ := tab_mem.1 hb
    rw [List.length_append, List.length_singleton] at hj
    rw [hga j hj] at hb
    by_cases h : j < vs.length
    · rw [if_pos h] at hb; exact .inl (tab_mem.2 ⟨j, h, hb⟩)
    · rw [if_neg h] at hb; exact .inr hb
theorem SH.boxrow (S : SH w M X H) (zs : List α) (hi : nth H i = some (Rs.box g C.E l)) (hl : l = zs.flatMap C.f) (hm : zs.length ≤ 16777216) (hH : H.set i (Rs.row C (.slice (some ⟨g, 0, none⟩) zs.length zs.length) zs) = H') : SH w M X H' := by
  have hb : hp w g = some (.cells l.toArray C.E (0, 0)) := S.get hi
  refine S.step hi hH (Like.refl w) (fun _ _ _ => rfl) (.inr ⟨g, zs.length, l.toArray, rfl, hb, Nat.le_refl _, by unfold maxLen; omega, by rw [hl]; simpa using Uw C.hf zs, ?_⟩) (fun b hb' => ⟨.inl ?_, ?_⟩)
  · rw [hl, List.take_of_length_le (by rw [List.toList_toArray, Uw C.hf]; exact Nat.le_refl _)]
  · simpa [Rs.row, Value.ownBlock, Rs.box] using hb'
  · simp [Rs.row, Value.ownBlock] at hb'
    subst hb'
    exact U27 hb
theorem SH.tabrow (S : SH w M X H) (hi : nth H i = some (Rs.tab C vs xss)) (hk : k < xss.length) : (ga vs k).n = (ga xss k).length ∧ (0 < (ga xss k).length → (ga vs k).A = some ⟨adB (ga vs k).A, 0, none⟩) ∧ (ga xss k).length ≤ (ga vs k).c := by
  rcases (S.get hi : TabOk C vs xss (hp w)).2.1 k hk with ⟨h1, h2⟩ | ⟨g, cap, cur, h1, h2, h3, _⟩
  · injection h1 with h1 h1' h1''
    rw [h2]
    exact ⟨h1', fun h => absurd h (by simp), by simp⟩
  · injection h1 with h1 h1' h1''
    exact ⟨h1', fun _ => by rw [h1]; rfl, by rw [h1'']; exact h3⟩
theorem SH.tablen (S : SH w M X H) (hi : nth H i = some (Rs.tab C vs xss)) : vs.length = xss.length := (S.get hi : TabOk C vs xss (hp w)).1
theorem rb_v (s : SlV) : rb s.v = adB s.A := by
  obtain ⟨A, n, c⟩ := s
  cases A <;> rfl
theorem U1f.cell [Inhabited α] (h : U1f C v xs (hp w)) {e j : Nat} {u : Value} (he : e < xs.length) (hj : Nat.blt j C.k = true) (hu : nth (C.f (ga xs e)) j = some u) : w.cell? ⟨rb v, e * C.k + j, none⟩ = some u := by
  rcases h with ⟨_, h2⟩ | ⟨g, cap, cur, rfl, h2, h3, h4, h5, h6⟩
  · rw [h2] at he; simp at he
  · have hj' : j < C.k := by simpa using hj
    show w.cell? ⟨g, e * C.k + j, none⟩ = some u
    rw [cell_of_row w g _ cur C.E (0, 0) h2]
    have hlt : e * C.k + j < xs.length * C.k := by
      have := Nat.mul_le_mul_right C.k (show e + 1 ≤ xs.length by omega)
      rw [Nat.succ_mul] at this
      omega
    have h7 := U15 C.hf (xs := xs) he hj'
    rw [← h6, List.getElem?_take, if_pos hlt, ← U14 he, ← Up (C.f (ga xs e)), hu] at h7
    simpa using h7
theorem SH.tabc [Inhabited α] (S : SH w M X H) (hi : nth H i = some (Rs.tab C vs xss)) (hk : k < xss.length) {e j : Nat} {u : Value} (he : e < (ga xss k).length) (hj : Nat.blt j C.k = true) (hu : nth (C.f (ga (ga xss k) e)) j = some u) : w.cell? ⟨adB (ga vs k).A, e * C.k + j, none⟩ = some u := by
  have := ((S.get hi : TabOk C vs xss (hp w)).2.1 k hk).cell he hj hu
  rwa [rb_v] at this
theorem U1f.rds (h : U1f C v xs (hp w)) (hr : xs.length * C.u8 ≤ 140737488355328) {N : Hp} (hN : ∀ b ∈ v.ownBlock.toList, N b = hp w b) : Rds C N v xs := by
  rcases h with ⟨h1, h2⟩ | ⟨g, cap, cur, h1, h2, h3, h4, h5, h6⟩
  · subst h1; subst h2
    exact Rds.nil_
  · subst h1
    refine ⟨_, cap, rfl, h3, hr, fun _ => ⟨rfl, cur, C.E, (0, 0), ?_, fun j u hu => ?_⟩⟩
    · show N g = _
      rw [hN g (by simp [Value.ownBlock])]
      exact h2
    · show cur[0 + j]? = some u
      rw [Nat.zero_add]
      rw [← h6, List.getElem?_take] at hu
      split at hu
      · simpa using hu
      · cases hu
theorem SH.tabRd (S : SH w M X H) (hi : nth H i = some (Rs.tab C vs xss)) (hr : ∀ i, i < xss.length → (ga xss i).length * C.u8 ≤ 140737488355328) {N : Hp} (hN : ∀ b ∈ tabBl vs, N b = hp w b) : Rd2 C N vs xss := by
  have ht : TabOk C vs xss (hp w) := S.get hi
  refine ⟨ht.1, fun j hj => ?_⟩
  obtain ⟨A, c, e, h⟩ := (ht.2.1 j hj).rds (hr j hj) (fun b hb => hN b (tab_mem.2 ⟨j, by rw [ht.1]; exact hj, hb⟩))
  injection e with e1 e2 e3
  rw [e1, e2, e3]
  exact ⟨rfl, h⟩
theorem SH.lendtab (S : SH w M X H) (hi : nth H i = some (Rs.tab C vs xss)) (hr : ∀ i, i < xss.length → (ga xss i).length * C.u8 ≤ 140737488355328) : Rd2 C (M.un (XH w X H).h) vs xss := by
  have hmem : Rs.tab C vs xss ∈ H := by rw [Up] at hi; exact List.mem_of_getElem? hi
  refine S.tabRd hi hr fun b hb => ?_
  have h1 := S.bl _ hmem b hb
  simp only [Hp.un, h1.2.1, XH, any_bl.2 ⟨_, hmem, hb⟩, if_true]
end
section
variable {P : Program} {o : Oper} {L : List (Nat × Value)} {w w' : World} {x y z : Operand} {t t' T E : TypeId} {a b : Int} {v u : Value} {n d : Nat} {Kt : List (Nat × Value) → World → Prop} {M M' : Hp} {X : Fr} {H H' : List Rs} {i k g off : Nat} {l : List Value}
theorem Uz {α : Type} {C : Cd α} {vs : List SlV} {xss : List (List α)} {m : Nat} (k e : Nat) (hop : o.op = .indexAddr T x y) (hx : oev L x = some (.slice (ga vs k).A m (ga vs k).c)) (hm : m = (ga vs k).n) (hy : oev L y = some (.int .i64 a)) (hT : SlOf P T C) (S : SH w M X H) (hi : nth H i = some (Rs.tab C vs xss)) (hk : k < xss.length)
    (ha : a = (e : Int)) (he : e < (ga xss k).length) : Run P o L w (.pointer (some ⟨adB (ga vs k).A, e * C.k, none⟩)) w := by
  obtain ⟨h0, h1, _⟩ := S.tabrow hi hk
  obtain ⟨z, hu, h2, _⟩ := hT
  obtain ⟨inf, hinf, _, hs, _⟩ := info_parts h2
  have := run_indexAddr (P := P) (w := w) hop hx hy hu (k := C.k) (by rw [hinf]; simp [hs]) ha (by rw [hm, h0]; exact he) (h1 (by omega))
  rwa [Nat.zero_add] at this
theorem run_lenT {α : Type} {C : Cd α} {vs : List SlV} {xss : List (List α)} {k m : Nat} {ca : Call} {ops : List Operand} {ts : List TypeId} (hop : o.op = .call ca) (hca : ca.callee = .builtin .len) (hxs : ca.args = ops.toArray) (hts : ca.argTypes = ts.toArray) (hx : oevs L ops = some [.slice (ga vs k).A m (ga vs k).c]) (hm : m = (ga vs k).n) (ht : nth ts 0 = some t) (hT : SlOf P t C) (S : SH w M X H) (hi : nth H i = some (Rs.tab C vs xss)) (hk : k < xss.length) : Run P o L w (.int .i64 ((ga xss k).length : Int)) w := by
  obtain ⟨h0, _⟩ := S.tabrow hi hk
  obtain ⟨z, h1, _⟩ := hT
  rw [← h0, ← hm]
  exact run_len hop hca hxs hts hx ht h1
theorem row_stored {α : Type} [Inhabited α] {C : Cd α} {ys : List α} {us : List Value} {rv : Value} {e j : Nat} (y' : α) (hok : U1f C rv ys (hp w)) (he : e < ys.length) (hfit' : j + us.length ≤ C.k) (hl' : spl (C.f (ga ys e)) j us = C.f y') :
    ∃ cur : Array Value, hp w (rb rv) = some (.cells cur C.E (0, 0)) ∧ rb rv ∈ rv.ownBlock.toList ∧ (∀ b ∈ rv.ownBlock.toList, b = rb rv) ∧ e * C.k + j + us.length ≤ cur.size ∧ U1f C rv (ys.set e y') (hp (w.setRow (rb rv) (cur.toList.take (e * C.k + j) ++ us ++ cur.toList.drop (e * C.k + j + us.length)).toArray)) := by
  rw [U14 he] at hl'
  rcases hok with ⟨_, h2⟩ | ⟨g, cap, cur, rfl, h2, h3, h4, h5, h6⟩
  · subst h2; simp at he
  · have hcur : e * C.k + j + us.length ≤ cur.size := by
      have h7 : e * C.k + C.k ≤ cap * C.k := by rw [← Nat.succ_mul]; exact Nat.mul_le_mul_right _ (by omega)
      omega
    refine ⟨cur, h2, by simp [rb, Value.ownBlock], fun b hb => by simpa [rb, Value.ownBlock] using hb, hcur, ?_⟩
    have hcur' : e * C.k + j + us.length ≤ cur.toList.length := by simpa using hcur
    rw [← spl_eq us cur.toList (e * C.k + j) hcur']
    have hs := setRow_heap w g cur (spl cur.toList (e * C.k + j) us).toArray C.E (0, 0) h2
    refine .inr ⟨g, cap, (spl cur.toList (e * C.k + j) us).toArray, by rw [List.length_set], hs, by rw [List.length_set]; exact h3, h4, by simp [spl_len, h5], ?_⟩
    rw [List.length_set, ← flat_spl ys e j us y' he hfit' hl', ← h6]
    apply List.ext_getElem?
    intro m
    have hle : e * C.k + C.k ≤ ys.length * C.k := by rw [← Nat.succ_mul]; exact Nat.mul_le_mul_right _ he
    have hys : ys.length * C.k ≤ cur.size := by rw [h5]; exact Nat.mul_le_mul_right _ h3
    rw [List.getElem?_take, spl_get us _ _ _ hcur', spl_get us _ _ _ (by simp; omega), List.getElem?_take]
    by_cases hm : m < ys.length * C.k
    · rw [if_pos hm, if_pos hm]
    · rw [if_neg hm, if_neg hm, if_neg (by omega)]
theorem wo_storeT {α : Type} [Inhabited α] {C : Cd α} {vs : List SlV} {xss : List (List α)} {us : List Value} {k e j : Nat} (y' : α) (hop : o.op = .store T x y) (hd : o.dst = none) (S : SH w M X H) (hi : nth H i = some (Rs.tab C vs xss)) (hkk : k < xss.length) (he : e < (ga xss k).length) (hx : oev L x = some (.pointer (some ⟨adB (ga vs k).A, e * C.k + j, none⟩))) (hy : oev L y = some v) (hl : v.cells.toList = us) (hk : (P.info? T).map (·.size) = some us.length)
    (hfit : Nat.ble (j + us.length) C.k = true) (h1 : ones us = true) (hl' : spl (C.f (ga (ga xss k) e)) j us = C.f y') (hH : H.set i (Rs.tab C vs (xss.set k ((ga xss k).set e y'))) = H') (h : ∀ w', SH w' M X H' → Kt L w') : WO P n o L w Kt := by
  have hfit' : j + us.length ≤ C.k := by simpa using hfit
  have ht : TabOk C vs xss (hp w) := S.get hi
  have hkv : k < vs.length := by rw [ht.1]; exact hkk
  obtain ⟨cur, h2, h3, h4, h5, h6⟩ := row_stored (w := w) y' (ht.2.1 k hkk) he hfit' hl'
  rw [← rb_v] at hx
  refine wo_runS hd (run_storeAt hop hx hy hl hk h2 h5 (ones_spec h1)) (h _ ?_)
  have hmem : rb (ga vs k).v ∈ tabBl vs := tab_mem.2 ⟨k, hkv, h3⟩
  refine S.step hi hH (like_setRow _ _ _) (fun b _ hb => keep_setRow _ _ _ b (fun e => hb (by rw [e]; exact hmem))) ⟨by simp [ht.1], fun m hm => ?_, ht.2.2⟩ (fun b hb => ⟨.inl hb, ?_⟩)
  · rw [List.length_set] at hm
    rw [U3 _ _ _ _ hkk]
    by_cases hkm : k = m
    · subst hkm
      rw [if_pos rfl]; exact h6
    · rw [if_neg hkm]
      refine (Rs.row C (ga vs m).v (ga xss m)).loc _ _ (fun b hb => keep_setRow _ _ _ b (fun e => ?_)) (ht.2.1 m hm)
      subst e
      exact ht.2.2 k m hkv (by rw [ht.1]; exact hm) hkm _ h3 hb
  · have hm : Rs.tab C vs xss ∈ H := by rw [Up] at hi; exact List.mem_of_getElem? hi
    have := S.bl _ hm b hb
    simpa using this.1
end
end Go.Proofs.Ytkcighnochjlgaa
namespace Go.Proofs.Ytkcighnochjlgaa
open Go.ChangeShapes Go.WideShapes Go.ChangeAt Go.RowKit
theorem ws_drawN {P : Program} {n : Nat} {C : Ctx} {c : Code} {s : List K} {L : List (Nat × Value)} {w : World} {M : Hp} {X : Fr} (N Hb : List Rs) (hk : kind c = 8) (hm : P.follows .mixedOrders = true) (S : SH w M X (N ++ Hb)) (f : Nat) (hf : (rg c).size = f) (h : WA P n C c s X f (Array.replicate f false) L M Hb M (N ++ Hb)) : WS P n C c s L w := by
  intro a ha
  rw [kind_draw hk]
  refine wp_region_any hm ?_
  rw [hf]
  exact AnyM.any _ _ _ _ _ _ _ _ (S.kp ⟨rfl, rfl, rfl, Nat.le_refl _⟩ fun _ _ => rfl) (down_start _) (h ⟨Hp.le_refl _, N, rfl⟩ a ha)
def FE (P : Program) (f : Field) (p : Nat × Bool) : Prop :=
  (f.name == "_") = false ∧ f.offset = p.1 ∧ (match p.2 with | true => P.underlying f.type = some .bool | false => ∃ k, P.underlying f.type = some (.int k))
def EqIs (xs ys : List Value) : List (Nat × Bool) → Prop → Prop
  | [], Q => Q = True
  | [(o, false)], Q => ∃ k x y, nth xs o = some (.int k x) ∧ nth ys o = some (.int k y) ∧ Q = (x = y)
  | [(o, true)], Q => ∃ x y, nth xs o = some (.bool x) ∧ nth ys o = some (.bool y) ∧ Q = (x = y)
  | (o, false) :: r, Q => ∃ k x y Q', nth xs o = some (.int k x) ∧ nth ys o = some (.int k y) ∧ EqIs xs ys r Q' ∧ Q = (x = y ∧ Q')
  | (o, true) :: r, Q => ∃ x y Q', nth xs o = some (.bool x) ∧ nth ys o = some (.bool y) ∧ EqIs xs ys r Q' ∧ Q = (x = y ∧ Q')
def StEq (P : Program) (T : TypeId) (pl : List (Nat × Bool)) : Prop :=
  ∃ fs : List Field, P.underlying T = some (.struct fs.toArray) ∧ Al2 (FE P) fs pl ∧ P.stoodInHeld T = false ∧ P.eqGuardType P.depth T = false
section
variable {P : Program}
theorem eqIs_go {xs ys : List Value} {o : Nat} {b : Bool} : ∀ {r : List (Nat × Bool)} {Q : Prop}, EqIs xs ys ((o, b) :: r) Q → ∃ Q1 Q2, (match b with | false => ∃ k x y, nth xs o = some (.int k x) ∧ nth ys o = some (.int k y) ∧ Q1 = (x = y) | true => ∃ x y, nth xs o = some (.bool x) ∧ nth ys o = some (.bool y) ∧ Q1 = (x = y)) ∧ EqIs xs ys r Q2 ∧ (Q ↔ Q1 ∧ Q2)
  | [], Q, h => by
    cases b with
    | false => obtain ⟨k, x, y, h1, h2, rfl⟩ := h; exact ⟨_, True, ⟨k, x, y, h1, h2, rfl⟩, rfl, by simp⟩
    | true => obtain ⟨x, y, h1, h2, rfl⟩ := h; exact ⟨_, True, ⟨x, y, h1, h2, rfl⟩, rfl, by simp⟩
  | (_ :: _), Q, h => by
    cases b with
    | false => obtain ⟨k, x, y, Q', h1, h2, h3, rfl⟩ := h; exact ⟨_, Q', ⟨k, x, y, h1, h2, rfl⟩, h3, Iff.rfl⟩
    | true => obtain ⟨x, y, Q', h1, h2, h3, rfl⟩ := h; exact ⟨_, Q', ⟨x, y, h1, h2, rfl⟩, h3, Iff.rfl⟩
theorem part1 {T : TypeId} {dd : TypeDesc} {cs : List Value} {o : Nat} {v : Value} {w : World} (hu : P.underlying T = some dd) (hd : flatD dd = true) (hv : nth cs o = some v) : (part T cs.toArray o).run P w = .ok v w := by
  rw [Up] at hv
  simp only [part, Sem.run_bind, run_isAgg hu, hd, Result.andThen_ok, Bool.not_true, Bool.false_eq_true, if_false, List.getElem?_toArray, hv, Sem.run_pure]
theorem run_eqFields {xs ys : List Value} {w : World} : ∀ {fs : List Field} {pl : List (Nat × Bool)} {Q : Prop}, Al2 (FE P) fs pl → EqIs xs ys pl Q → ∃ r : Bool, (Op.eqFields 9999 xs.toArray ys.toArray fs).run P w = .ok r w ∧ (r = true ↔ Q)
  | [], [], Q, _, h => ⟨true, rfl, by rw [show Q = True from h]; simp⟩
  | f :: fs, (o, b) :: pl, Q, ha, h => by
    obtain ⟨⟨hn, ho, hu⟩, ha⟩ := ha
    obtain ⟨Q1, Q2, h1, h2, hiff⟩ := eqIs_go h
    obtain ⟨r2, hr2, hi2⟩ := run_eqFields (w := w) ha h2
    have hne : f.name ≠ "_" := by simpa using hn
    simp only at ho
    have key : ∃ r1 : Bool, ∃ u v, (part f.type xs.toArray f.offset).run P w = .ok u w ∧ (part f.type ys.toArray f.offset).run P w = .ok v w ∧ (Op.equalIn 9999 f.type u v).run P w = .ok r1 w ∧ (r1 = true ↔ Q1) := by
      cases b with
      | false =>
        obtain ⟨k, x, y, g1, g2, rfl⟩ := h1
        obtain ⟨k', hu⟩ := hu
        exact ⟨_, _, _, part1 hu rfl (by rw [ho]; exact g1), part1 hu rfl (by rw [ho]; exact g2), run_equalIn_int w 9998 _ _ _ _ _ hu, by simp⟩
      | true =>
        obtain ⟨x, y, g1, g2, rfl⟩ := h1
        exact ⟨_, _, _, part1 hu rfl (by rw [ho]; exact g1), part1 hu rfl (by rw [ho]; exact g2), run_equalIn_bool' w 9998 _ _ _ hu, by simp⟩
    obtain ⟨r1, u, v, k1, k2, k3, k4⟩ := key
    refine ⟨r1 && r2, ?_, by rw [hiff, ← k4, ← hi2]; simp⟩
    rw [Op.eqFields, if_pos hne]
    simp only [Sem.run_bind, k1, k2, k3, Result.andThen_ok]
    cases r1 <;> simp [hr2]
  | [], _ :: _, _, ha, _ => False.elim ha
  | _ :: _, [], _, ha, _ => False.elim ha
variable {o : Oper} {L : List (Nat × Value)} {w : World} {x y : Operand} {t t' : TypeId}
theorem run_equalSt {xs ys : List Value} {pl : List (Nat × Bool)} {Q : Prop} [Decidable Q] (hT : StEq P t pl) (he : EqIs xs ys pl Q) : (Op.equalIn 10000 t (.agg xs.toArray) (.agg ys.toArray)).run P w = .ok (decide Q) w := by
  obtain ⟨fs, hu, ha, hs, _⟩ := hT
  have hfs : P.fieldsOf t = fs.toArray := by simp [Program.fieldsOf, hu]
  obtain ⟨r, hr, hi⟩ := run_eqFields (w := w) ha he
  rw [run_equalIn_struct w 9999 t _ _ (by rw [hfs]; exact hu) hs, hfs]
  have : r = decide Q := by
    by_cases h : Q
    · rw [decide_eq_true h]; exact hi.2 h
    · rw [decide_eq_false h]
      cases r with
      | false => rfl
      | true => exact absurd (hi.1 rfl) h
  rw [← this]
  exact hr
end
end Go.Proofs.Ytkcighnochjlgaa
namespace Go.Proofs.Ytkcighnochjlgaa
open Go.ChangeShapes Go.WideShapes Go.ChangeAt Go.RowKit
theorem nth_bv (xs : List Bool) (e : Nat) (h : e < xs.length) : nth (xs.map Value.bool) e = some (.bool (ga xs e)) := by
  rw [Up, List.getElem?_map, ga_get? h]; rfl
def wr (x : Int) : Int := IntKind.i64.wrap x
theorem wr_id {x : Int} (h : -9223372036854775808 ≤ x ∧ x ≤ 9223372036854775807) : wr x = x := by unfold wr; rw [IntKind.wrap_i64]; omega
theorem wr_wr (x y : Int) : wr (wr x + y) = wr (x + y) := by unfold wr; rw [IntKind.wrap_i64, IntKind.wrap_i64, IntKind.wrap_i64]; omega
section
variable {P : Program} {o : Oper} {L : List (Nat × Value)} {w : World} {x y : Operand} {t t' E : TypeId} {a b : Int}
theorem run_addW (ho : o.op = .binOp .add t x y t') (hx : oev L x = some (.int .i64 a)) (hy : oev L y = some (.int .i64 b)) : Run P o L w (.int .i64 (wr (a + b))) w :=
  U1c ho hx hy fun w => by simp [binOp, Op.intArith, wr]
end
end Go.Proofs.Ytkcighnochjlgaa
namespace Go.Proofs.Ytkcighnochjlgaa
open Go.ChangeShapes Go.WideShapes Go.ChangeAt Go.RowKit
section
variable {κ ε : Type} [DecidableEq κ]
def mg (k : κ) : List (κ × ε) → Option ε
  | [] => none
  | p :: r => if k = p.1 then some p.2 else mg k r
def mp (k : κ) (v : ε) : List (κ × ε) → List (κ × ε)
  | [] => [(k, v)]
  | p :: r => if k = p.1 then (k, v) :: r else p :: mp k v r
def fk (k : κ) : List (κ × ε) → Nat → Option (Nat × ε)
  | [], _ => none
  | p :: r, i => if k = p.1 then some (i, p.2) else fk k r (i + 1)
theorem mg_mp (k k' : κ) (v : ε) : ∀ es : List (κ × ε), mg k (mp k' v es) = if k = k' then some v else mg k es
  | [] => by simp [mp, mg]
  | p :: r => by
    unfold mp
    by_cases h : k' = p.1
    · rw [if_pos h]
      by_cases h2 : k = k'
      · simp [mg, h2]
      · have h3 : k ≠ p.1 := fun e => h2 (e.trans h.symm)
        simp [mg, h2, h3]
    · rw [if_neg h]
      have ih := mg_mp k k' v r
      by_cases h2 : k = p.1
      · have h3 : k ≠ k' := fun e => h (e.symm.trans h2)
        rw [if_neg h3]
        simp [mg, h2]
      · simp only [mg, if_neg h2, ih]
theorem fk_none {k : κ} : ∀ {es : List (κ × ε)} {i : Nat}, fk k es i = none → mg k es = none ∧ ∀ v, mp k v es = es ++ [(k, v)]
  | [], _, _ => ⟨rfl, fun _ => rfl⟩
  | p :: r, i, h => by
    unfold fk at h
    split at h
    · cases h
    · rename_i hne
      obtain ⟨h1, h2⟩ := fk_none h
      exact ⟨by simp [mg, hne, h1], fun v => by simp [mp, hne, h2 v]⟩
theorem fk_some {k : κ} : ∀ {es : List (κ × ε)} {i j : Nat} {v : ε}, fk k es i = some (j, v) → mg k es = some v ∧ ∃ m, j = i + m ∧ ∃ p, es[m]? = some p ∧ p.1 = k ∧ ∀ v', mp k v' es = es.set m (k, v')
  | p :: r, i, j, v, h => by
    unfold fk at h
    split at h
    · rename_i he
      injection h with h
      injection h with h1 h2
      exact ⟨by simp [mg, he, h2], 0, by omega, p, rfl, he.symm, fun v' => by simp [mp, he]⟩
    · rename_i hne
      obtain ⟨h1, m, h2, q, h3, h4, h5⟩ := fk_some h
      exact ⟨by simp [mg, hne, h1], m + 1, by omega, q, by simpa using h3, h4, fun v' => by simp [mp, hne, h5 v']⟩
end
structure MapK (P : Program) (K : TypeId) {κ : Type} [DecidableEq κ] (kc : κ → Value) : Prop where
  check : ∀ k w b, (Instr.checkKey b 10000 K (kc k)).run P w = .ok () w
  find : ∀ (k : κ) (es : List (κ × Value)) (l : List MapEntry) (w : World), l.map (fun e => (e.key, e.val)) = es.map (fun p => (kc p.1, p.2)) → (Instr.findKey K (kc k) l).run P w = .ok (fk k es 0) w
  bits : ∀ k, Instr.sameBits 10000 (kc k) (kc k) = true
theorem mapK_int {P : Program} {K : TypeId} (hu : P.underlying K = some (.int .i64)) : MapK P K (Value.int .i64) := by
  have hfind : ∀ (k : Int) (es : List (Int × Value)) (l : List MapEntry) (i : Nat), l.map (fun e => (e.key, e.val)) = es.map (fun p => (Value.int .i64 p.1, p.2)) → Instr.findNow (.int .i64) (.int .i64 k) l i = some (fk k es i) := by
    intro k es
    induction es with
    | nil => intro l i h; rw [List.map_nil, List.map_eq_nil_iff] at h; subst h; rfl
    | cons p es ih =>
      intro l i h
      cases l with
      | nil => cases h
      | cons e l =>
        simp only [List.map_cons, List.cons.injEq, Prod.mk.injEq] at h
        unfold Instr.findNow fk
        rw [h.1.1]
        simp only [Instr.sameNow, if_true]
        by_cases hk : k = p.1
        · simp [hk, h.1.2]
        · have e1 : (k == p.1) = false := by simpa using hk
          rw [e1, if_neg hk]
          exact ih l (i + 1) h.2
  refine ⟨fun k w b => ?_, fun k es l w h => MapKept.run_findKey hu (hfind k es l 0 h), fun k => by simp [Instr.sameBits]⟩
  rw [show (10000 : Nat) = 9999 + 1 from rfl]
  unfold Instr.checkKey
  simp only [Sem.run_bind, run_underlying hu, Result.andThen]
  rfl
theorem mapK_st {P : Program} {K : TypeId} {κ : Type} [DecidableEq κ] {f : κ → List Value} {pl : List (Nat × Bool)} (hT : StEq P K pl) (he : ∀ x y, ∃ Q, EqIs (f x) (f y) pl Q ∧ (Q ↔ x = y)) (hb : ∀ k, Instr.sameBits 10000 (.agg (f k).toArray) (.agg (f k).toArray) = true) : MapK P K (fun k => .agg (f k).toArray) := by
  have heq : ∀ (x y : κ) (w : World), (Op.equal K (.agg (f x).toArray) (.agg (f y).toArray)).run P w = .ok (decide (x = y)) w := by
    intro x y w
    obtain ⟨Q, h1, h2⟩ := he x y
    haveI : Decidable Q := decidable_of_iff _ h2.symm
    have := run_equalSt (P := P) (w := w) hT h1
    rw [show decide (x = y) = decide Q from decide_eq_decide.2 h2.symm]
    exact this
  have hask : ∀ (k : κ) (es : List (κ × Value)) (l : List MapEntry) (i : Nat) (w : World), l.map (fun e => (e.key, e.val)) = es.map (fun p => (Value.agg (f p.1).toArray, p.2)) → (Instr.findAsking K (.agg (f k).toArray) l i).run P w = .ok (fk k es i) w := by
    intro k es
    induction es with
    | nil => intro l i w h; rw [List.map_nil, List.map_eq_nil_iff] at h; subst h; rfl
    | cons p es ih =>
      intro l i w h
      cases l with
      | nil => cases h
      | cons e l =>
        simp only [List.map_cons, List.cons.injEq, Prod.mk.injEq] at h
        unfold Instr.findAsking fk
        rw [h.1.1]
        simp only [Sem.run_bind, heq, Result.andThen]
        by_cases hk : k = p.1
        · simp [hk, h.1.2]
        · simp only [hk, decide_false, Bool.false_eq_true, if_false]
          exact ih l (i + 1) w h.2
  obtain ⟨fs, hu, ha, hs, _⟩ := hT
  refine ⟨fun k w b => ?_, fun k es l w h => ?_, hb⟩
  · have hfs : ∀ (fs : List Field) (pl : List (Nat × Bool)) (Q : Prop), Al2 (FE P) fs pl → EqIs (f k) (f k) pl Q → ((forIn fs PUnit.unit fun (fld : Field) (_ : PUnit) => if fld.name ≠ "_" then (do
        let x ← part fld.type (f k).toArray fld.offset
        Instr.checkKey b 9999 fld.type x
        pure (ForInStep.yield PUnit.unit) : Sem (ForInStep PUnit)) else pure (ForInStep.yield PUnit.unit)) : Sem PUnit).run P w = .ok () w := by
      intro fs
      induction fs with
      | nil => intro pl Q _ _; rfl
      | cons fld fs ih =>
        intro pl Q ha h
        cases pl with
        | nil => exact False.elim ha
        | cons p pl =>
          obtain ⟨o, bb⟩ := p
          obtain ⟨⟨hn, ho, hu'⟩, ha⟩ := ha
          obtain ⟨Q1, Q2, h1, h2, _⟩ := eqIs_go h
          have hne : fld.name ≠ "_" := by simpa using hn
          simp only at ho
          have key : ∃ u, (part fld.type (f k).toArray fld.offset).run P w = .ok u w ∧ (Instr.checkKey b 9999 fld.type u).run P w = .ok () w := by
            cases bb with
            | false =>
              obtain ⟨q, x, y, g1, _, _⟩ := h1
              obtain ⟨k', hu'⟩ := hu'
              refine ⟨_, part1 hu' rfl (by rw [ho]; exact g1), ?_⟩
              rw [show (9999 : Nat) = 9998 + 1 from rfl]
              unfold Instr.checkKey
              simp only [Sem.run_bind, run_underlying hu', Result.andThen]
              rfl
            | true =>
              obtain ⟨x, y, g1, _, _⟩ := h1
              refine ⟨_, part1 hu' rfl (by rw [ho]; exact g1), ?_⟩
              rw [show (9999 : Nat) = 9998 + 1 from rfl]
              unfold Instr.checkKey
              simp only [Sem.run_bind, run_underlying hu', Result.andThen]
              rfl
          obtain ⟨u, k1, k2⟩ := key
          have := ih pl Q2 ha h2
          rw [List.forIn_cons]
          simp only [if_pos hne, Sem.run_bind, k1, k2, Result.andThen, Sem.run_pure]
          exact this
    obtain ⟨Q, h1, _⟩ := he k k
    have := hfs fs pl Q ha h1
    rw [show (10000 : Nat) = 9999 + 1 from rfl]
    unfold Instr.checkKey
    simp only [Sem.run_bind, run_underlying hu, Result.andThen]
    rw [← Array.forIn_toList, List.toList_toArray]
    rw [this]
    rfl
  · unfold Instr.findKey
    simp only [Sem.run_bind, run_underlying hu, Result.andThen]
    cases l with
    | nil =>
      cases es with
      | nil => simp [Instr.findNow, fk]
      | cons p es => cases h
    | cons e l =>
      have hn : Instr.findNow (.struct fs.toArray) (.agg (f k).toArray) (e :: l) 0 = none := by
        unfold Instr.findNow
        simp [Instr.sameNow]
      rw [hn]
      exact hask k es (e :: l) 0 w h
def Stm (arr : Array MapEntry) (clock : Nat) : Prop := (arr.toList.map (·.born)).Nodup ∧ ∀ e ∈ arr.toList, e.born < clock
def MpOk {κ ε : Type} (kc : κ → Value) (vc : ε → Value) (g : Nat) (es : List (κ × ε)) (h : Hp) : Prop :=
  ∃ arr clock, h g = some (.map arr clock) ∧ arr.toList.map (fun e => (e.key, e.val)) = es.map (fun p => (kc p.1, vc p.2)) ∧ Stm arr clock
def Rs.mp {κ ε : Type} (kc : κ → Value) (vc : ε → Value) (g : Nat) (es : List (κ × ε)) : Rs :=
  ⟨[g], MpOk kc vc g es, fun h h' hb hk => by
    obtain ⟨arr, clock, h1, h2⟩ := hk
    exact ⟨arr, clock, by rw [hb g (by simp)]; exact h1, h2⟩⟩
section
variable {P : Program} {o : Oper} {L : List (Nat × Value)} {w w' : World} {x y z : Operand} {t T K E : TypeId} {v u : Value} {n d g i : Nat} {Kt : List (Nat × Value) → World → Prop} {M M' : Hp} {X : Fr} {H H' : List Rs}
variable {κ ε : Type} [DecidableEq κ] {kc : κ → Value} {vc : ε → Value} {es : List (κ × ε)}
theorem wo_makeMap (κ ε : Type) (kc : κ → Value) (vc : ε → Value) (hop : o.op = .makeMap T none) (hd : o.dst = some d) (hn : Nat.blt d n = true) (S : SH w M X H)
    (h : ∀ g w', SH w' M X (Rs.mp kc vc g ([] : List (κ × ε)) :: H) → Kt ((d, .map (some g)) :: L) w') : WO P n o L w Kt := by
  refine Ua (v := .map (some w.heap.size)) (w' := w.alloc (.map #[] 0)) hd hn ?_ (h _ _ ?_)
  · intro n c he
    unfold execOp
    simp only [hop, Option.map_none, run_makeMap, Sem.run_bind, Result.andThen_ok, Sem.run_pure]
  · exact S.cons (U2c w _) (U2d w _) ⟨#[], 0, heap_alloc_new w _, rfl, by simp [Stm]⟩ (fun b hb => by simp [Rs.mp] at hb; subst hb; rw [size_al]; omega)
omit [DecidableEq κ] in
theorem map_pairs {arr : Array MapEntry} (h : arr.toList.map (fun e => (e.key, e.val)) = es.map (fun p => (kc p.1, vc p.2))) : arr.toList.map (fun e => (e.key, e.val)) = (es.map (fun p => (p.1, vc p.2))).map (fun p => (kc p.1, p.2)) := by
  rw [h, List.map_map]; rfl
theorem fk_map (k : κ) : ∀ (es : List (κ × ε)) (i : Nat), fk k (es.map (fun p => (p.1, vc p.2))) i = (fk k es i).map (fun q => (q.1, vc q.2))
  | [], _ => rfl
  | p :: r, i => by
    simp only [List.map_cons, fk]
    split
    · rfl
    · exact fk_map k r (i + 1)
theorem SH.look {k : κ} {zv : ε} (S : SH w M X H) (hi : nth H i = some (Rs.mp kc vc g es)) (hu : P.underlying T = some (.map K E)) (hK : MapK P K kc) (hz : (P.info? E).map (·.zero) = some (some (vc zv))) : (Instr.lookup T (.map (some g)) (kc k) false).run P w = .ok (vc ((mg k es).getD zv)) w ∧ (Instr.lookup T (.map (some g)) (kc k) true).run P w = .ok (.tuple #[vc ((mg k es).getD zv), .bool (mg k es).isSome]) w := by
  obtain ⟨arr, clock, hg, ha, hstm⟩ := (S.get hi : MpOk kc vc g es (hp w))
  have hf := hK.find k _ arr.toList w (map_pairs ha)
  rw [fk_map] at hf
  have hg' : w.heap[g]? = some (.map arr clock) := hg
  have hgo := MapKept.run_getObj_map (P := P) hg'
  have hc := fun b => hK.check k w b
  cases hfk : fk k es 0 with
  | none =>
    rw [hfk] at hf
    have hm := (fk_none hfk).1
    constructor
    · simp only [Instr.lookup, Sem.run_bind, run_underlying hu, hgo, hc, hf, Result.andThen_ok, Sem.run_pure, run_zero hz, Option.map_none, hm, Option.getD_none]
      rfl
    · simp only [Instr.lookup, Sem.run_bind, run_underlying hu, hgo, hc, hf, Result.andThen_ok, Sem.run_pure, run_zero hz, Option.map_none, hm, Option.getD_none]
      rfl
  | some q =>
    obtain ⟨j, v⟩ := q
    rw [hfk] at hf
    have hm := (fk_some hfk).1
    constructor
    · simp only [Instr.lookup, Sem.run_bind, run_underlying hu, hgo, hc, hf, Result.andThen_ok, Sem.run_pure, Option.map_some, hm, Option.getD_some]
      rfl
    · simp only [Instr.lookup, Sem.run_bind, run_underlying hu, hgo, hc, hf, Result.andThen_ok, Sem.run_pure, Option.map_some, hm, Option.getD_some]
      rfl
theorem run_lookup {k : κ} {zv : ε} (hop : o.op = .lookup T x y false) (hx : oev L x = some (.map (some g))) (hy : oev L y = some (kc k)) (hu : P.underlying T = some (.map K E)) (hK : MapK P K kc) (hz : (P.info? E).map (·.zero) = some (some (vc zv))) (S : SH w M X H) (hi : nth H i = some (Rs.mp kc vc g es)) : Run P o L w (vc ((mg k es).getD zv)) w := by
  intro n c he
  unfold execOp
  simp only [hop, he.eval hx, he.eval hy, (S.look hi hu hK hz).1, Sem.run_bind, Result.andThen_ok, Sem.run_pure]
theorem like_setB (w : World) (g : Nat) (ob : Obj) : Like w { w with heap := w.heap.setIfInBounds g ob } := ⟨rfl, rfl, rfl, by simp⟩
theorem wo_mapUpdate {k : κ} {e : ε} (hop : o.op = .mapUpdate T x y z ∨ o.op = .insert T x y z) (hd : o.dst = none) (S : SH w M X H) (hi : nth H i = some (Rs.mp kc vc g es)) (hx : oev L x = some (.map (some g))) (hy : oev L y = some (kc k)) (hz : oev L z = some (vc e)) (hu : P.underlying T = some (.map K E)) (hK : MapK P K kc)
    (hH : H.set i (Rs.mp kc vc g (Go.Proofs.Ytkcighnochjlgaa.mp k e es)) = H') (h : ∀ w', SH w' M X H' → Kt L w') : WO P n o L w Kt := by
  obtain ⟨arr, clock, hg, ha, hstm⟩ := (S.get hi : MpOk kc vc g es (hp w))
  have hf := hK.find k _ arr.toList w (map_pairs ha)
  rw [fk_map] at hf
  have hg' : w.heap[g]? = some (.map arr clock) := hg
  have hgo := MapKept.run_getObj_map (P := P) hg'
  have hc := fun b => hK.check k w b
  have key : ∃ arr' clock', (Instr.mapUpdate T (.map (some g)) (kc k) (vc e)).run P w = .ok () { w with heap := w.heap.setIfInBounds g (.map arr' clock') } ∧ arr'.toList.map (fun e => (e.key, e.val)) = (Go.Proofs.Ytkcighnochjlgaa.mp k e es).map (fun p => (kc p.1, vc p.2)) ∧ Stm arr' clock' := by
    cases hfk : fk k es 0 with
    | none =>
      rw [hfk] at hf
      refine ⟨arr.push { key := kc k, val := vc e, born := clock }, clock + 1, ?_, ?_, ?_⟩
      · simp only [Instr.mapUpdate, Sem.run_bind, run_underlying hu, hgo, hc, hf, Result.andThen_ok, Option.map_none, MapKept.run_setObj_map _ hg']
      · rw [(fk_none hfk).2 e, Array.toList_push, List.map_append, List.map_append, ha]; rfl
      · refine ⟨?_, fun x hx => ?_⟩
        · rw [Array.toList_push, List.map_append]
          refine List.nodup_append.2 ⟨hstm.1, by simp, fun a ha' b hb' => ?_⟩
          obtain ⟨x, hx, rfl⟩ := List.mem_map.1 ha'
          simp at hb'
          have := hstm.2 x hx
          omega
        · rw [Array.toList_push] at hx
          rcases List.mem_append.1 hx with h1 | h1
          · have := hstm.2 x h1; omega
          · simp at h1; subst h1; exact Nat.lt_succ_self _
    | some q =>
      obtain ⟨j, v⟩ := q
      rw [hfk] at hf
      obtain ⟨_, m, hj, p, hp1, hp2, hset⟩ := fk_some hfk
      obtain rfl : j = m := by omega
      have hlen : arr.toList.length = es.length := by have := congrArg List.length ha; simpa using this
      have hjl : j < es.length := (List.getElem?_eq_some_iff.1 hp1).1
      have hja : j < arr.size := by rw [← Array.length_toList, hlen]; exact hjl
      have hkey : (arr[j]?).map (·.key) = some (kc k) := by
        have h1 := congrArg (fun l => l[j]?) ha
        simp only [List.getElem?_map, hp1, Option.map_some] at h1
        rw [Array.getElem?_toList, Array.getElem?_eq_getElem hja] at h1
        rw [Array.getElem?_eq_getElem hja]
        simp only [Option.map_some, Option.some.injEq, Prod.mk.injEq] at h1 ⊢
        rw [h1.1, hp2]
      refine ⟨arr.modify j fun e' => { e' with key := kc k, val := vc e }, clock, ?_, ?_, ?_⟩
      · have hst : (Instr.keyThatStays (kc k) (kc k)).run P w = .ok (kc k) w := by
          unfold Instr.keyThatStays
          rw [if_pos (hK.bits k)]; rfl
        simp only [Instr.mapUpdate, Sem.run_bind, run_underlying hu, hgo, hc, hf, Result.andThen_ok, Option.map_some, hkey, Option.getD_some, hst, MapKept.run_setObj_map _ hg']
      · rw [hset e]
        apply List.ext_getElem?
        intro q
        have h1 := congrArg (fun l => l[q]?) ha
        simp only [List.getElem?_map] at h1 ⊢
        rw [Array.getElem?_toList, Array.getElem?_modify, List.getElem?_set]
        rw [Array.getElem?_toList] at h1
        by_cases hq : j = q
        · subst hq
          rw [if_pos rfl, if_pos rfl, if_pos hjl, Array.getElem?_eq_getElem hja]
          rfl
        · rw [if_neg hq, if_neg hq]
          exact h1
      · have hb : (arr.modify j fun e' => { e' with key := kc k, val := vc e }).toList.map (·.born) = arr.toList.map (·.born) := by
          apply List.ext_getElem?
          intro q
          simp only [List.getElem?_map]
          rw [Array.getElem?_toList, Array.getElem?_modify, Array.getElem?_toList]
          by_cases hq : j = q
          · subst hq; rw [if_pos rfl, Array.getElem?_eq_getElem hja]; rfl
          · rw [if_neg hq]
        refine ⟨by rw [hb]; exact hstm.1, fun x hx => ?_⟩
        have h2 : x.born ∈ arr.toList.map (·.born) := by rw [← hb]; exact List.mem_map.2 ⟨x, hx, rfl⟩
        obtain ⟨y, hy, e2⟩ := List.mem_map.1 h2
        rw [← e2]; exact hstm.2 y hy
  obtain ⟨arr', clock', hrun, hpairs, hstm'⟩ := key
  have hlt := U27 hg
  refine wo_runS hd (w' := { w with heap := w.heap.setIfInBounds g (.map arr' clock') }) ?_ (h _ ?_)
  · intro n c he
    unfold execOp
    rcases hop with hop | hop <;> simp only [hop, he.eval hx, he.eval hy, he.eval hz, hrun, Sem.run_bind, Result.andThen_ok, Sem.run_pure]
  · refine S.step hi hH (like_setB w g _) (fun b _ hb => ?_) ⟨arr', clock', ?_, hpairs, hstm'⟩ (fun b hb => ⟨.inl hb, ?_⟩)
    · have hne : b ≠ g := by simpa [Rs.mp] using hb
      show (w.heap.setIfInBounds g _)[b]? = w.heap[b]?
      rw [Array.getElem?_setIfInBounds_ne (Ne.symm hne)]
    · show (w.heap.setIfInBounds g _)[g]? = _
      simp [hlt]
    · simp [Rs.mp] at hb
      subst hb
      show _ < (w.heap.setIfInBounds _ _).size
      simpa using hlt
end
end Go.Proofs.Ytkcighnochjlgaa
namespace Go.Proofs.Ytkcighnochjlgaa
open Go.ChangeShapes Go.WideShapes Go.ChangeAt Go.RowKit
def Rs.bun (H : List Rs) : Rs :=
  ⟨H.flatMap (·.bl), fun h => (∀ r ∈ H, r.ok h) ∧ ∀ (i j : Nat) r s, i ≠ j → H[i]? = some r → H[j]? = some s → ∀ b ∈ r.bl, b ∉ s.bl, fun h h' hb hk =>
    ⟨fun r hr => r.loc h h' (fun b hbr => hb b (List.mem_flatMap.2 ⟨r, hr, hbr⟩)) (hk.1 r hr), hk.2⟩⟩
section
variable {w w' : World} {M M' : Hp} {X : Fr} {H H' : List Rs} {r r' : Rs} {i : Nat}
theorem SH.bun (S : SH w M X H) : SH w M X [Rs.bun H] := by
  refine ⟨S.m, S.x, S.mx, fun s hs => ?_, fun s hs b hb => ?_, fun i j r s hij hi hj b hb => ?_, S.like⟩
  · rw [List.mem_singleton] at hs; subst hs; exact ⟨S.ok, S.ap⟩
  · rw [List.mem_singleton] at hs; subst hs
    obtain ⟨r, hr, hbr⟩ := List.mem_flatMap.1 hb
    exact S.bl r hr b hbr
  · have h1 := (List.getElem?_eq_some_iff.1 hi).1
    have h2 := (List.getElem?_eq_some_iff.1 hj).1
    simp at h1 h2; omega
theorem SH.unbun (S : SH w M X [Rs.bun H]) : SH w M X H := by
  obtain ⟨h1, h2⟩ := S.ok (Rs.bun H) (by simp)
  exact ⟨S.m, S.x, S.mx, h1, fun r hr b hb => S.bl (Rs.bun H) (by simp) b (List.mem_flatMap.2 ⟨r, hr, hb⟩), h2, S.like⟩
end
def Rs.lr (l D : Nat) (rc : Loop) : Rs :=
  ⟨[l, D], fun h => h l = some (.loop rc) ∧ h D = some (.deferred (some [])), fun h h' hb hk => ⟨by rw [hb l (by simp)]; exact hk.1, by rw [hb D (by simp)]; exact hk.2⟩⟩
namespace InF
structure Ctx where
  Q : Exit → Act → World → Prop
  r : Option Nat
def Ctx.F (C : Ctx) : Fence := match C.r with
  | none => Fence.wide
  | some l => Fence.wide.inRound l
theorem Ctx.F_fn (C : Ctx) (f : FuncId) : C.F.fn f := by
  unfold Ctx.F; split <;> trivial
theorem Ctx.F_depth (C : Ctx) : C.F.depth = none := by
  unfold Ctx.F; split <;> rfl
theorem Ctx.F_isSome (C : Ctx) {p : Prop} : C.F.depth.isSome = true → p := by rw [C.F_depth]; intro h; cases h
theorem callsF (C : Ctx) {m : Nat} {P : Program} {f : FuncId} {args : Array Value} {w : World} {R : Ending → World → Prop} (h : Calls P f args w R) : CallsIn C.F m P f args w R := by
  unfold Ctx.F
  split
  · exact callsIn_wide.2 h
  · exact (callsIn_wide.2 h).inRound _
theorem rowsF (C : Ctx) {m : Nat} {P : Program} {row : String} {args : Array Value} {w : World} {R : Value → World → Prop} (h : Rows P row args w R) : RowsIn C.F m P row args w R := by
  unfold Ctx.F
  split
  · exact fun c cs _ => let ⟨v, w', r, s⟩ := h c cs; ⟨v, w', r, stepsIn_wide.2 s⟩
  · exact fun c cs _ => let ⟨v, w', r, s⟩ := h c cs; ⟨v, w', r, stepsIn_wide.2 s⟩
theorem oper_in (C : Ctx) {P : Program} {o : Oper} {a : Act} {w : World} {next : Act → World → Prop} {Q : Exit → Act → World → Prop} (hnd : ∀ c, o.op ≠ .defer c) (h : o.wp P a w next Q) : o.wpIn C.F 0 P a w next Q := by
  refine ⟨fun f _ => C.F_fn f, ?_⟩
  rw [Oper.semAt_eq _ _ _ hnd]
  unfold Oper.wp at h
  generalize (execOp a.eval o).run P w = r at h
  cases r with
  | ok nx w' =>
    cases nx with
    | value v => exact h
    | skip => exact h
    | defer d => exact h
    | enter f args => exact ⟨C.F_isSome, callsF C h⟩
    | row row args => exact ⟨C.F_isSome, rowsF C h⟩
    | _ => exact h.elim
  | halt x w' =>
    cases x with
    | panic v => exact h
    | _ => exact h.elim
def post (P : Program) (C : Ctx) : List K → Exit → Act → World → Prop
  | [] => C.Q
  | .thn c :: s => Exit.then (c.wpIn C.F 0 P (post P C s)) (post P C s)
  | .blk id :: s => Exit.inBlock id (post P C s)
  | .lp I :: s => Exit.then I (post P C s)
def WS (P : Program) (n : Nat) (C : Ctx) (c : Code) (s : List K) (L : List (Nat × Value)) (w : World) : Prop := ∀ a, Env n L a → c.wpIn C.F 0 P (post P C s) a w
def NM (P : Program) (n : Nat) (C : Ctx) (s : List K) (L : List (Nat × Value)) (w : World) : Prop := ∀ a, Env n L a → post P C s .normal a w
def WL (P : Program) (n : Nat) (C : Ctx) (c : Code) (k : Nat) (s : List K) (L : List (Nat × Value)) (w : World) : Prop := ∀ a, Env n L a → wpListIn C.F 0 P (rg c) (post P C s) ((rg c).toList.drop k) a w
section
variable {P : Program} {n : Nat} {C : Ctx} {c : Code} {s : List K} {L : List (Nat × Value)} {w : World}
theorem ws_sub (L2 : List (Nat × Value)) (hs : Sub L L2) (h : WS P n C c s L2 w) : WS P n C c s L w := fun a ha => h a (ha.sub hs)
theorem U10 (L2 : List (Nat × Value)) (hs : Sub L L2) (h : NM P n C s L2 w) : NM P n C s L w := fun a ha => h a (ha.sub hs)
theorem Ul (a b : Code) (hk : kind c = 1) (ha : cL c = a) (hb : cR c = b) (h : WS P n C a (.thn b :: s) L w) : WS P n C c s L w := by
  subst ha; subst hb
  intro a ha
  rw [kind_seq hk]
  exact wpIn_seq (h a ha)
theorem U19 (a : Code) (i : Nat) (hk : kind c = 3) (ha : cL c = a) (hi : cId c = i) (h : WS P n C a (.blk i :: s) L w) : WS P n C c s L w := by
  subst ha; subst hi
  intro a ha
  rw [kind_block hk]
  exact wpIn_block (h a ha)
theorem ws_skip (hk : kind c = 9) (h : NM P n C s L w) : WS P n C c s L w := by
  intro a ha
  rw [kind_skip hk]
  exact wpIn_skip (h a ha)
theorem U6 (h : WS P n C c s L w) : NM P n C (.thn c :: s) L w := fun a ha => h a ha
theorem U8 {id : Nat} (h : NM P n C s L w) : NM P n C (.blk id :: s) L w := fun a ha => h a ha
theorem Uf {I : Act → World → Prop} (h : ∀ a, Env n L a → I a w) : NM P n C (.lp I :: s) L w := fun a ha => h a ha
theorem U1d {id : Nat} : ∀ {s s' : List K}, popTo id s = some s' → ∀ a w, post P C s' .normal a w → post P C s (.exit id) a w
  | [], s', h, a, w, hq => by cases h
  | .thn c :: s, s', h, a, w, hq => U1d (s := s) h a w hq
  | .lp I :: s, s', h, a, w, hq => U1d (s := s) h a w hq
  | .blk i :: s, s', h, a, w, hq => by
    simp only [popTo] at h
    simp only [post, Exit.inBlock]
    by_cases hi : i = id
    · subst hi
      simp only [Nat.beq_refl, Option.some.injEq] at h
      subst h
      rw [if_pos rfl]
      exact hq
    · have h2 : Nat.beq i id = false := by
        cases hb : Nat.beq i id with
        | false => rfl
        | true => exact absurd (Nat.eq_of_beq_eq_true hb) hi
      simp only [h2] at h
      rw [if_neg (fun e => hi e.symm)]
      exact U1d (s := s) h a w hq
theorem ws_exit {s' : List K} (hk : kind c = 5) (hp : popTo (cId c) s = some s') (h : NM P n C s' L w) : WS P n C c s L w := by
  intro a ha
  rw [kind_exit hk]
  exact wpIn_exit (U1d hp a w (h a ha))
theorem ws_condN (x y : Code) {b : Bool} (hk : kind c = 2) (hb : oev L (cX c) = some (.bool b)) (hx : cL c = x) (hy : cR c = y) (ht : b = true → WS P n C x s L w) (hf : b = false → WS P n C y s L w) : WS P n C c s L w := by
  subst hx; subst hy
  intro a ha
  rw [kind_cond hk]
  exact wpIn_cond_split (ha.eval hb) (fun h => ht h a ha) (fun h => hf h a ha)
theorem ws_condFN (y : Code) (hk : kind c = 2) (hb : oev L (cX c) = some (.bool false)) (hy : cR c = y) (hf : WS P n C y s L w) : WS P n C c s L w := ws_condN (cL c) y hk hb rfl hy (fun e => by cases e) (fun _ => hf)
theorem ws_in {a : Act} {c' : Code} (ha : Env n L a) (hc : c' = c) (h : WS P n C c s L w) : c'.wpIn C.F 0 P (post P C s) a w := by subst hc; exact h a ha
theorem U4 (I : Nat → Act → World → Prop) (hk : kind c = 4) (h0 : ∀ a, Env n L a → ∃ k, I k a w)
    (round : ∀ k a w, I k a w → (cL c).wpIn C.F 0 P (post P C (.lp (fun a' w' => ∃ k', k' < k ∧ I k' a' w') :: s)) a w) : WS P n C c s L w := by
  intro a ha
  rw [kind_loop hk]
  have key : ∀ m k, k < m → ∀ a w, I k a w → Code.roundsIn C.F 0 P (cL c) (post P C s) m a w := by
    intro m
    induction m with
    | zero => intro k hk; omega
    | succ m ih =>
      intro k hk a w hi
      rw [roundsIn_succ]
      refine wpIn_mono (round k a w hi) (fun e a w q => ?_)
      cases e with
      | normal =>
        obtain ⟨k', hlt, hi'⟩ := q
        exact ih k' (by omega) a w hi'
      | _ => exact q
  obtain ⟨k0, h1⟩ := h0 a ha
  exact wpIn_loop_rounds (k0 + 1) (key (k0 + 1) k0 (by omega) a w h1)
theorem U9 (hk : kind c = 7) (h : WL P n C c 0 s L w) : WS P n C c s L w := by
  intro a ha
  rw [kind_region hk]
  exact wpIn_region_list (h a ha)
theorem Us {k : Nat} (hk : op c k = none) (h : NM P n C s L w) : WL P n C c k s L w := by
  intro a ha
  have : ((rg c).toList.drop k) = [] := by
    unfold op at hk
    rw [Up] at hk
    exact List.drop_eq_nil_of_le (by simpa using hk)
  rw [this]
  exact wpListIn_nil (h a ha)
def ndOp (o : Oper) : Bool := match o.op with
  | .defer _ => false
  | _ => true
theorem ndOp_spec {o : Oper} (h : ndOp o = true) : ∀ c, o.op ≠ .defer c := fun c e => by unfold ndOp at h; rw [e] at h; cases h
theorem Ud {k k' : Nat} {o : Oper} (ho : op c k = some o) (hk : k' = k.succ) (hg : o.guard = none) (h : WO P n o L w (fun L' w' => WL P n C c k' s L' w')) (hnd : ndOp o = true := by rfl) : WL P n C c k s L w := by
  intro a ha
  rw [drop_op ho]
  subst hk
  refine wpListIn_plain hg fun K hK => ?_
  exact oper_in C (ndOp_spec hnd) (h a ha K _ fun L' a' w' he hw => hK _ _ (hw a' he))
theorem wl_yield {k k' d l : Nat} {o : Oper} {vs : List Value} {ca : Call} {fo : Operand} {xs : List Operand} (ho : op c k = some o) (hk : k' = k.succ) (hg : o.guard = none) (hd : o.dst = some d) (hop : o.op = .call ca) (hca : ca.callee = .value fo) (hfo : oev L fo = some (.func (.yield l) #[] #[]))
    (hxs : ca.args = xs.toArray) (hvs : oevs L xs = some vs) (hn : Nat.blt d n = true) {R : Value → World → Prop} (hy : YieldAt C.F 0 P l vs.toArray w fun e w' => ∃ v, e = .returned v ∧ R v w') (h : ∀ v w', R v w' → WL P n C c k' s ((d, v) :: L) w') : WL P n C c k s L w := by
  intro a ha
  rw [drop_op ho]
  subst hk
  refine wpListIn_plain hg fun K hK => ?_
  obtain ⟨fn, tmps, assign, body, hy1, hy2⟩ := hy
  have hr : (execOp a.eval o).run P w = .ok (.round l fn tmps assign body) w := by
    unfold execOp
    simp only [hop, resolve, hca, ha.eval hfo, hxs, List.map_toArray, ha.evals hvs, Deferred.ofValue, Sem.run_bind, Sem.run_pure, Result.andThen_ok, invoke, Array.empty_append]
    exact hy1
  refine ⟨fun f _ => C.F_fn f, ?_⟩
  rw [Oper.semAt_eq _ _ _ (fun c e => by rw [e] at hop; cases hop), hr, Oper.uponIn_round, hd]
  refine ⟨C.F_isSome, hy2.mono ?_⟩
  rintro e w' ⟨v, rfl, hR⟩
  exact hK _ _ (h v w' hR _ (ha.put (by simpa using hn) v))
theorem nm_end {fn : Func} {R : Ending → World → Prop} (hC : C.Q = bodyPost P fn R) {rs : List ResultVar} (vs : List Value) (hr : fn.results = rs.toArray) (h : ResIs P L w rs vs) (hR : R (.returned (tup vs)) w) : NM P n C [] L w := by
  intro a ha
  show C.Q .normal a w
  rw [hC]
  exact ⟨ha.df, tup vs, run_results ha hr h, hR⟩
theorem U7 {f : FuncId} {fn : Func} {b : Code} {args : List Value} {w : World} {R : Ending → World → Prop} (hf : P.funcs[f]? = some fn) (hb : fn.body = some b) {n : Nat} (hn : fn.ntmps = n) (hsz : Nat.ble args.length n = true)
    (h : ∀ C : Ctx, C.r = none → C.Q = bodyPost P fn R → WS P n C b [] (argL 0 args) w) : CallsIn Fence.wide 0 P f args.toArray w R := by
  have h1 := h ⟨bodyPost P fn R, none⟩ rfl rfl
  refine callsIn_of_wp hf hb trivial (h1 _ ⟨?_, rfl, fun t v hv => ?_⟩)
  · simp [hn]; have : args.length ≤ n := by simpa using hsz
    omega
  · have := (lk_argL args 0 t v hv).2
    rw [Nat.sub_zero] at this
    have hlt := (List.getElem?_eq_some_iff.1 this).1
    simp only [Array.getD_eq_getD_getElem?]
    rw [Array.getElem?_append_left (by simpa using hlt)]
    simp [this]
theorem calls_marks {f : FuncId} {fn : Func} {b : Code} {args : List Value} {w : World} {R : Ending → World → Prop} (hf : P.funcs[f]? = some fn) (hb : fn.body = some b) {n : Nat} (hn : fn.ntmps = n) (hsz : Nat.ble args.length n = true)
    (h : ∀ C : Ctx, C.r = none → C.Q = bodyPostM Fence.wide 0 P fn R → WS P n C b [] (argL 0 args) w) : Calls P f args.toArray w R := by
  have h1 := h ⟨bodyPostM Fence.wide 0 P fn R, none⟩ rfl rfl
  refine callsIn_wide.1 (callsIn_of_wp_marks hf hb trivial (h1 _ ⟨?_, rfl, fun t v hv => ?_⟩))
  · simp [hn]; have : args.length ≤ n := by simpa using hsz
    omega
  · have := (lk_argL args 0 t v hv).2
    rw [Nat.sub_zero] at this
    have hlt := (List.getElem?_eq_some_iff.1 this).1
    simp only [Array.getD_eq_getD_getElem?]
    rw [Array.getElem?_append_left (by simpa using hlt)]
    simp [this]
end
section
variable {P : Program} {n : Nat} {C : Ctx} {c : Code} {s : List K} {L : List (Nat × Value)} {w : World} {M : Hp} {X : Fr} {H : List Rs}
def Iter (P : Program) (f : FuncId) (lb : List Value) (enc : Nat → Value) (N : Nat) (M : Hp) (X : Fr) : Prop :=
  ∀ (l : Nat) (J : Nat → Hp → Rs → Prop) (w : World) (M1 : Hp) (B : Rs), M.le M1 →
    (∀ k M' B' w', k < N → M1.le M' → SH w' M' X [B'] → J k M' B' → YieldAt Fence.wide 0 P l #[enc k] w' fun e w'' => ∃ v, e = .returned v ∧ v = .bool true ∧ ∃ M'' B'', M'.le M'' ∧ SH w'' M'' X [B''] ∧ J (k + 1) M'' B'') →
    SH w M1 X [B] → J 0 M1 B → CallsIn Fence.wide 0 P f ((Value.func (.yield l) #[] #[]) :: lb).toArray w fun e w' => (∃ v, e = .returned v) ∧ ∃ M' B', M1.le M' ∧ SH w' M' X [B'] ∧ J N M' B'
theorem lr_put {w : World} {l D : Nat} {rc rc' : Loop} {Hs : List Rs} (S : SH w M X (Rs.lr l D rc :: Hs)) : SH (w.putObj l (.loop rc')) M X (Rs.lr l D rc' :: Hs) := by
  obtain ⟨h1, h2⟩ := S.ok (Rs.lr l D rc) (by simp)
  have hne : D ≠ l := fun e => by subst e; rw [h1] at h2; cases h2
  have hlt := U27 h1
  have hlt2 := U27 h2
  refine S.step (i := 0) (r := Rs.lr l D rc) rfl rfl ⟨rfl, rfl, rfl, by simp [World.putObj]⟩ (fun b _ hb => ?_) ⟨World.putObj_heap_same hlt, (World.putObj_heap_other hne).trans h2⟩ (fun b hb => ⟨.inl hb, ?_⟩)
  · exact World.putObj_heap_other (fun e => hb (by rw [e]; simp [Rs.lr]))
  · simp only [Rs.lr, List.mem_cons, List.not_mem_nil, or_false] at hb
    rcases hb with rfl | rfl <;> simp [World.putObj, hlt, hlt2]
theorem env_start {a : Act} {p : Nat} {v : Value} (ha : Env n L a) (hp : p < n) : Env n ((p, v) :: L) { tmps := a.tmps.setIfInBounds p v, defers := [] } := by
  have := (ha.put hp v)
  exact ⟨by simpa [Act.put] using this.sz, rfl, fun t u hu => by have := this.at_ t u hu; simpa [Act.put] using this⟩
theorem ws_rangeFunc {p : Nat} {g : Operand} {asg bd : Code} {f : FuncId} {lb : List Value} {enc : Nat → Value} {N : Nat} (hr : C.r = none) (hc : c = .rangeFunc g #[p] asg bd) (hp' : Nat.blt p n = true) (hg : oev L g = some (.func (.func f) #[] lb.toArray)) (hen : ∀ args w, (callFunc f args).run P w = .ok (.enter f args) w)
    (S : SH w M X H) (I : Nat → Hp → List Rs → Prop) (I1 : Nat → Act → Hp → List Rs → Prop) (h0 : I 0 M H) (hit : Iter P f lb enc N M X)
    (hassign : ∀ (k : Nat) (M' : Hp) (H' : List Rs) (w' : World) (C' : Ctx) (R0 : Rs), k < N → M.le M' → SH w' M' X (R0 :: H') → I k M' H' → WS P n C' asg [.lp (fun a w'' => ∃ M'' H'', M'.le M'' ∧ SH w'' M'' X (R0 :: H'') ∧ I1 k a M'' H'')] ((p, enc k) :: L) w')
    (hbody : ∀ (k : Nat) (M' : Hp) (H' : List Rs) (w' : World) (C' : Ctx) (R0 : Rs) (a : Act), k < N → M.le M' → SH w' M' X (R0 :: H') → I1 k a M' H' → bd.wpIn C'.F 0 P (post P C' [.lp (fun _ w'' => ∃ M'' H'', M'.le M'' ∧ SH w'' M'' X (R0 :: H'') ∧ I (k + 1) M'' H'')]) a w')
    (hdone : ∀ (a : Act) (M' : Hp) (H' : List Rs) (w' : World) (D l : Nat) (rc : Loop), Env n L a → M.le M' → SH w' M' X (Rs.lr l D rc :: H') → I N M' H' → post P C s .normal { a with defers := [{ target := .collected D, args := #[] }] } w') : WS P n C c s L w := by
  have hF : C.F = Fence.wide := by unfold Ctx.F; rw [hr]
  intro a ha
  subst hc
  rw [hF]
  refine wpIn_rangeFunc ?_
  intro fn _
  rw [show Fence.wide.round = none from rfl]
  obtain ⟨rec, hrec⟩ : ∃ rec : LoopState → Loop, rec = fun st => { state := st, pending := none, fn, tmps := a.tmps, params := #[p], assign := asg, body := bd, defers := w.heap.size } := ⟨_, rfl⟩
  obtain ⟨W1, hW1⟩ : ∃ W1, (w.alloc (.deferred (some []))).alloc (.loop (rec .ready)) = W1 := ⟨_, rfl⟩
  have hL1 : W1.heap[w.heap.size + 1]? = some (.loop (rec .ready)) := by
    rw [← hW1]; have := World.alloc_heap_new (w.alloc (.deferred (some []))) (.loop (rec .ready)); rwa [World.size_alloc] at this
  have hK1 : W1.heap[w.heap.size]? = some (.deferred (some [])) := by
    rw [← hW1]; exact (Below.heap_alloc _ _ _ (by simp)).trans (World.alloc_heap_new w _)
  have hkeep : ∀ b, b < w.heap.size → hp W1 b = hp w b := fun b hb => by
    rw [← hW1]
    exact (U2d (w.alloc (.deferred (some []))) _ b (by rw [size_al]; omega)).trans (U2d w _ b hb)
  have S1 : SH W1 M X (Rs.lr (w.heap.size + 1) w.heap.size (rec .ready) :: H) := by
    have hl : Like w W1 := by rw [← hW1]; exact (U2c w _).trans (U2c _ _)
    refine S.cons hl hkeep ⟨hL1, hK1⟩ (fun b hb => ?_)
    have hsz : W1.heap.size = w.heap.size + 2 := by rw [← hW1, size_al, size_al]
    simp only [Rs.lr, List.mem_cons, List.not_mem_nil, or_false] at hb
    omega
  have hdf : a.defers = [] := ha.df
  refine ⟨w.heap.size + 1, [{ target := .collected w.heap.size, args := #[] }], W1, { target := .fn (.func f) lb.toArray, args := #[.func (.yield (w.heap.size + 1)) #[] #[]] }, W1, f,
    #[.func (.yield (w.heap.size + 1)) #[] #[]] ++ lb.toArray, W1, ?_, ?_, fun _ _ => trivial, ?_, fun h => (by cases h), ?_⟩
  · rw [← hW1, hrec]; exact run_enterLoop_outer _ _ _ _ _
  · simp only [resolve, ha.eval hg]
    simp [go_sem]
  · simp [invoke, go_sem, hen]
  · rw [show (#[.func (.yield (w.heap.size + 1)) #[] #[]] ++ lb.toArray : Array Value) = ((Value.func (.yield (w.heap.size + 1)) #[] #[]) :: lb).toArray from by simp]
    refine (hit (w.heap.size + 1) (fun k M' B => ∃ H', B = Rs.bun (Rs.lr (w.heap.size + 1) w.heap.size (rec .ready) :: H') ∧ I k M' H') W1 M _ (Hp.le_refl _) ?_ S1.bun ⟨H, rfl, h0⟩).mono ?_
    · rintro k M' B' w' hk hle SB ⟨H', rfl, hI⟩
      have S' := SB.unbun
      obtain ⟨hl, hD⟩ := S'.ok (Rs.lr (w.heap.size + 1) w.heap.size (rec .ready)) (by simp)
      have hy := run_yield (P := P) (args := #[enc k]) hl (by rw [hrec]; rfl)
      rw [hrec] at hy
      refine ⟨fn, _, asg, bd, hy, roundIn_of_wpIn trivial ?_⟩
      have hC' : (Ctx.mk (fun _ _ _ => False) (some (w.heap.size + 1))).F = Fence.wide.inRound (w.heap.size + 1) := rfl
      have e1 : ((#[p] : Array Tmp).zip #[enc k]).foldl (fun tmps (t, a) => tmps.setIfInBounds t a) a.tmps = a.tmps.setIfInBounds p (enc k) := by simp
      rw [← hC']
      have hA := hassign k M' H' w' (Ctx.mk (fun _ _ _ => False) (some (w.heap.size + 1))) (Rs.lr (w.heap.size + 1) w.heap.size (rec .ready)) hk hle S' hI _ (env_start ha (by simpa using hp'))
      rw [e1]
      refine wpIn_mono hA ?_
      rintro e a2 w2 hq
      cases e with
      | normal =>
        obtain ⟨M2, H2, hle2, S2, hI1⟩ := hq
        obtain ⟨hl2, _⟩ := S2.ok (Rs.lr (w.heap.size + 1) w.heap.size (rec .ready)) (by simp)
        refine ⟨_, run_beginRound hl2 (by rw [hrec]), ?_⟩
        have S3 := lr_put (rc' := { rec .ready with state := .busy }) S2
        refine wpIn_mono (hbody k M2 H2 _ (Ctx.mk (fun _ _ _ => False) (some (w.heap.size + 1))) _ a2 hk (hle.trans hle2) S3 hI1) ?_
        rintro e a3 w3 hq3
        cases e with
        | normal =>
          obtain ⟨M4, H4, hle4, S4, hI4⟩ := hq3
          obtain ⟨hl4, _⟩ := S4.ok (Rs.lr (w.heap.size + 1) w.heap.size { rec .ready with state := .busy }) (by simp)
          have he := run_endRound (P := P) none hl4
          have S5 := lr_put (rc' := rec .ready) S4
          refine ⟨_, _, he, _, rfl, rfl, M4, Rs.bun (Rs.lr (w.heap.size + 1) w.heap.size (rec .ready) :: H4), hle2.trans hle4, ?_, H4, rfl, hI4⟩
          have e2 : ({ ({ rec .ready with state := .busy } : Loop) with state := (if (none : Option Code).isNone = true then LoopState.ready else LoopState.done), pending := none } : Loop) = rec .ready := by rw [hrec]; rfl
          rw [e2]
          exact S5.bun
        | _ => exact hq3.elim
      | _ => exact hq.elim
    · rintro e w2 ⟨⟨v, rfl⟩, M', B', hle, SB, H', rfl, hI⟩
      have S' := SB.unbun
      obtain ⟨hl, hD⟩ := S'.ok (Rs.lr (w.heap.size + 1) w.heap.size (rec .ready)) (by simp)
      have he := run_endLoop (P := P) hl (by rw [hrec]; simp)
      refine ⟨none, w2.putObj (w.heap.size + 1) (.loop { rec .ready with state := .exhausted }), by rw [he, hrec], ?_⟩
      have := hdone a M' H' _ w.heap.size (w.heap.size + 1) _ ha hle (lr_put (rc' := { rec .ready with state := .exhausted }) S') hI
      rw [hdf]
      exact this
theorem lr_take {l D : Nat} {rc : Loop} {Hs : List Rs} (S : SH w M X (Rs.lr l D rc :: Hs)) : SH (w.putObj D (.deferred none)) M X Hs := by
  obtain ⟨h1, h2⟩ := S.ok (Rs.lr l D rc) (by simp)
  have S2 : SH (w.putObj D (.deferred none)) M X (Rs.emp :: Hs) := S.step (i := 0) (r := Rs.lr l D rc) rfl rfl ⟨rfl, rfl, rfl, by simp [World.putObj]⟩ (fun b _ hb => World.putObj_heap_other (fun e => hb (by rw [e]; simp [Rs.lr]))) trivial (fun b hb => by cases hb)
  exact S2.suf (N := [Rs.emp])
theorem tail_la {fn : Func} {R : Ending → World → Prop} (hC : C.Q = bodyPostM Fence.wide 0 P fn R) {i : Nat} {o1 o2 : Oper} (hc : c = .seq (.region i #[o1, o2] false) .ret) {x : Operand} {T d1 d2 l D : Nat} {p : Addr} {v : Value} {dd : TypeDesc} {rc : Loop} {Hs : List Rs} {a : Act}
    (h1 : o1.op = .load T x) (g1 : o1.guard = none) (e1 : o1.dst = some d1) (h2 : o2.op = .assign (.tmp d1)) (g2 : o2.guard = none) (e2 : o2.dst = some d2) (ha : Env n L a) (hx : oev L x = some (.pointer (some p))) (hu : P.underlying T = some dd) (hd : flatD dd = true) (hn1 : Nat.blt d1 n = true) (hn2 : Nat.blt d2 n = true)
    (hres : fn.results = #[.tmp d2]) (S : SH w M X (Rs.lr l D rc :: Hs)) (hcell : w.cell? p = some v) (hR : ∀ w', SH w' M X Hs → R (.returned v) w') : c.wpIn C.F 0 P C.Q { a with defers := [{ target := .collected D, args := #[] }] } w := by
  subst hc
  obtain ⟨_, hD⟩ := S.ok (Rs.lr l D rc) (by simp)
  have r1 : (execOp a.eval o1).run P w = .ok (.value v) w := U1b h1 hx hu hd hcell n a ha
  have ha1 := ha.put (d := d1) (by simpa using hn1) v
  have r2 : (execOp (a.put (some d1) v).eval o2).run P w = .ok (.value v) w := run_assign h2 (by simp [oev, lk]) n _ ha1
  have ha2 := ha1.put (d := d2) (by simpa using hn2) v
  refine wpIn_seq ?_
  refine wpIn_region_list ?_
  show wpListIn C.F 0 P #[o1, o2] _ [o1, o2] _ w
  refine wpListIn_plain g1 fun K hK => ?_
  refine ⟨fun f _ => C.F_fn f, ?_⟩
  rw [Oper.semAt_eq _ _ _ (fun c e => by rw [e] at h1; cases h1), show (execOp ({ a with defers := [{ target := .collected D, args := #[] }] } : Act).eval o1).run P w = .ok (.value v) w from r1, Oper.uponIn_value, e1]
  refine hK _ _ ?_
  refine wpListIn_plain g2 fun K2 hK2 => ?_
  refine ⟨fun f _ => C.F_fn f, ?_⟩
  rw [Oper.semAt_eq _ _ _ (fun c e => by rw [e] at h2; cases h2), show (execOp (({ a with defers := [{ target := .collected D, args := #[] }] } : Act).put (some d1) v).eval o2).run P w = .ok (.value v) w from r2, Oper.uponIn_value, e2]
  refine hK2 _ _ ?_
  refine wpListIn_nil ?_
  refine wpIn_ret ?_
  rw [hC]
  refine ⟨by simp, .inl ⟨D, _, rfl, run_takeDeferred hD, ?_⟩⟩
  refine ⟨v, ?_, hR _ (lr_take S)⟩
  have hz := ha.sz
  have hd2 : d2 < n := by simpa using hn2
  simp only [Act.put]
  simp [results, hres]
  intro h
  omega
end
end InF
end Go.Proofs.Ytkcighnochjlgaa
namespace Go.Proofs.Ytkcighnochjlgaa
open Go.ChangeShapes Go.WideShapes Go.ChangeAt Go.RowKit
theorem sz3 : (Try.prog.info? 3).map (·.size) = some 1 := by kernel_rfl
theorem ce3 : Nat.blt 0 (Try.prog.cellsOf 3) = true := by kernel_rfl
theorem nf3 : ∃ i, Try.prog.info? 3 = some i := Option.isSome_iff_exists.1 (by kernel_rfl)
theorem zr3 : (Try.prog.info? 3).map (·.zero) = some (some (.int .i64 0)) := by kernel_rfl
theorem sz4 : (Try.prog.info? 4).map (·.size) = some 1 := by kernel_rfl
theorem ce4 : Nat.blt 0 (Try.prog.cellsOf 4) = true := by kernel_rfl
theorem nf4 : ∃ i, Try.prog.info? 4 = some i := Option.isSome_iff_exists.1 (by kernel_rfl)
theorem zr4 : (Try.prog.info? 4).map (·.zero) = some (some (.bool false)) := by kernel_rfl
theorem sz36 : (Try.prog.info? 36).map (·.size) = some 1 := by kernel_rfl
theorem sz49 : (Try.prog.info? 49).map (·.size) = some 1 := by kernel_rfl
theorem ce49 : Nat.blt 0 (Try.prog.cellsOf 49) = true := by kernel_rfl
theorem nf49 : ∃ i, Try.prog.info? 49 = some i := Option.isSome_iff_exists.1 (by kernel_rfl)
theorem sz51 : (Try.prog.info? 51).map (·.size) = some 2 := by kernel_rfl
theorem ce51 : Nat.blt 0 (Try.prog.cellsOf 51) = true := by kernel_rfl
theorem nf51 : ∃ i, Try.prog.info? 51 = some i := Option.isSome_iff_exists.1 (by kernel_rfl)
theorem zr51 : (Try.prog.info? 51).map (·.zero) = some (some (.agg [.slice none 0 0, .int .i64 0].toArray)) := by kernel_rfl
theorem sz111 : (Try.prog.info? 111).map (·.size) = some 5 := by kernel_rfl
theorem zr111 : (Try.prog.info? 111).map (·.zero) = some (some (.agg [.int .i64 0, .int .i64 0, .int .i64 0, .int .i64 0, .bool false].toArray)) := by kernel_rfl
theorem ce112 : Nat.blt 0 (Try.prog.cellsOf 112) = true := by kernel_rfl
theorem nf112 : ∃ i, Try.prog.info? 112 = some i := Option.isSome_iff_exists.1 (by kernel_rfl)
theorem sz126 : (Try.prog.info? 126).map (·.size) = some 2 := by kernel_rfl
theorem zr126 : (Try.prog.info? 126).map (·.zero) = some (some (.agg [.int .i64 0, .int .i64 0].toArray)) := by kernel_rfl
theorem st126 : StOf Try.prog 126 [(0, 1), (1, 1)] [.int .i64 0, .int .i64 0] := ⟨_, uT126, by kernel_rfl, ⟨⟨rfl, by kernel_rfl⟩, ⟨rfl, by kernel_rfl⟩, trivial⟩⟩
theorem sz142 : (Try.prog.info? 142).map (·.size) = some 1 := by kernel_rfl
theorem zr142 : (Try.prog.info? 142).map (·.zero) = some (some (.slice none 0 0)) := by kernel_rfl
theorem sz167 : (Try.prog.info? 167).map (·.size) = some 2 := by kernel_rfl
theorem zr167 : (Try.prog.info? 167).map (·.zero) = some (some (.agg [.int .i64 0, .bool false].toArray)) := by kernel_rfl
theorem st167 : StOf Try.prog 167 [(0, 1), (1, 1)] [.int .i64 0, .bool false] := ⟨_, uT167, by kernel_rfl, ⟨⟨rfl, by kernel_rfl⟩, ⟨rfl, by kernel_rfl⟩, trivial⟩⟩
theorem sz196 : (Try.prog.info? 196).map (·.size) = some 2 := by kernel_rfl
theorem zr196 : (Try.prog.info? 196).map (·.zero) = some (some (.agg [.int .i64 0, .int .i64 0].toArray)) := by kernel_rfl
theorem st196 : StOf Try.prog 196 [(0, 1), (1, 1)] [.int .i64 0, .int .i64 0] := ⟨_, uT196, by kernel_rfl, ⟨⟨rfl, by kernel_rfl⟩, ⟨rfl, by kernel_rfl⟩, trivial⟩⟩
theorem zr200 : (Try.prog.info? 200).map (·.zero) = some (some (.agg [.int .i64 0, .int .i64 0, .int .i64 0, .int .i64 0].toArray)) := by kernel_rfl
theorem sz208 : (Try.prog.info? 208).map (·.size) = some 1 := by kernel_rfl
theorem zr208 : (Try.prog.info? 208).map (·.zero) = some (some (.map none)) := by kernel_rfl
theorem zr211 : (Try.prog.info? 211).map (·.zero) = some (some (.agg [.bool false, .bool false].toArray)) := by kernel_rfl
theorem cf34 : ∀ args w, (callFunc 34 args).run Try.prog w = .ok (.enter 34 args) w := U5 (c := Try.f34.body.getD .skip) Try.func34 (by decide) rfl
theorem cf40 : ∀ args w, (callFunc 40 args).run Try.prog w = .ok (.enter 40 args) w := U5 (c := Try.f40.body.getD .skip) Try.func40 (by decide) rfl
theorem cf41 : ∀ args w, (callFunc 41 args).run Try.prog w = .ok (.enter 41 args) w := U5 (c := Try.f41.body.getD .skip) Try.func41 (by decide) rfl
theorem cf42 : ∀ args w, (callFunc 42 args).run Try.prog w = .ok (.enter 42 args) w := U5 (c := Try.f42.body.getD .skip) Try.func42 (by decide) rfl
theorem cf43 : ∀ args w, (callFunc 43 args).run Try.prog w = .ok (.enter 43 args) w := U5 (c := Try.f43.body.getD .skip) Try.func43 (by decide) rfl
theorem cf79 : ∀ args w, (callFunc 79 args).run Try.prog w = .ok (.enter 79 args) w := U5 (c := Try.f79.body.getD .skip) Try.func79 (by decide) rfl
theorem cf80 : ∀ args w, (callFunc 80 args).run Try.prog w = .ok (.enter 80 args) w := U5 (c := Try.f80.body.getD .skip) Try.func80 (by decide) rfl
theorem cf81 : ∀ args w, (callFunc 81 args).run Try.prog w = .ok (.enter 81 args) w := U5 (c := Try.f81.body.getD .skip) Try.func81 (by decide) rfl
theorem cf82 : ∀ args w, (callFunc 82 args).run Try.prog w = .ok (.enter 82 args) w := U5 (c := Try.f82.body.getD .skip) Try.func82 (by decide) rfl
theorem cf83 : ∀ args w, (callFunc 83 args).run Try.prog w = .ok (.enter 83 args) w := U5 (c := Try.f83.body.getD .skip) Try.func83 (by decide) rfl
theorem cf84 : ∀ args w, (callFunc 84 args).run Try.prog w = .ok (.enter 84 args) w := U5 (c := Try.f84.body.getD .skip) Try.func84 (by decide) rfl
theorem cf85 : ∀ args w, (callFunc 85 args).run Try.prog w = .ok (.enter 85 args) w := U5 (c := Try.f85.body.getD .skip) Try.func85 (by decide) rfl
theorem cf86 : ∀ args w, (callFunc 86 args).run Try.prog w = .ok (.enter 86 args) w := U5 (c := Try.f86.body.getD .skip) Try.func86 (by decide) rfl
theorem cf91 : ∀ args w, (callFunc 91 args).run Try.prog w = .ok (.enter 91 args) w := U5 (c := Try.f91.body.getD .skip) Try.func91 (by decide) rfl
theorem cf92 : ∀ args w, (callFunc 92 args).run Try.prog w = .ok (.enter 92 args) w := U5 (c := Try.f92.body.getD .skip) Try.func92 (by decide) rfl
theorem cf101 : ∀ args w, (callFunc 101 args).run Try.prog w = .ok (.enter 101 args) w := U5 (c := Try.f101.body.getD .skip) Try.func101 (by decide) rfl
theorem cf114 : ∀ args w, (callFunc 114 args).run Try.prog w = .ok (.enter 114 args) w := U5 (c := Try.f114.body.getD .skip) Try.func114 (by decide) rfl
theorem cf115 : ∀ args w, (callFunc 115 args).run Try.prog w = .ok (.enter 115 args) w := U5 (c := Try.f115.body.getD .skip) Try.func115 (by decide) rfl
theorem cf116 : ∀ args w, (callFunc 116 args).run Try.prog w = .ok (.enter 116 args) w := U5 (c := Try.f116.body.getD .skip) Try.func116 (by decide) rfl
theorem cf117 : ∀ args w, (callFunc 117 args).run Try.prog w = .ok (.enter 117 args) w := U5 (c := Try.f117.body.getD .skip) Try.func117 (by decide) rfl
theorem cf118 : ∀ args w, (callFunc 118 args).run Try.prog w = .ok (.enter 118 args) w := U5 (c := Try.f118.body.getD .skip) Try.func118 (by decide) rfl
theorem cf119 : ∀ args w, (callFunc 119 args).run Try.prog w = .ok (.enter 119 args) w := U5 (c := Try.f119.body.getD .skip) Try.func119 (by decide) rfl
theorem cf120 : ∀ args w, (callFunc 120 args).run Try.prog w = .ok (.enter 120 args) w := U5 (c := Try.f120.body.getD .skip) Try.func120 (by decide) rfl
theorem cf121 : ∀ args w, (callFunc 121 args).run Try.prog w = .ok (.enter 121 args) w := U5 (c := Try.f121.body.getD .skip) Try.func121 (by decide) rfl
theorem cf122 : ∀ args w, (callFunc 122 args).run Try.prog w = .ok (.enter 122 args) w := U5 (c := Try.f122.body.getD .skip) Try.func122 (by decide) rfl
theorem cf126 : ∀ args w, (callFunc 126 args).run Try.prog w = .ok (.enter 126 args) w := U5 (c := Try.f126.body.getD .skip) Try.func126 (by decide) rfl
theorem cf135 : ∀ args w, (callFunc 135 args).run Try.prog w = .ok (.enter 135 args) w := U5 (c := Try.f135.body.getD .skip) Try.func135 (by decide) rfl
theorem cf136 : ∀ args w, (callFunc 136 args).run Try.prog w = .ok (.enter 136 args) w := U5 (c := Try.f136.body.getD .skip) Try.func136 (by decide) rfl
theorem cf137 : ∀ args w, (callFunc 137 args).run Try.prog w = .ok (.enter 137 args) w := U5 (c := Try.f137.body.getD .skip) Try.func137 (by decide) rfl
theorem cf139 : ∀ args w, (callFunc 139 args).run Try.prog w = .ok (.enter 139 args) w := U5 (c := Try.f139.body.getD .skip) Try.func139 (by decide) rfl
theorem cf140 : ∀ args w, (callFunc 140 args).run Try.prog w = .ok (.enter 140 args) w := U5 (c := Try.f140.body.getD .skip) Try.func140 (by decide) rfl
theorem cf143 : ∀ args w, (callFunc 143 args).run Try.prog w = .ok (.enter 143 args) w := U5 (c := Try.f143.body.getD .skip) Try.func143 (by decide) rfl
theorem cf149 : ∀ args w, (callFunc 149 args).run Try.prog w = .ok (.enter 149 args) w := U5 (c := Try.f149.body.getD .skip) Try.func149 (by decide) rfl
theorem cf151 : ∀ args w, (callFunc 151 args).run Try.prog w = .ok (.enter 151 args) w := U5 (c := Try.f151.body.getD .skip) Try.func151 (by decide) rfl
theorem cf156 : ∀ args w, (callFunc 156 args).run Try.prog w = .ok (.enter 156 args) w := U5 (c := Try.f156.body.getD .skip) Try.func156 (by decide) rfl
theorem cf157 : ∀ args w, (callFunc 157 args).run Try.prog w = .ok (.enter 157 args) w := U5 (c := Try.f157.body.getD .skip) Try.func157 (by decide) rfl
theorem cf158 : ∀ args w, (callFunc 158 args).run Try.prog w = .ok (.enter 158 args) w := U5 (c := Try.f158.body.getD .skip) Try.func158 (by decide) rfl
theorem cf159 : ∀ args w, (callFunc 159 args).run Try.prog w = .ok (.enter 159 args) w := U5 (c := Try.f159.body.getD .skip) Try.func159 (by decide) rfl
theorem cf164 : ∀ args w, (callFunc 164 args).run Try.prog w = .ok (.enter 164 args) w := U5 (c := Try.f164.body.getD .skip) Try.func164 (by decide) rfl
end Go.Proofs.Ytkcighnochjlgaa
namespace Go.Proofs.Ytkcighnochjlgaa
open Go.ChangeShapes Go.WideShapes Go.ChangeAt Go.RowKit
theorem mk3 : MapK Try.prog 3 (Value.int .i64) := mapK_int uT3
theorem se167 : StEq Try.prog 167 [(0, false), (1, true)] := ⟨[_, _], uT167, ⟨⟨by kernel_rfl, rfl, ⟨_, uT3⟩⟩, ⟨by kernel_rfl, rfl, uT4⟩, trivial⟩, by kernel_rfl, by kernel_rfl⟩
theorem sl36 : SlOf Try.prog 36 U2 := ⟨.int .i64 0, uT36, by kernel_rfl, rfl, by decide, by decide⟩
theorem sl69 : SlOf Try.prog 69 (cdV 36) := ⟨.slice none 0 0, uT69, by kernel_rfl, rfl, by decide, by decide⟩
theorem sl118 : SlOf Try.prog 118 U1g := ⟨.bool false, uT118, by kernel_rfl, rfl, by decide, by decide⟩
theorem sl142 : SlOf Try.prog 142 (cdV 168) := ⟨.slice none 0 0, uT142, by kernel_rfl, rfl, by decide, by decide⟩
end Go.Proofs.Ytkcighnochjlgaa
namespace Go.Proofs.Ytkcighnochjlgaa
open Go.ChangeShapes Go.WideShapes Go.ChangeAt Go.RowKit
def md (x : Int) : Int := x % 18446744073709551616
theorem wr_md {x y : Int} : wr x = wr y ↔ md x = md y := by unfold wr md; rw [IntKind.wrap_i64, IntKind.wrap_i64]; omega
theorem md_wr (x : Int) : md (wr x) = md x := by unfold wr md; rw [IntKind.wrap_i64]; omega
theorem wr_idem (x : Int) : wr (wr x) = wr x := wr_md.2 (md_wr x)
theorem md_add {a b c d : Int} (h : md a = md b) (k : md c = md d) : md (a + c) = md (b + d) := by
  unfold md at *; omega
theorem md_neg {a b : Int} (h : md a = md b) : md (-a) = md (-b) := by
  unfold md at *; omega
theorem md_mul {a b c d : Int} (h : md a = md b) (k : md c = md d) : md (a * c) = md (b * d) := by
  unfold md at *
  rw [Int.mul_emod, h, k, ← Int.mul_emod]
theorem wr_add2 (x y : Int) : wr (x + wr y) = wr (x + y) := wr_md.2 (md_add rfl (md_wr y))
abbrev Tms := List (Int × Int)
def ev : Tms → (Int → Int) → Int
  | [], _ => 0
  | p :: r, φ => p.2 * φ (wr p.1) + ev r φ
theorem U21 (P Q : Tms) (φ : Int → Int) : ev (P ++ Q) φ = ev P φ + ev Q φ := by
  induction P with
  | nil => simp [ev]
  | cons p P ih => simp only [List.cons_append, ev, ih]; omega
theorem ev_add (P : Tms) (φ ψ : Int → Int) : ev P (fun x => φ x + ψ x) = ev P φ + ev P ψ := by
  induction P with
  | nil => rfl
  | cons p P ih => simp only [ev, ih, Int.mul_add]; omega
theorem ev_zero (P : Tms) : ev P (fun _ => 0) = 0 := by
  induction P with
  | nil => rfl
  | cons p P ih => simp only [ev, ih]; omega
theorem ev_mul (P : Tms) (c : Int) (φ : Int → Int) : ev P (fun x => c * φ x) = c * ev P φ := by
  induction P with
  | nil => simp [ev]
  | cons p P ih => simp only [ev, ih, Int.mul_add, Int.mul_left_comm]
theorem ev_swap (P Q : Tms) (ψ : Int → Int → Int) : ev P (fun x => ev Q (ψ x)) = ev Q (fun y => ev P (fun x => ψ x y)) := by
  induction P with
  | nil => simp only [ev]; rw [ev_zero]
  | cons p P ih => simp only [ev]; rw [ih, ev_add, ev_mul]
theorem ev_cong (P : Tms) {φ ψ : Int → Int} (h : ∀ x, md (φ x) = md (ψ x)) : md (ev P φ) = md (ev P ψ) := by
  induction P with
  | nil => rfl
  | cons p P ih => exact md_add (md_mul rfl (h _)) ih
theorem ev_map (P : Tms) (f : Int × Int → Int × Int) (c : Int) (g : Int → Int) (hf : ∀ p, (f p).2 = p.2 * c) (hg : ∀ p : Int × Int, wr (f p).1 = g (wr p.1)) (φ : Int → Int) : ev (P.map f) φ = c * ev P (fun x => φ (g x)) := by
  induction P with
  | nil => simp [ev]
  | cons p P ih => simp only [List.map_cons, ev, ih, hf, hg, Int.mul_add]; rw [Int.mul_comm p.2 c, Int.mul_assoc]
def eqv (P Q : Tms) : Prop := ∀ φ, md (ev P φ) = md (ev Q φ)
theorem eqv.refl (P : Tms) : eqv P P := fun _ => rfl
theorem eqv.symm {P Q : Tms} (h : eqv P Q) : eqv Q P := fun φ => (h φ).symm
theorem eqv.trans {P Q R : Tms} (h : eqv P Q) (k : eqv Q R) : eqv P R := fun φ => (h φ).trans (k φ)
def negT (P : Tms) : Tms := P.map fun p => (p.1, -p.2)
theorem ev_negT (P : Tms) (φ : Int → Int) : ev (negT P) φ = - ev P φ := by
  have := ev_map P (fun p => (p.1, -p.2)) (-1) id (fun p => by simp only; omega) (fun p => rfl) φ
  unfold negT
  rw [this]
  show -1 * ev P φ = _
  omega
def prodT (P Q : Tms) : Tms := P.flatMap fun p => Q.map fun q => (p.1 + q.1, p.2 * q.2)
theorem ev_prodT (P Q : Tms) (φ : Int → Int) : ev (prodT P Q) φ = ev P (fun x => ev Q (fun y => φ (wr (x + y)))) := by
  induction P with
  | nil => rfl
  | cons p P ih =>
    have e : ∀ Q : Tms, ev (Q.map fun q => (p.1 + q.1, p.2 * q.2)) φ = p.2 * ev Q (fun y => φ (wr (wr p.1 + y))) := fun Q => by
      have := ev_map Q (fun q => (p.1 + q.1, p.2 * q.2)) p.2 (fun y => wr (wr p.1 + y)) (fun q => Int.mul_comm _ _) (fun q => by simp only; rw [wr_add2, wr_wr]) φ
      exact this
    show ev ((Q.map fun q => (p.1 + q.1, p.2 * q.2)) ++ prodT P Q) φ = _
    rw [U21, ih, e]
    rfl
theorem eqv_append {P P' Q Q' : Tms} (h : eqv P P') (k : eqv Q Q') : eqv (P ++ Q) (P' ++ Q') := fun φ => by
  rw [U21, U21]; exact md_add (h φ) (k φ)
theorem eqv_prod {P P' Q Q' : Tms} (h : eqv P P') (k : eqv Q Q') : eqv (prodT P Q) (prodT P' Q') := fun φ => by
  rw [ev_prodT, ev_prodT]
  exact (h _).trans (ev_cong _ fun x => k _)
theorem eqv_neg {P P' : Tms} (h : eqv P P') : eqv (negT P) (negT P') := fun φ => by
  rw [ev_negT, ev_negT]; exact md_neg (h φ)
def polS : Setoid Tms := ⟨eqv, eqv.refl, eqv.symm, eqv.trans⟩
def Pol := Quotient polS
def mk (P : Tms) : Pol := Quotient.mk polS P
theorem mk_eq {P Q : Tms} (h : eqv P Q) : mk P = mk Q := Quotient.sound (s := polS) h
theorem Pol.ind {p : Pol → Prop} (h : ∀ P, p (mk P)) (x : Pol) : p x := Quotient.ind (s := polS) h x
def Pol.add (x y : Pol) : Pol := Quotient.liftOn₂ (s₁ := polS) (s₂ := polS) x y (fun P Q => mk (P ++ Q)) fun _ _ _ _ h k => mk_eq (eqv_append h k)
def Pol.mul (x y : Pol) : Pol := Quotient.liftOn₂ (s₁ := polS) (s₂ := polS) x y (fun P Q => mk (prodT P Q)) fun _ _ _ _ h k => mk_eq (eqv_prod h k)
def Pol.neg (x : Pol) : Pol := Quotient.liftOn (s := polS) x (fun P => mk (negT P)) fun _ _ h => mk_eq (eqv_neg h)
instance : Add Pol := ⟨Pol.add⟩
instance : Mul Pol := ⟨Pol.mul⟩
instance : Neg Pol := ⟨Pol.neg⟩
def Pol.o : Pol := mk []
def Pol.i : Pol := mk [(0, 1)]
theorem Pol.add_comm (x y : Pol) : x + y = y + x := by
  induction x using Pol.ind with | _ P =>
  induction y using Pol.ind with | _ Q =>
  exact mk_eq fun φ => by rw [U21, U21, Int.add_comm]
theorem Pol.add_assoc (x y z : Pol) : x + y + z = x + (y + z) := by
  induction x using Pol.ind with | _ P =>
  induction y using Pol.ind with | _ Q =>
  induction z using Pol.ind with | _ R =>
  exact mk_eq fun φ => by simp only [U21, Int.add_assoc]
theorem Pol.add_zero (x : Pol) : x + Pol.o = x := by
  induction x using Pol.ind with | _ P =>
  exact mk_eq fun φ => by rw [List.append_nil]
theorem Pol.mul_comm (x y : Pol) : x * y = y * x := by
  induction x using Pol.ind with | _ P =>
  induction y using Pol.ind with | _ Q =>
  exact mk_eq fun φ => by rw [ev_prodT, ev_prodT, ev_swap]; simp only [Int.add_comm]
theorem Pol.mul_assoc (x y z : Pol) : x * y * z = x * (y * z) := by
  induction x using Pol.ind with | _ P =>
  induction y using Pol.ind with | _ Q =>
  induction z using Pol.ind with | _ R =>
  exact mk_eq fun φ => by simp only [ev_prodT, wr_wr, wr_add2, Int.add_assoc]
theorem Pol.mul_add (x y z : Pol) : x * (y + z) = x * y + x * z := by
  induction x using Pol.ind with | _ P =>
  induction y using Pol.ind with | _ Q =>
  induction z using Pol.ind with | _ R =>
  exact mk_eq fun φ => by simp only [ev_prodT, U21, ev_add]
theorem Pol.add_mul (x y z : Pol) : (x + y) * z = x * z + y * z := by rw [Pol.mul_comm, Pol.mul_add, Pol.mul_comm z x, Pol.mul_comm z y]
theorem Pol.mul_one (x : Pol) : x * Pol.i = x := by
  induction x using Pol.ind with | _ P =>
  refine mk_eq fun φ => ?_
  rw [ev_prodT]
  have e : ∀ Q : Tms, ev Q (fun x => ev [(0, 1)] (fun y => φ (wr (x + y)))) = ev Q φ := by
    intro Q
    induction Q with
    | nil => rfl
    | cons q Q ih =>
      have h0 : wr 0 = 0 := wr_id (by omega)
      show q.2 * (1 * φ (wr (wr q.1 + wr 0)) + 0) + _ = q.2 * φ (wr q.1) + _
      rw [h0, show wr (wr q.1 + 0) = wr q.1 from by rw [Int.add_zero, wr_idem], ih, Int.one_mul, Int.add_zero]
  rw [e]
theorem Pol.one_mul (x : Pol) : Pol.i * x = x := by rw [Pol.mul_comm, Pol.mul_one]
instance : Std.Associative (α := Pol) (· + ·) := ⟨Pol.add_assoc⟩
instance : Std.Commutative (α := Pol) (· + ·) := ⟨Pol.add_comm⟩
instance : Std.Associative (α := Pol) (· * ·) := ⟨Pol.mul_assoc⟩
instance : Std.Commutative (α := Pol) (· * ·) := ⟨Pol.mul_comm⟩
structure Tm where
  e : Int
  c : Int
instance : Inhabited Tm := ⟨⟨0, 0⟩⟩
def Can (l : List Tm) : Prop := l.Pairwise (fun s t => s.e < t.e) ∧ ∀ t ∈ l, t.c ≠ 0 ∧ wr t.c = t.c ∧ wr t.e = t.e
theorem Can.nil_ : Can [] := ⟨List.Pairwise.nil, by simp⟩
def put : List Tm → Int → Int → List Tm
  | [], e, c => if c = 0 then [] else [⟨e, c⟩]
  | t :: l, e, c => if c = 0 then t :: l else if t.e < e then t :: put l e c else if t.e = e then (if wr (t.c + c) = 0 then l else ⟨e, wr (t.c + c)⟩ :: l) else ⟨e, c⟩ :: t :: l
end Go.Proofs.Ytkcighnochjlgaa
namespace Go.Proofs.Ytkcighnochjlgaa
section
variable (m : Nat → Nat → Pol) (N : Nat)
variable {m N}
end
instance : Inhabited Pol := ⟨Pol.o⟩
end Go.Proofs.Ytkcighnochjlgaa
namespace Go.Proofs.Ytkcighnochjlgaa
open Go.ChangeShapes Go.WideShapes Go.ChangeAt Go.RowKit Go.Sort
def srt (xs : List Int) : List Int := xs.mergeSort fun x y => decide (x ≤ y)
theorem srt_perm (xs : List Int) : (srt xs).Perm xs := List.mergeSort_perm _ _
theorem srt_len (xs : List Int) : (srt xs).length = xs.length := (srt_perm xs).length_eq
theorem srt_mem {xs : List Int} {x : Int} : x ∈ srt xs ↔ x ∈ xs := (srt_perm xs).mem_iff
theorem flat_int (xs : List Int) : xs.flatMap U2.f = xs.map (Value.int .i64) := by
  induction xs with
  | nil => rfl
  | cons x xs ih => simp only [List.flatMap_cons, ih, List.map_cons]; rfl
theorem SH.sorted {w : World} {M : Hp} {X : Fr} {g cap n : Nat} {xs ys : List Int} {os : Array Obj} (S : SH w M X [Rs.row U2 (.slice (some ⟨g, 0, none⟩) xs.length cap) xs]) (hl : ys.length = xs.length) :
    SH (Go.Sort.grow (putRow (Value.int .i64) (Go.Sort.ahead w n) g 0 ys.toArray) os) M X [Rs.row U2 (.slice (some ⟨g, 0, none⟩) xs.length cap) ys] := by
  have hok : U1f U2 (.slice (some ⟨g, 0, none⟩) xs.length cap) xs (hp w) := S.get (i := 0) rfl
  rcases hok with ⟨h1, _⟩ | ⟨g', cap', cur, h1, h2, h3, h4, h5, h6⟩
  · cases h1
  cases h1
  have gb := grownBy_sortedI (w := w) (g := g) (n := n) (os := os) ys.toArray
  have h5' : cur.size = cap := h5.trans (Nat.mul_one _)
  refine S.step (i := 0) (H' := [Rs.row U2 (.slice (some ⟨g, 0, none⟩) xs.length cap) ys]) rfl rfl ⟨gb.os, gb.tape, gb.output, gb.size⟩ (fun b hb hn => ?_) ?_ (fun b hb => ⟨.inl hb, ?_⟩)
  · exact gb.block b hb (fun e => hn (by injection e with e; subst e; simp [Rs.row, Value.ownBlock]))
  · refine .inr ⟨g, cap, _, by rw [hl], heap_sortedI _ h2, by rw [hl]; exact h3, h4, by simp [putCells, h5'] ; exact (Nat.mul_one _).symm, ?_⟩
    rw [flat_int, show ys.length * U2.k = ys.length from Nat.mul_one _]
    exact take_putCellsI cur ys (by omega)
  · have hg : g < w.heap.size := U27 h2
    have e : b = g := by simpa [Rs.row, Value.ownBlock] using hb
    subst e
    exact Nat.lt_of_lt_of_le hg gb.size
theorem SH.holdsI {w : World} {M : Hp} {X : Fr} {g cap : Nat} {xs : List Int} (S : SH w M X [Rs.row U2 (.slice (some ⟨g, 0, none⟩) xs.length cap) xs]) : Holds (Value.int .i64) w g 0 xs.toArray ∧ g < w.heap.size := by
  have hok : U1f U2 (.slice (some ⟨g, 0, none⟩) xs.length cap) xs (hp w) := S.get (i := 0) rfl
  rcases hok with ⟨h1, _⟩ | ⟨g', cap', cur, h1, h2, h3, h4, h5, h6⟩
  · cases h1
  cases h1
  refine ⟨holds_of_blockI h2 ?_, U27 h2⟩
  rw [flat_int, show xs.length * U2.k = xs.length from Nat.mul_one _] at h6
  exact h6
theorem c1_sort {P : Program} {ρ : Go.Shelf.Ren} (L : Lays.n189 P ρ) {w : World} {M : Hp} {X : Fr} {v : Value} {xs : List Int} (hsz : xs.length < 4611686018427387904) (S : SH w M X [Rs.row U2 v xs]) :
    C1 P (ρ.f 189) [v] w M X fun u M' r' => u = .tuple #[] ∧ M' = M ∧ r' = Rs.row U2 v (srt xs) := by
  have hok : U1f U2 v xs (hp w) := S.get (i := 0) rfl
  rcases hok with ⟨h1, h2⟩ | ⟨g, cap, cur, h1, _⟩
  · subst h1; subst h2
    refine (Any.slices_Sort_int_none L none 0 w).mono ?_
    rintro e w' ⟨rfl, rfl⟩
    exact ⟨_, rfl, M, _, Hp.le_refl _, S, rfl, rfl, by simp [srt]⟩
  · subst h1
    obtain ⟨hH, hb⟩ := S.holdsI
    refine (Any.slices_Sort_int L g 0 cap xs w hH hb hsz).mono ?_
    rintro e w' ⟨rfl, n, os, rfl⟩
    exact ⟨_, rfl, M, _, Hp.le_refl _, S.sorted (srt_len xs), rfl, rfl, rfl⟩
end Go.Proofs.Ytkcighnochjlgaa
namespace Go.Proofs.Ytkcighnochjlgaa
open Go.ChangeShapes Go.WideShapes Go.ChangeAt Go.RowKit
open Go.ChangeMaps (setBlock)
section
variable {κ ε : Type}
variable {kc : κ → Value} {vc : ε → Value} {N : Hp} {arr : Array MapEntry} {clock g : Nat} {es lf : List (κ × ε)} {seen : Array Nat}
section
variable {P : Program} {o : Oper} {L : List (Nat × Value)} {w : World} {x : Operand} {T K E : TypeId} {n d r i : Nat} {Kt : List (Nat × Value) → World → Prop} {M : Hp} {X : Fr} {H : List Rs}
end
end
section
variable {P : Program} {o : Oper} {L : List (Nat × Value)} {w : World} {x y : Operand} {t t' : TypeId} {a b : Int}
theorem run_mulW (ho : o.op = .binOp .mul t x y t') (hx : oev L x = some (.int .i64 a)) (hy : oev L y = some (.int .i64 b)) : Run P o L w (.int .i64 (wr (a * b))) w :=
  U1c ho hx hy fun w => by simp [binOp, Op.intArith, wr]
end
end Go.Proofs.Ytkcighnochjlgaa
namespace Go.Proofs.Ytkcighnochjlgaa
open Go.ChangeShapes Go.WideShapes Go.ChangeAt Go.RowKit
def Ents (es : List (Int × Int)) (B : Nat) : Prop := (es.map Prod.fst).Nodup ∧ ∀ q ∈ es, (-(B : Int) ≤ q.1 ∧ q.1 ≤ B) ∧ wr q.2 = q.2
theorem Ents.nil_ (B : Nat) : Ents [] B := ⟨by simp, by simp⟩
def Wk (N : Hp) (g : Nat) (B : Nat) (p : Pol) : Prop := ∃ es, MpOk (Value.int .i64) (Value.int .i64) g es N ∧ Ents es B ∧ mk es = p
def Wks (bf : Nat → Nat) (N : Hp) (gs : List (Option Nat)) (ps : List (Option Pol)) : Prop := gs.length = ps.length ∧ ∀ i, i < gs.length → match ga ps i with
  | some p => ∃ g, ga gs i = some g ∧ Wk N g (bf i) p
  | none => ga gs i = none
section
variable {bf : Nat → Nat} {N N' : Hp} {gs : List (Option Nat)} {ps : List (Option Pol)}
theorem Wks.nil_ (bf : Nat → Nat) (N : Hp) : Wks bf N [] [] := ⟨rfl, fun i hi => by simp at hi⟩
end
def WksA (bf : Nat → Nat) (N : Hp) (gss : List (List (Option Nat))) (pss : List (List (Option Pol))) : Prop := gss.length = pss.length ∧ ∀ i, i < gss.length → Wks bf N (ga gss i) (ga pss i)
section
variable {bf : Nat → Nat} {N N' : Hp} {gss : List (List (Option Nat))} {pss : List (List (Option Pol))}
theorem WksA.nil_ (bf : Nat → Nat) (N : Hp) : WksA bf N [] [] := ⟨rfl, fun i hi => by simp at hi⟩
end
end Go.Proofs.Ytkcighnochjlgaa
