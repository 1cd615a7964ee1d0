/- A diagram at work: 'Build'. -/
import Derived.Test.YtlbpgnimpcflaaaShp1
namespace Go.Proofs.Ytlbpgnimpcflaaa
open Go.ChangeShapes Go.WideShapes Go.ChangeAt Go.RowKit

theorem slPl : SlT Try.prog 79 84 2 16 (.agg #[.int .i64 0, .int .i64 0]) := ⟨Try.underlying79, by kernel_rfl, rfl, by omega, by omega⟩

/-- What the first statements of 'Build' leave: the diagram at work, with empty tables. -/
def Sh (d : Dg) (w0 w : World) (p : Value) (ti tu : List (Nat × Nat)) : Prop :=
  ∃ g A c gi go, p = .pointer (some ⟨g, 0, none⟩) ∧
    Blk w g 81 #[.slice A d.crs.length c, .int .i64 d.loops, .slice (some ⟨gi, 0, none⟩) (2 * d.crs.length + 1) (2 * d.crs.length + 1), .slice (some ⟨go, 0, none⟩) (2 * d.crs.length + 1) (2 * d.crs.length + 1)] ∧
    gi ≠ go ∧ w0.heap.size < g ∧
    Ow codCr 73 w (w0.heap.size + 1) (.slice A d.crs.length c) d.crs ∧
    Ow codPl 84 w (w0.heap.size + 1) (.slice (some ⟨gi, 0, none⟩) (2 * d.crs.length + 1) (2 * d.crs.length + 1)) ti ∧
    Ow codPl 84 w (w0.heap.size + 1) (.slice (some ⟨go, 0, none⟩) (2 * d.crs.length + 1) (2 * d.crs.length + 1)) tu

theorem Sh.kp {d : Dg} {w0 w w' : World} {p : Value} {ti tu : List (Nat × Nat)} (h : Sh d w0 w p ti tu) (hk : Kp w w') : Sh d w0 w' p ti tu := by
  obtain ⟨g, A, c, gi, go, r1, r2, r3, r4, r5, r6, r7⟩ := h
  exact ⟨g, A, c, gi, go, r1, r2.kp hk, r3, r4, r5.kp hk, r6.kp hk, r7.kp hk⟩

/-- The state of 'Build' behind the first J places. -/
def Bs (d : Dg) (w0 w : World) (p ci co : Value) (J : Nat) : Prop :=
  Sh d w0 w p (tabL d false J) (tabL d true J) ∧ ∃ ga gb, ci = .slice (some ⟨ga, 0, none⟩) (2 * d.crs.length + 1) (2 * d.crs.length + 1) ∧ co = .slice (some ⟨gb, 0, none⟩) (2 * d.crs.length + 1) (2 * d.crs.length + 1) ∧ ga ≠ gb ∧
    OwnI w (w0.heap.size + 1) (.slice (some ⟨ga, 0, none⟩) (2 * d.crs.length + 1) (2 * d.crs.length + 1)) (cntL d false J) ∧ OwnI w (w0.heap.size + 1) (.slice (some ⟨gb, 0, none⟩) (2 * d.crs.length + 1) (2 * d.crs.length + 1)) (cntL d true J)

/-- The same, its blocks told. -/
structure Bq (d : Dg) (b0 g : Nat) (A : Option Addr) (c gi go ga gb : Nat) (w : World) (J : Nat) : Prop where
  sh : Blk w g 81 #[.slice A d.crs.length c, .int .i64 d.loops, .slice (some ⟨gi, 0, none⟩) (2 * d.crs.length + 1) (2 * d.crs.length + 1), .slice (some ⟨go, 0, none⟩) (2 * d.crs.length + 1) (2 * d.crs.length + 1)]
  cr : Ow codCr 73 w b0 (.slice A d.crs.length c) d.crs
  ti : Ow codPl 84 w b0 (.slice (some ⟨gi, 0, none⟩) (2 * d.crs.length + 1) (2 * d.crs.length + 1)) (tabL d false J)
  tu : Ow codPl 84 w b0 (.slice (some ⟨go, 0, none⟩) (2 * d.crs.length + 1) (2 * d.crs.length + 1)) (tabL d true J)
  ci : OwnI w b0 (.slice (some ⟨ga, 0, none⟩) (2 * d.crs.length + 1) (2 * d.crs.length + 1)) (cntL d false J)
  co : OwnI w b0 (.slice (some ⟨gb, 0, none⟩) (2 * d.crs.length + 1) (2 * d.crs.length + 1)) (cntL d true J)
  n1 : gi ≠ go
  n2 : ga ≠ gb
  lt : b0 ≤ g

section
variable {d : Dg} {b0 g c gi go ga gb J : Nat} {A : Option Addr} {w w' : World}
theorem Bq.kp (h : Bq d b0 g A c gi go ga gb w J) (hk : Kp w w') : Bq d b0 g A c gi go ga gb w' J :=
  ⟨h.sh.kp hk, h.cr.kp hk, h.ti.kp hk, h.tu.kp hk, h.ci.kp hk, h.co.kp hk, h.n1, h.n2, h.lt⟩
theorem ownI_ow {w : World} {b : Nat} {v : Value} {xs : List Int} (h : OwnI w b v xs) : Ow codI 3 w b v xs := by
  unfold Ow
  rw [flat_iv]
  exact h
theorem OwnI.kept {w w' : World} {b : Nat} {v : Value} {xs : List Int} {row : Option Nat} (h : OwnI w b v xs) (hg : Gr w w' row) (hne : v.ownBlock = none ∨ v.ownBlock ≠ row) : OwnI w' b v xs := World.ownsRow.kept h hg hne
theorem blk_ne {w : World} {α : Type} {C : Cod α} {E t : TypeId} {b g : Nat} {v : Value} {xs : List α} {cs : Array Value} (h : Ow C E w b v xs) (h' : Blk w g t cs) (hne : E ≠ t) : some g ≠ v.ownBlock := by
  rcases h.ne_blk h' hne with h | h
  · rw [h]; simp
  · exact fun e => h e.symm
theorem Bq.hitIn (h : Bq d b0 g A c gi go ga gb w J) {a : Nat} (ha : a < 2 * d.crs.length + 1) (hj : arcJ d J = a) (he : entryB d (J / 4) (J % 4) = true) :
    Bq d b0 g A c gi go ga gb (((w.setCell ⟨gi, a * 2, none⟩ (.int .i64 ((J / 4 : Nat) : Int))).setCell ⟨gi, a * 2 + 1, none⟩ (.int .i64 ((J % 4 : Nat) : Int))).setCell ⟨ga, a, none⟩ (.int .i64 (Go.Proofs.Ytlbpgnimpcflaaa.gi (cntL d false J) a + 1))) (J + 1) := by
  have ht : tabL d false (J + 1) = (tabL d false J).set a (J / 4, J % 4) := tabL_hit hj (by simp [he])
  have hu : tabL d true (J + 1) = tabL d true J := tabL_miss he
  have hc : cntL d false (J + 1) = (cntL d false J).set a (Go.Proofs.Ytlbpgnimpcflaaa.gi (cntL d false J) a + 1) := cntL_hit hj (by simp [he])
  have ho : cntL d true (J + 1) = cntL d true J := cntL_miss he
  have s1 := h.ti.set2 rfl (i := a) (by rw [tabL_len]; exact ha) (.int .i64 ((J / 4 : Nat) : Int)) (.int .i64 ((J % 4 : Nat) : Int)) (J / 4, J % 4) rfl
  have g1 := gr_set2 (w := w) (g := gi) (i := a * 2) (j := a * 2 + 1) (.int .i64 ((J / 4 : Nat) : Int)) (.int .i64 ((J % 4 : Nat) : Int))
  have c1 := h.ci.kept g1 (ownI_ow h.ci |>.ne_ h.ti (by decide))
  have g2 := gr_set1 (w := (w.setCell ⟨gi, a * 2, none⟩ (.int .i64 ((J / 4 : Nat) : Int))).setCell ⟨gi, a * 2 + 1, none⟩ (.int .i64 ((J % 4 : Nat) : Int))) (g := ga) (i := a) (.int .i64 (Go.Proofs.Ytlbpgnimpcflaaa.gi (cntL d false J) a + 1))
  have k1 := h.sh.gr g1 (blk_ne h.ti h.sh (by decide))
  have q1 := h.cr.kept g1 (h.cr.ne_ h.ti (by decide))
  have u1 := h.tu.kept g1 (.inr (by simpa [Value.ownBlock] using h.n1.symm))
  have o1 := h.co.kept g1 (ownI_ow h.co |>.ne_ h.ti (by decide))
  refine ⟨k1.gr g2 (blk_ne (ownI_ow c1) k1 (by decide)), q1.kept g2 (q1.ne_ (ownI_ow c1) (by decide)), ?_, ?_, ?_, ?_, h.n1, h.n2, h.lt⟩
  · rw [ht]; exact s1.kept g2 (s1.ne_ (ownI_ow c1) (by decide))
  · rw [hu]; exact u1.kept g2 (u1.ne_ (ownI_ow c1) (by decide))
  · rw [hc]; exact c1.set_ a _
  · rw [ho]; exact o1.kept g2 (.inr (by simpa [Value.ownBlock] using h.n2.symm))
theorem Bq.hitOut (h : Bq d b0 g A c gi go ga gb w J) {a : Nat} (ha : a < 2 * d.crs.length + 1) (hj : arcJ d J = a) (he : entryB d (J / 4) (J % 4) = false) :
    Bq d b0 g A c gi go ga gb (((w.setCell ⟨go, a * 2, none⟩ (.int .i64 ((J / 4 : Nat) : Int))).setCell ⟨go, a * 2 + 1, none⟩ (.int .i64 ((J % 4 : Nat) : Int))).setCell ⟨gb, a, none⟩ (.int .i64 (Go.Proofs.Ytlbpgnimpcflaaa.gi (cntL d true J) a + 1))) (J + 1) := by
  have ht : tabL d true (J + 1) = (tabL d true J).set a (J / 4, J % 4) := tabL_hit hj (by simp [he])
  have hu : tabL d false (J + 1) = tabL d false J := tabL_miss he
  have hc : cntL d true (J + 1) = (cntL d true J).set a (Go.Proofs.Ytlbpgnimpcflaaa.gi (cntL d true J) a + 1) := cntL_hit hj (by simp [he])
  have ho : cntL d false (J + 1) = cntL d false J := cntL_miss he
  have s1 := h.tu.set2 rfl (i := a) (by rw [tabL_len]; exact ha) (.int .i64 ((J / 4 : Nat) : Int)) (.int .i64 ((J % 4 : Nat) : Int)) (J / 4, J % 4) rfl
  have g1 := gr_set2 (w := w) (g := go) (i := a * 2) (j := a * 2 + 1) (.int .i64 ((J / 4 : Nat) : Int)) (.int .i64 ((J % 4 : Nat) : Int))
  have c1 := h.co.kept g1 (ownI_ow h.co |>.ne_ h.tu (by decide))
  have g2 := gr_set1 (w := (w.setCell ⟨go, a * 2, none⟩ (.int .i64 ((J / 4 : Nat) : Int))).setCell ⟨go, a * 2 + 1, none⟩ (.int .i64 ((J % 4 : Nat) : Int))) (g := gb) (i := a) (.int .i64 (Go.Proofs.Ytlbpgnimpcflaaa.gi (cntL d true J) a + 1))
  have k1 := h.sh.gr g1 (blk_ne h.tu h.sh (by decide))
  have q1 := h.cr.kept g1 (h.cr.ne_ h.tu (by decide))
  have u1 := h.ti.kept g1 (.inr (by simpa [Value.ownBlock] using h.n1))
  have o1 := h.ci.kept g1 (ownI_ow h.ci |>.ne_ h.tu (by decide))
  refine ⟨k1.gr g2 (blk_ne (ownI_ow c1) k1 (by decide)), q1.kept g2 (q1.ne_ (ownI_ow c1) (by decide)), ?_, ?_, ?_, ?_, h.n1, h.n2, h.lt⟩
  · rw [hu]; exact u1.kept g2 (u1.ne_ (ownI_ow c1) (by decide))
  · rw [ht]; exact s1.kept g2 (s1.ne_ (ownI_ow c1) (by decide))
  · rw [ho]; exact o1.kept g2 (.inr (by simpa [Value.ownBlock] using h.n2))
  · rw [hc]; exact c1.set_ a _

theorem Bq.inAt (h : Bq d b0 g A c gi go ga gb w J) {a : Nat} (ha : a < 2 * d.crs.length + 1) : ∃ x y X : Int, w.cell? ⟨gi, a * 2, none⟩ = some (.int .i64 x) ∧ w.cell? ⟨gi, a * 2 + 1, none⟩ = some (.int .i64 y) ∧ w.cell? ⟨ga, a, none⟩ = some (.int .i64 X) ∧
    w.frozen? ⟨gi, a * 2, none⟩ = false ∧ w.frozen? ⟨gi, a * 2 + 1, none⟩ = false ∧ w.frozen? ⟨ga, a, none⟩ = false ∧ gi ≠ ga ∧ ga ≠ gi ∧ Hid (Go.Proofs.Ytlbpgnimpcflaaa.gi (cntL d false J) a = X) ∧ 0 ≤ X ∧ X ≤ J := by
  have hl : a < (tabL d false J).length := by rw [tabL_len]; exact ha
  have hne : gi ≠ ga := by
    rcases h.ti.ne_ (ownI_ow h.ci) (by decide) with h | h
    · simp [Value.ownBlock] at h
    · simpa [Value.ownBlock] using h
  have hx := cntP_le d a false J
  exact ⟨_, _, _, h.ti.cell hl (j := 0) (by decide) rfl, h.ti.cell hl (j := 1) (by decide) rfl, h.ci.cell (by rw [cntL_len]; exact ha), h.ti.free _, h.ti.free _, h.ci.free _, hne, hne.symm, rfl,
    by rw [cntL_get ha]; omega, by rw [cntL_get ha]; omega⟩
theorem Bq.outAt (h : Bq d b0 g A c gi go ga gb w J) {a : Nat} (ha : a < 2 * d.crs.length + 1) : ∃ x y X : Int, w.cell? ⟨go, a * 2, none⟩ = some (.int .i64 x) ∧ w.cell? ⟨go, a * 2 + 1, none⟩ = some (.int .i64 y) ∧ w.cell? ⟨gb, a, none⟩ = some (.int .i64 X) ∧
    w.frozen? ⟨go, a * 2, none⟩ = false ∧ w.frozen? ⟨go, a * 2 + 1, none⟩ = false ∧ w.frozen? ⟨gb, a, none⟩ = false ∧ go ≠ gb ∧ gb ≠ go ∧ Hid (Go.Proofs.Ytlbpgnimpcflaaa.gi (cntL d true J) a = X) ∧ 0 ≤ X ∧ X ≤ J := by
  have hl : a < (tabL d true J).length := by rw [tabL_len]; exact ha
  have hne : go ≠ gb := by
    rcases h.tu.ne_ (ownI_ow h.co) (by decide) with h | h
    · simp [Value.ownBlock] at h
    · simpa [Value.ownBlock] using h
  have hx := cntP_le d a true J
  exact ⟨_, _, _, h.tu.cell hl (j := 0) (by decide) rfl, h.tu.cell hl (j := 1) (by decide) rfl, h.co.cell (by rw [cntL_len]; exact ha), h.tu.free _, h.tu.free _, h.co.free _, hne, hne.symm, rfl,
    by rw [cntL_get ha]; omega, by rw [cntL_get ha]; omega⟩

end

/-- v is a pointer to the diagram d at work, in blocks from b0 on. -/
def IsSh (w : World) (b0 : Nat) (v : Value) (d : Dg) : Prop :=
  ∃ g A c gi go, v = .pointer (some ⟨g, 0, none⟩) ∧ b0 ≤ g ∧ gi ≠ go ∧
    Blk w g 81 #[.slice A d.crs.length c, .int .i64 d.loops, .slice (some ⟨gi, 0, none⟩) (2 * d.crs.length + 1) (2 * d.crs.length + 1), .slice (some ⟨go, 0, none⟩) (2 * d.crs.length + 1) (2 * d.crs.length + 1)] ∧
    Ow codCr 73 w b0 (.slice A d.crs.length c) d.crs ∧
    Ow codPl 84 w b0 (.slice (some ⟨gi, 0, none⟩) (2 * d.crs.length + 1) (2 * d.crs.length + 1)) (tabL d false (4 * d.crs.length)) ∧
    Ow codPl 84 w b0 (.slice (some ⟨go, 0, none⟩) (2 * d.crs.length + 1) (2 * d.crs.length + 1)) (tabL d true (4 * d.crs.length))
theorem Bq.isSh {d : Dg} {b0 g c gi go ga gb : Nat} {A : Option Addr} {w : World} (h : Bq d b0 g A c gi go ga gb w (4 * d.crs.length)) : IsSh w b0 (.pointer (some ⟨g, 0, none⟩)) d :=
  ⟨g, A, c, gi, go, rfl, h.lt, h.n1, h.sh, h.cr, h.ti, h.tu⟩
def NoShPost (w : World) (e : Ending) (w' : World) : Prop := e = .returned (.tuple #[.pointer none, .bool false]) ∧ Kp w w'
def ShPost (d : Dg) (w : World) (e : Ending) (w' : World) : Prop := ∃ v, e = .returned (.tuple #[v, .bool true]) ∧ Kp w w' ∧ IsSh w' w.heap.size v d
def BuildPost (b : Bool) (d : Dg) (w : World) (e : Ending) (w' : World) : Prop := (b = false ∧ NoShPost w e w') ∨ (b = true ∧ ShPost d w e w')

set_option maxRecDepth 100000 in
set_option maxHeartbeats 4000000 in
theorem build_any (v : Value) (d : Dg) (w : World) (hd : IsDg w w.heap.size v d) (hn : d.crs.length ≤ 16) :
    Calls Try.prog 81 #[v] w (BuildPost (arcsB d) d w) := by
  obtain ⟨A, cap, rfl, hcap, hr⟩ := hd
  have hm := fun W => make_of slPl (2 * d.crs.length + 1) (2 * (d.crs.length : Int) + 1) (by omega) (by omega) W
  have hm2 := fun W => make_of slInt (2 * d.crs.length + 1) (2 * (d.crs.length : Int) + 1) (by omega) (by omega) W
  generalize hZ : madeCells (Value.agg #[.int .i64 0, .int .i64 0]).cells ((2 * d.crs.length + 1) * 2) = Z at *
  generalize hY : madeCells (Value.int .i64 0).cells ((2 * d.crs.length + 1) * 1) = Y at *
  have HZ := Lib.hid hZ
  have HY := Lib.hid hY
  clear hZ hY
  go_enter Try.func81, Try.ntmps81
  have W0 : IntKind.i64.wrap (2 * (d.crs.length : Int)) = 2 * (d.crs.length : Int) := IntWalk.i64_in _ (by omega)
  have W1 : IntKind.i64.wrap (2 * (d.crs.length : Int) + 1) = 2 * (d.crs.length : Int) + 1 := IntWalk.i64_in _ (by omega)
  have E0 : Hid ((w.alloc (.cells #[.slice A d.crs.length cap, .int .i64 d.loops] 27)).cell? ⟨w.heap.size, 0, none⟩ = some (.slice A d.crs.length cap)) := (Blk.new _ _ _).cell 0 rfl
  have E1 : Hid ((w.alloc (.cells #[.slice A d.crs.length cap, .int .i64 d.loops] 27)).cell? ⟨w.heap.size, 1, none⟩ = some (.int .i64 d.loops)) := (Blk.new _ _ _).cell 1 rfl
  go_upto_region 2 with (fail)
  go_cut [5] (fun p wx => Kp (w.alloc (.cells #[.slice A d.crs.length cap, .int .i64 d.loops] 27)) wx ∧ Sh d w wx p (tabL d false 0) (tabL d true 0))
  case first =>
    go_region_held3 (fun W => W.cell? ⟨w.heap.size, 0, none⟩ = some (.slice A d.crs.length cap) ∧ W.cell? ⟨w.heap.size, 1, none⟩ = some (.int .i64 d.loops)) (go_keep) (first
      | (go_at_call 94; refine (cloneCrs A cap d.crs _ (hr.kp (by repeat (with_reducible (first | exact Kp.refl _ | refine Kp.alloc ?_ _ | refine Kp.drew ?_))))).mono ?_; rintro e w1 ⟨A1, c1, rfl, ho1, hk1⟩; have hq : Kp (w.alloc (.cells #[.slice A d.crs.length cap, .int .i64 d.loops] 27)) w1 := Kp.trans (by repeat (with_reducible (first | exact Kp.refl _ | refine Kp.alloc ?_ _ | refine Kp.drew ?_))) hk1; have q0 := hq.c E0.out; have q1 := hq.c E1.out; obtain ⟨l0, l1, l2, l3, l4⟩ := lts hq.alt))
    all_goals
      have lk := hk1.size
      simp at lk
      go_wp2_with fail
      go_meet
      refine ⟨?_, _, A1, c1, _, _, rfl, Blk.new' _ _ _ (by simp), ?_, ?_, ?_, ?_, ?_⟩
      · repeat (with_reducible (first | exact Kp.refl _ | refine Kp.alloc ?_ _ | refine Kp.drew ?_ | refine Kp.trans ?_ hk1))
      · omega
      · omega
      · refine (Ow.base (ho1.kp ?_) (by simp)); repeat (with_reducible (first | exact Kp.refl _ | refine Kp.alloc ?_ _ | refine Kp.drew ?_))
      · rw [tabL_zero]
        refine Ow.made (C := codPl) (z := .agg #[.int .i64 0, .int .i64 0]) rfl ?_ (by first | omega | (simp; done) | (simp; omega)) (by unfold maxLen; omega)
        change Blk _ _ _ (madeCells (Value.agg #[.int .i64 0, .int .i64 0]).cells ((2 * d.crs.length + 1) * 2))
        rw [HZ.out]
        repeat (first | ((with_reducible refine Blk.new' _ _ _ ?_); (simp; done)) | with_reducible refine Blk.alloc ?_ _ | with_reducible refine Blk.drew ?_ | with_reducible refine Blk.kp ?_ hk1)
      · rw [tabL_zero]
        refine Ow.made (C := codPl) (z := .agg #[.int .i64 0, .int .i64 0]) rfl ?_ (by first | omega | (simp; done) | (simp; omega)) (by unfold maxLen; omega)
        change Blk _ _ _ (madeCells (Value.agg #[.int .i64 0, .int .i64 0]).cells ((2 * d.crs.length + 1) * 2))
        rw [HZ.out]
        repeat (first | ((with_reducible refine Blk.new' _ _ _ ?_); (simp; done)) | with_reducible refine Blk.alloc ?_ _ | with_reducible refine Blk.drew ?_ | with_reducible refine Blk.kp ?_ hk1)
  case rest =>
    obtain ⟨hkc, hS⟩ := hcut
    have hr' := Lib.hid hr
    clear hm hr E0 E1
    go_upto_region 3 with (fail)
    go_cut [6, 7] (fun ci co wx => Kp (w.alloc (.cells #[.slice A d.crs.length cap, .int .i64 d.loops] 27)) wx ∧ Bs d w wx u5 ci co 0)
    case first =>
      go_region
      all_goals
        have lk := hkc.size
        simp at lk
        go_wp2_with fail
        go_meet
        refine ⟨?_, ?_, _, _, rfl, rfl, ?_, ?_, ?_⟩
        · repeat (with_reducible (first | exact Kp.refl _ | refine Kp.alloc ?_ _ | refine Kp.drew ?_ | refine Kp.trans ?_ hkc))
        · refine hS.kp ?_
          repeat (with_reducible (first | exact Kp.refl _ | refine Kp.alloc ?_ _ | refine Kp.drew ?_))
        · omega
        · rw [cntL_zero]
          refine OwnI.of_ow (Ow.made (C := codI) (z := .int .i64 0) rfl ?_ (by first | omega | (simp; done) | (simp; omega)) (by unfold maxLen; omega))
          change Blk _ _ _ (madeCells (Value.int .i64 0).cells ((2 * d.crs.length + 1) * 1))
          rw [HY.out]
          repeat (first | ((with_reducible refine Blk.new' _ _ _ ?_); (simp; done)) | with_reducible refine Blk.alloc ?_ _ | with_reducible refine Blk.drew ?_)
        · rw [cntL_zero]
          refine OwnI.of_ow (Ow.made (C := codI) (z := .int .i64 0) rfl ?_ (by first | omega | (simp; done) | (simp; omega)) (by unfold maxLen; omega))
          change Blk _ _ _ (madeCells (Value.int .i64 0).cells ((2 * d.crs.length + 1) * 1))
          rw [HY.out]
          repeat (first | ((with_reducible refine Blk.new' _ _ _ ?_); (simp; done)) | with_reducible refine Blk.alloc ?_ _ | with_reducible refine Blk.drew ?_)
    case rest =>
      clear hkc hS hm2 W0 W1
      obtain ⟨hkc, ⟨g, A1, c1, gi, go, rfl, hb, n1, hl, o1, o2, o3⟩, ga, gb, rfl, rfl, n2, o4, o5⟩ := hcut
      have hQ : Bq d (w.heap.size + 1) g A1 c1 gi go ga gb wc 0 := ⟨hb, o1, o2, o3, o4, o5, n1, n2, by omega⟩
      clear hb n1 n2 o1 o2 o3 o4 o5
      have hkx : Kp w wc := hkc.al
      have hx := (Blk.new w 27 #[.slice A d.crs.length cap, .int .i64 d.loops]).kp hkc
      obtain ⟨e0, e1, e2, e3⟩ := hx.two
      clear HZ HY
      go_wp2_with fail
      go_loopw [43] (fun i wr => ∃ n : Nat, n ≤ d.crs.length ∧ i = .int .i64 n ∧ Kp w wr ∧ Bq d (w.heap.size + 1) g A1 c1 gi go ga gb wr (4 * n) ∧ Hid (∀ j, j < 4 * n → 1 ≤ arcJ d j ∧ arcJ d j ≤ 2 * (d.crs.length : Int))) (fun i _ => d.crs.length - (intOf i).toNat)
      case atStart => exact ⟨0, Nat.zero_le _, rfl, hkx, hQ, fun j hj => by omega⟩
      case round =>
        clear hQ hkx e0 e1 e2 e3 hx hkc
        obtain ⟨n, hn', rfl, hk, hQ, hrg⟩ := hrel
        by_cases hlt : n < d.crs.length
        · obtain ⟨b, off, rfl, hb1, k0, k1, k2, k3, k4⟩ := crAt (hr'.out.kp hk) hlt
          obtain ⟨wo, rfl⟩ : ∃ wo : World, wo = wr := ⟨_, rfl⟩
          obtain ⟨l0, l1, l2, l3, l4⟩ := lts hb1
          have hx := Blk.new wo 73 #[.int .i64 (Go.Proofs.Ytlbpgnimpcflaaa.ga d.crs n).a, .int .i64 (Go.Proofs.Ytlbpgnimpcflaaa.ga d.crs n).b, .int .i64 (Go.Proofs.Ytlbpgnimpcflaaa.ga d.crs n).c, .int .i64 (Go.Proofs.Ytlbpgnimpcflaaa.ga d.crs n).d, .bool (Go.Proofs.Ytlbpgnimpcflaaa.ga d.crs n).plus]
          have hx0 : ∀ k, k < 4 → arcJ d (4 * n + k) = crArc (Go.Proofs.Ytlbpgnimpcflaaa.ga d.crs n) k ∧ entryB d ((4 * n + k) / 4) ((4 * n + k) % 4) = crIn (Go.Proofs.Ytlbpgnimpcflaaa.ga d.crs n) k ∧ (4 * n + k) / 4 = n ∧ (4 * n + k) % 4 = k := fun k hk => by
            have h1 : (4 * n + k) / 4 = n := by omega
            have h2 : (4 * n + k) % 4 = k := by omega
            unfold arcJ arcAt entryB
            rw [h1, h2]
            exact ⟨rfl, rfl, rfl, rfl⟩
          have HX := Lib.hid hx0
          clear hx0
          generalize Go.Proofs.Ytlbpgnimpcflaaa.ga d.crs n = x at *
          go_wp2_with fail
          go_loopw [48] (fun i wr => ∃ m : Nat, m ≤ 4 ∧ i = .int .i64 m ∧ Kp w wr ∧ Bq d (w.heap.size + 1) g A1 c1 gi go ga gb wr (4 * n + m) ∧ Hid (∀ j, j < 4 * n + m → 1 ≤ arcJ d j ∧ arcJ d j ≤ 2 * (d.crs.length : Int)) ∧
            Blk wr wo.heap.size 73 #[.int .i64 x.a, .int .i64 x.b, .int .i64 x.c, .int .i64 x.d, .bool x.plus]) (fun i _ => 4 - (intOf i).toNat)
          case atStart => exact ⟨0, Nat.zero_le _, rfl, hk.alloc _, hQ.kp ((Kp.refl _).alloc _), hrg.out, hx⟩
          case round =>
            clear hQ hk hrg hx k0 k1 k2 k3 k4 l0 l1 l2 l3 l4 hb1
            obtain ⟨m, hm, rfl, hk, hQ, hrg, hx⟩ := hrel
            by_cases hm4 : m < 4
            · obtain ⟨k0, k1, k2, k3, k4⟩ := hx.cr
              obtain ⟨l0, l1, l2, l3, l4⟩ := lts hx.lt
              obtain ⟨hj, hen, hq1, hq2⟩ := HX.out m hm4
              by_cases hlo : 1 ≤ crArc x m
              · by_cases hhi : crArc x m ≤ 2 * (d.crs.length : Int)
                · obtain ⟨a, ha⟩ := Int.eq_ofNat_of_zero_le (show 0 ≤ crArc x m by omega)
                  rw [ha] at hlo hhi hj
                  have ha' := Lib.hid ha
                  clear ha
                  cases he : crIn x m
                  · rw [he] at hen
                    have he' := Lib.hid he
                    have hN := fun w' (h : Bq d (w.heap.size + 1) g A1 c1 gi go ga gb w' (4 * n + m)) => h.hitOut (a := a) (by omega) hj hen
                    rw [hq1, hq2] at hN
                    have HN := Lib.hid hN
                    have hj' := Lib.hid hj
                    clear hN hj hen hq1 hq2 he
                    go_wp2_with fail
                    refine (arc_any x m _ hm4).mono ?_; rintro e w1 ⟨rfl, hk1⟩
                    rw [ha'.out]
                    obtain ⟨cc, cf⟩ := hk1.cf (n := wr.heap.size) rfl
                    go_wp2_with fail
                    refine (comes_any x m _ hm4).mono ?_; rintro e w2 ⟨rfl, hk2⟩
                    rw [he'.out]
                    clear cc cf
                    have hQ2 := (hQ.kp hk1).kp hk2
                    have hx2 := (hx.kp hk1).kp hk2
                    have b1 : wo.heap.size ≠ go := fun e => blk_ne hQ2.tu hx2 (by decide) (by rw [e]; rfl)
                    have b2 : wo.heap.size ≠ gb := fun e => blk_ne (ownI_ow hQ2.co) hx2 (by decide) (by rw [e]; rfl)
                    have b3 := (hQ2.tu.lt go rfl).1
                    have b4 := (hQ2.co.lt gb rfl).1
                    obtain ⟨s0, s1, s2, s3⟩ := hQ2.sh.four
                    obtain ⟨x0, y0, X, t0, t1, t2, t3, t4, t5, t6, t7, hX, X0, X1⟩ := hQ2.outAt (a := a) (by omega)
                    go_wp2_with fail
                    go_roundw
                    case rel =>
                      have hq := HN.out w2 hQ2
                      rw [hX.out] at hq
                      exact ⟨m + 1, by omega, by go_num, ((((hk.trans hk1).trans hk2).setCell (p := ⟨go, a * 2, none⟩) (by simp; omega) _).setCell (p := ⟨go, a * 2 + 1, none⟩) (by simp; omega) _).setCell (p := ⟨gb, a, none⟩) (by simp; omega) _, hq,
                        fun j h => by
                          rcases Nat.lt_or_ge j (4 * n + m) with h1 | h1
                          · exact hrg.out j h1
                          · obtain rfl : j = 4 * n + m := by omega
                            rw [hj'.out]; omega,
                        ((hx2.far (p := ⟨go, a * 2, none⟩) b1 _).far (p := ⟨go, a * 2 + 1, none⟩) b1 _).far (p := ⟨gb, a, none⟩) b2 _⟩
                    case measure => simp [intOf] <;> omega
                  · rw [he] at hen
                    have he' := Lib.hid he
                    have hN := fun w' (h : Bq d (w.heap.size + 1) g A1 c1 gi go ga gb w' (4 * n + m)) => h.hitIn (a := a) (by omega) hj hen
                    rw [hq1, hq2] at hN
                    have HN := Lib.hid hN
                    have hj' := Lib.hid hj
                    clear hN hj hen hq1 hq2 he
                    go_wp2_with fail
                    refine (arc_any x m _ hm4).mono ?_; rintro e w1 ⟨rfl, hk1⟩
                    rw [ha'.out]
                    obtain ⟨cc, cf⟩ := hk1.cf (n := wr.heap.size) rfl
                    go_wp2_with fail
                    refine (comes_any x m _ hm4).mono ?_; rintro e w2 ⟨rfl, hk2⟩
                    rw [he'.out]
                    clear cc cf
                    have hQ2 := (hQ.kp hk1).kp hk2
                    have hx2 := (hx.kp hk1).kp hk2
                    have b1 : wo.heap.size ≠ gi := fun e => blk_ne hQ2.ti hx2 (by decide) (by rw [e]; rfl)
                    have b2 : wo.heap.size ≠ ga := fun e => blk_ne (ownI_ow hQ2.ci) hx2 (by decide) (by rw [e]; rfl)
                    have b3 := (hQ2.ti.lt gi rfl).1
                    have b4 := (hQ2.ci.lt ga rfl).1
                    obtain ⟨s0, s1, s2, s3⟩ := hQ2.sh.four
                    obtain ⟨x0, y0, X, t0, t1, t2, t3, t4, t5, t6, t7, hX, X0, X1⟩ := hQ2.inAt (a := a) (by omega)
                    go_wp2_with fail
                    go_roundw
                    case rel =>
                      have hq := HN.out w2 hQ2
                      rw [hX.out] at hq
                      exact ⟨m + 1, by omega, by go_num, ((((hk.trans hk1).trans hk2).setCell (p := ⟨gi, a * 2, none⟩) (by simp; omega) _).setCell (p := ⟨gi, a * 2 + 1, none⟩) (by simp; omega) _).setCell (p := ⟨ga, a, none⟩) (by simp; omega) _, hq,
                        fun j h => by
                          rcases Nat.lt_or_ge j (4 * n + m) with h1 | h1
                          · exact hrg.out j h1
                          · obtain rfl : j = 4 * n + m := by omega
                            rw [hj'.out]; omega,
                        ((hx2.far (p := ⟨gi, a * 2, none⟩) b1 _).far (p := ⟨gi, a * 2 + 1, none⟩) b1 _).far (p := ⟨ga, a, none⟩) b2 _⟩
                    case measure => simp [intOf] <;> omega
                · have hno := Lib.hid (arcs_not (d := d) (j := 4 * n + m) (by omega) (by rw [hj]; omega))
                  clear hj hen hq1 hq2
                  go_wp2_with fail
                  refine (arc_any x m _ hm4).mono ?_; rintro e w1 ⟨rfl, hk1⟩
                  go_wp2_with fail
                  go_ret2
                  exact .inl ⟨hno.out, rfl, hk.trans hk1⟩
              · have hno := Lib.hid (arcs_not (d := d) (j := 4 * n + m) (by omega) (by rw [hj]; omega))
                clear hj hen hq1 hq2
                go_wp2_with fail
                refine (arc_any x m _ hm4).mono ?_; rintro e w1 ⟨rfl, hk1⟩
                go_wp2_with fail
                go_ret2
                exact .inl ⟨hno.out, rfl, hk.trans hk1⟩
            · obtain rfl : m = 4 := by omega
              go_wp2_with fail
              go_roundw
              case rel => exact ⟨n + 1, by omega, by go_num, hk, hQ, hrg.out⟩
              case measure => simp [intOf] <;> omega
        · obtain rfl : n = d.crs.length := by omega
          go_wp2_with fail
          obtain ⟨wo, rfl⟩ : ∃ wo : World, wo = wr := ⟨_, rfl⟩
          go_loop [12] (fun i => ∃ a : Nat, 1 ≤ a ∧ a ≤ 2 * d.crs.length + 1 ∧ i = .int .i64 a ∧ Hid (∀ a' : Nat, 1 ≤ a' → a' < a → arcOk d a' = true)) (fun i => 2 * d.crs.length + 1 - (intOf i).toNat)
          case atStart => exact ⟨1, by omega, by omega, rfl, fun a h1 h2 => by omega⟩
          case round =>
            obtain ⟨a, ha0, ha1, rfl, hok⟩ := hrel
            by_cases hlt2 : a ≤ 2 * d.crs.length
            · have ca := hQ.ci.cell (i := a) (by rw [cntL_len]; omega)
              have cb := hQ.co.cell (i := a) (by rw [cntL_len]; omega)
              rw [cntL_get (by omega)] at ca cb
              have hao : arcOk d a = (cntP d a false (4 * d.crs.length) == 1 && cntP d a true (4 * d.crs.length) == 1) := rfl
              generalize cntP d a false (4 * d.crs.length) = X at *
              generalize cntP d a true (4 * d.crs.length) = Y at *
              by_cases hX : X = 1
              · subst hX
                by_cases hY : Y = 1
                · subst hY
                  have hao' : Hid (arcOk d a = true) := hao
                  clear hao
                  go_wp2_with fail
                  go_round
                  case rel => exact ⟨a + 1, by omega, by omega, by go_num, fun a' h1 h2 => by
                    rcases Nat.lt_or_ge a' a with h | h
                    · exact hok.out a' h1 h
                    · obtain rfl : a' = a := by omega
                      exact hao'.out⟩
                  case measure => simp [intOf] <;> omega
                · have hno := Lib.hid (arcsB_no ha0 hlt2 (by rw [hao]; simp [hY]))
                  have t1 : (((Y : Int) != 1) : Bool) = true := by simp only [bne_iff_ne, ne_eq]; omega
                  clear hao hY
                  go_wp2_with fail
                  go_ret2
                  exact .inl ⟨hno.out, rfl, hk⟩
              · have hno := Lib.hid (arcsB_no ha0 hlt2 (by rw [hao]; simp [hX]))
                have t1 : (((X : Int) != 1) : Bool) = true := by simp only [bne_iff_ne, ne_eq]; omega
                clear hao hX
                go_wp2_with fail
                go_ret2
                exact .inl ⟨hno.out, rfl, hk⟩
            · have hyes := Lib.hid (arcsB_yes (d := d) fun a' h1 h2 => hok.out a' h1 (by omega))
              go_wp2_with fail
              go_ret2
              obtain ⟨g', A', c', gi', go', r1, r2, r3⟩ := hQ.isSh
              exact .inr ⟨hyes.out, _, rfl, hk, g', A', c', gi', go', r1, by omega, r3.1, r3.2.1, r3.2.2.1.base (by omega), r3.2.2.2.1.base (by omega), r3.2.2.2.2.base (by omega)⟩

theorem new_size {n : Nat} {loops : Int} (h : ¬ (n ≤ 16 ∧ 0 ≤ loops ∧ loops ≤ 16 ∧ ¬ (n = 0 ∧ loops = 0))) : 16 < n ∨ (n ≤ 16 ∧ loops < 0) ∨ (n ≤ 16 ∧ 16 < loops) ∨ (n = 0 ∧ loops = 0) := by omega

set_option maxRecDepth 100000 in
set_option maxHeartbeats 2000000 in
theorem new_any (v : Value) (d : Dg) (w : World) (hd : IsDg w w.heap.size v d) : Calls Try.prog 53 #[v] w (BuildPost (mayB d) d w) := by
  obtain ⟨A, cap, rfl, hcap, hr⟩ := hd
  have hrm : d.crs.length * 40 ≤ 140737488355328 := hr.room
  by_cases h : d.crs.length ≤ 16 ∧ 0 ≤ d.loops ∧ d.loops ≤ 16 ∧ ¬ (d.crs.length = 0 ∧ d.loops = 0)
  · have hm : mayB d = arcsB d := by rw [mayB_arcs, decide_eq_true h, Bool.true_and]
    rw [hm]
    clear hm
    obtain ⟨h1, h2, h3, h4⟩ := h
    have hb := Lib.hid fun w' (hk : Kp w w') => build_any (.agg #[.slice A d.crs.length cap, .int .i64 d.loops]) d w' ⟨A, cap, rfl, hcap, hr.kp hk⟩ h1
    have t1 : ((((d.crs.length : Int) + d.loops) == 0) : Bool) = false := by rw [beq_eq_false_iff_ne]; omega
    clear h4 hr
    generalize arcsB d = b at *
    go_enter Try.func53, Try.ntmps53
    go_wp2_with fail
    refine (hb.out _ ((Kp.refl _).alloc _)).mono ?_
    rintro e w1 (⟨hb0, rfl, hk⟩ | ⟨hb1, v, rfl, hk, hs⟩)
    · have hb0' := Lib.hid hb0
      clear hb0
      go_wp2_with fail
      go_ret2
      exact .inl ⟨hb0'.out, rfl, hk.al⟩
    · have hb1' := Lib.hid hb1
      clear hb1
      go_wp2_with fail
      go_ret2
      obtain ⟨g', A', c', gi', go', r1, r2, r3⟩ := hs
      simp at r2
      exact .inr ⟨hb1'.out, v, rfl, hk.al, g', A', c', gi', go', r1, by omega, r3.1, r3.2.1, r3.2.2.1.base (by simp), r3.2.2.2.1.base (by simp), r3.2.2.2.2.base (by simp)⟩
  · rw [mayB_size h]
    have hc := new_size h
    clear h hr
    obtain ⟨cs, loops⟩ := d
    dsimp only at *
    generalize cs.length = n at *
    rcases hc with hc | ⟨hc, hc'⟩ | ⟨hc, hc'⟩ | ⟨rfl, rfl⟩
    all_goals
      go_enter Try.func53, Try.ntmps53
      go_wp2_with fail
      go_ret2
      exact .inl ⟨rfl, rfl, (Kp.refl _).alloc _⟩
end Go.Proofs.Ytlbpgnimpcflaaa
