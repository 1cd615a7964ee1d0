/- Part 11 of the proof of the law ColourCounts: the walks through its functions and the plain laws that they need. -/
import Derived.Test.YtefkjfcncpmneaaCcZ10
import Derived.Laws.CopyRow
import Derived.Laws.IdiomCopy
set_option linter.unusedSimpArgs false
set_option linter.unusedVariables false
namespace Go.Proofs.Ytefkjfcncpmneaa
open Go.ChangeShapes Go.WideShapes Go.ChangeAt Go.RowKit
theorem nodup_len {α : Type} {l1 l2 : List α} (h : l1.Nodup) (hs : ∀ x, x ∈ l1 → x ∈ l2) : l1.length ≤ l2.length := by
 induction l1 generalizing l2 with
 | nil => exact Nat.zero_le _
 | cons x l1 ih =>
  rw [List.nodup_cons] at h
  obtain ⟨s, t, rfl⟩ := List.append_of_mem (hs x (List.mem_cons_self ..))
  have := ih (l2 := s ++ t) h.2 (fun y hy => by
   have h1 := hs y (List.mem_cons_of_mem _ hy)
   rw [List.mem_append, List.mem_cons] at h1
   rw [List.mem_append]
   rcases h1 with h1 | h1 | h1
   ·exact .inl h1
   ·subst h1; exact absurd hy h.1
   ·exact .inr h1)
  rw [List.length_append] at this
  rw [List.length_append, List.length_cons, List.length_cons]
  omega
theorem nodup_on {α β : Type} {l : List α} (h : l.Nodup) (F : α → β) (hi : ∀ x, x ∈ l → ∀ y, y ∈ l → F x = F y → x = y) : (l.map F).Nodup := by
 induction l with
 | nil => exact List.nodup_nil
 | cons x l ih =>
  rw [List.nodup_cons] at h
  rw [List.map_cons, List.nodup_cons]
  refine ⟨fun hm => ?_, ih h.2 (fun a ha b hb => hi a (List.mem_cons_of_mem _ ha) b (List.mem_cons_of_mem _ hb))⟩
  obtain ⟨y, hy, e⟩ := List.mem_map.1 hm
  have := hi y (List.mem_cons_of_mem _ hy) x (List.mem_cons_self ..) e
  subst this
  exact h.1 hy
theorem nodup_fil {α : Type} {l : List α} (p : α → Bool) (h : l.Nodup) : (l.filter p).Nodup := List.Pairwise.filter p h
theorem countP_bij {α β : Type} {l1 : List α} {l2 : List β} {p1 : α → Bool} {p2 : β → Bool} (h1 : l1.Nodup) (h2 : l2.Nodup) (F : α → β) (hF : ∀ x, x ∈ l1 → p1 x = true → F x ∈ l2 ∧ p2 (F x) = true) (hi : ∀ x, x ∈ l1 → ∀ y, y ∈ l1 → F x = F y → x = y) (hs : ∀ y, y ∈ l2 → p2 y = true → ∃ x, x ∈ l1 ∧ p1 x = true ∧ F x = y) : l1.countP p1 = l2.countP p2 := by
 rw [List.countP_eq_length_filter, List.countP_eq_length_filter]
 have hm : ((l1.filter p1).map F).Nodup := nodup_on (nodup_fil p1 h1) F fun x hx y hy => hi x (List.mem_filter.1 hx).1 y (List.mem_filter.1 hy).1
 have a1 := nodup_len (l2 := l2.filter p2) hm fun y hy => by
  obtain ⟨x, hx, rfl⟩ := List.mem_map.1 hy
  obtain ⟨x1, x2⟩ := List.mem_filter.1 hx
  exact List.mem_filter.2 (hF x x1 x2)
 have a2 := nodup_len (l2 := (l1.filter p1).map F) (nodup_fil p2 h2) fun y hy => by
  obtain ⟨y1, y2⟩ := List.mem_filter.1 hy
  obtain ⟨x, x1, x2, x3⟩ := hs y y1 y2
  exact List.mem_map.2 ⟨x, List.mem_filter.2 ⟨x1, x2⟩, x3⟩
 rw [List.length_map] at a1 a2
 omega
theorem cn_upC {p : Nat → Bool} {a b : Nat} (h : a ≤ b) : cn p a ≤ cn p b := by
 induction b with
 | zero => obtain rfl : a = 0 := (by omega); exact Nat.le_refl _
 | succ b ih =>
  by_cases e : a = b + 1
  ·subst e; exact Nat.le_refl _
  ·have := ih (by omega)
   rw [cn]; omega
theorem cn_ex {p : Nat → Bool} {n j : Nat} (h : j < cn p n) : ∃ a, a < n ∧ p a = true ∧ cn p a = j := by
 induction n with
 | zero => exact absurd h (by show ¬ j < 0; omega)
 | succ n ih =>
  by_cases e : j < cn p n
  ·obtain ⟨a, h1, h2, h3⟩ := ih e
   exact ⟨a, by omega, h2, h3⟩
  ·rw [cn] at h
   by_cases e2 : p n = true
   ·rw [if_pos e2] at h
    exact ⟨n, by omega, e2, by omega⟩
   ·rw [if_neg e2] at h; omega
theorem clsPos {d : Dg} (h : arcsB d = true) {a : Nat} (h1 : 1 ≤ a) (h2 : a < 2 * d.crs.length + 1) : 1 ≤ (ga (clsL d) a).toNat := by
 obtain ⟨o1, o2, o3⟩ := (clsN_ok h d.crs.length (Nat.le_refl _)).2 a h2
 have hc := cls_con h (fun x => x = 0) (fun k hk => by
  have hb := arcAt_bd h (i := k) hk (k := 1) (by omega)
  have hd := arcAt_bd h (i := k) hk (k := 3) (by omega)
  obtain ⟨⟨b1, b2⟩, ⟨b3, b4⟩⟩ := cls_bd h hk
  have e1 : arcAt d k 1 = (ga d.crs k).b := rfl
  have e2 : arcAt d k 3 = (ga d.crs k).d := rfl
  constructor <;> intro h9 <;> exfalso <;> omega) d.crs.length (Nat.le_refl _) a (ga (clsL d) a).toNat h2 (by unfold clsL; omega) (by unfold clsL; rw [o3])
 rcases Nat.eq_zero_or_pos (ga (clsL d) a).toNat with h9 | h9
 ·have := hc.2 h9; omega
 ·exact h9
/-- Of an arc the least arc of its overpass. -/
theorem cls_root {d : Dg} (h : arcsB d = true) {a : Nat} (h1 : 1 ≤ a) (h2 : a ≤ 2 * d.crs.length) : 1 ≤ (ga (clsL d) a).toNat ∧ (ga (clsL d) a).toNat ≤ a ∧ rtB d (ga (clsL d) a).toNat = true ∧ ga (clsL d) a = (((ga (clsL d) a).toNat : Nat) : Int) := by
 obtain ⟨o1, o2, o3⟩ := (clsN_ok h d.crs.length (Nat.le_refl _)).2 a (by omega)
 have hp := clsPos h h1 (by omega)
 have e3 : ga (clsL d) (ga (clsL d) a).toNat = ga (clsL d) a := o3
 have o1' : 0 ≤ ga (clsL d) a := o1
 have o2' : ga (clsL d) a ≤ a := o2
 refine ⟨hp, by omega, ?_, by omega⟩
 unfold rtB
 rw [decide_eq_true_iff]
 exact ⟨hp, by rw [e3]; omega⟩
def mnyC (d : Dg) : Nat := cn (rtB d) (2 * d.crs.length + 1)
def ovN (d : Dg) (a : Nat) : Nat := cn (rtB d) (ga (clsL d) a).toNat
theorem ovN_lt {d : Dg} (h : arcsB d = true) {a : Nat} (h1 : 1 ≤ a) (h2 : a ≤ 2 * d.crs.length) : ovN d a < mnyC d := by
 obtain ⟨r1, r2, r3, _⟩ := cls_root h h1 h2
 have e4 : cn (rtB d) ((ga (clsL d) a).toNat + 1) = cn (rtB d) (ga (clsL d) a).toNat + 1 := by rw [cn, if_pos r3]
 have e5 := cn_upC (p := rtB d) (a := (ga (clsL d) a).toNat + 1) (b := 2 * d.crs.length + 1) (by omega)
 unfold ovN mnyC
 omega
theorem ovN_ex {d : Dg} {j : Nat} (hj : j < mnyC d) : ∃ a, 1 ≤ a ∧ a ≤ 2 * d.crs.length ∧ ovN d a = j := by
 obtain ⟨a, h1, h2, h3⟩ := cn_ex hj
 unfold rtB at h2
 rw [decide_eq_true_iff] at h2
 refine ⟨a, h2.1, by omega, ?_⟩
 unfold ovN
 rw [h2.2]
 exact h3
theorem ovN_cls {d : Dg} (h : arcsB d = true) {a b : Nat} (a1 : 1 ≤ a) (a2 : a ≤ 2 * d.crs.length) (b1 : 1 ≤ b) (b2 : b ≤ 2 * d.crs.length) (e : ovN d a = ovN d b) : ga (clsL d) a = ga (clsL d) b := by
 obtain ⟨r1, r2, r3, r4⟩ := cls_root h a1 a2
 obtain ⟨s1, s2, s3, s4⟩ := cls_root h b1 b2
 unfold ovN at e
 rw [r4, s4]
 refine congrArg (fun x : Nat => (x : Int)) ?_
 generalize (ga (clsL d) a).toNat = x at *
 generalize (ga (clsL d) b).toNat = y at *
 have ex : cn (rtB d) (x + 1) = cn (rtB d) x + 1 := by rw [cn, if_pos r3]
 have ey : cn (rtB d) (y + 1) = cn (rtB d) y + 1 := by rw [cn, if_pos s3]
 rcases Nat.lt_trichotomy x y with h9 | h9 | h9
 ·have := cn_upC (p := rtB d) (a := x + 1) (b := y) (by omega); omega
 ·exact h9
 ·have := cn_upC (p := rtB d) (a := y + 1) (b := x) (by omega); omega
def ruC (d : Dg) (x : Cr) : Rl := if x.plus = true then ⟨ovA d x.a.toNat, ovA d x.b.toNat, ovA d x.c.toNat⟩ else ⟨ovA d x.c.toNat, ovA d x.b.toNat, ovA d x.a.toNat⟩
def rulesD (d : Dg) : List Rl := d.crs.map (ruC d)
theorem rulesD_len (d : Dg) : (rulesD d).length = d.crs.length := by simp [rulesD]
theorem rulesD_ga (d : Dg) {k : Nat} (hk : k < d.crs.length) : ga (rulesD d) k = ruC d (ga d.crs k) := ga_map _ _ _ hk
def arcC (d : Dg) (g : List Int) : List Int := (List.range (2 * d.crs.length)).map fun x => ga g (ovN d (x + 1))
theorem arcC_len (d : Dg) (g : List Int) : (arcC d g).length = 2 * d.crs.length := by simp [arcC]
theorem arcC_ga (d : Dg) (g : List Int) {x : Nat} (h1 : 1 ≤ x) (h2 : x ≤ 2 * d.crs.length) : ga ([0] ++ arcC d g) x = ga g (ovN d x) := by
 obtain ⟨y, rfl⟩ : ∃ y, x = y + 1 := ⟨x - 1, by omega⟩
 have e : ga ([0] ++ arcC d g) (y + 1) = ga (arcC d g) y := rfl
 rw [e, ga_eq (by rw [arcC_len]; omega)]
 simp [arcC]
theorem arc_bds {d : Dg} (h : arcsB d = true) {k : Nat} (hk : k < d.crs.length) : (1 ≤ eA d k ∧ eA d k ≤ 2 * d.crs.length) ∧ (1 ≤ eB d k ∧ eB d k ≤ 2 * d.crs.length) ∧ (1 ≤ eC d k ∧ eC d k ≤ 2 * d.crs.length) ∧ (1 ≤ eD d k ∧ eD d k ≤ 2 * d.crs.length) := by
 have ha : 1 ≤ (ga d.crs k).a ∧ (ga d.crs k).a ≤ 2 * (d.crs.length : Int) := arcAt_bd h hk (k := 0) (by omega)
 have hb : 1 ≤ (ga d.crs k).b ∧ (ga d.crs k).b ≤ 2 * (d.crs.length : Int) := arcAt_bd h hk (k := 1) (by omega)
 have hc : 1 ≤ (ga d.crs k).c ∧ (ga d.crs k).c ≤ 2 * (d.crs.length : Int) := arcAt_bd h hk (k := 2) (by omega)
 have hd : 1 ≤ (ga d.crs k).d ∧ (ga d.crs k).d ≤ 2 * (d.crs.length : Int) := arcAt_bd h hk (k := 3) (by omega)
 unfold eA eB eC eD
 omega
theorem ovN_same {d : Dg} (h : arcsB d = true) {k : Nat} (hk : k < d.crs.length) : ovN d (eB d k) = ovN d (eD d k) := by
 unfold ovN clsL
 rw [cls_same h hk _ hk]
/-- A rule of a crossing, in terms of its arcs. -/
theorem sol_okX {d : Dg} {q : List (List Int)} (h : arcsB d = true) (g : List Int) : (∀ i, i < (rulesD d).length → q2 q (ga g (ga (rulesD d) i).f.toNat).toNat (ga g (ga (rulesD d) i).o.toNat).toNat = ga g (ga (rulesD d) i).t.toNat) ↔ ∀ k, k < d.crs.length → okX d q ([0] ++ arcC d g) (2 * d.crs.length) k := by
 rw [rulesD_len]
 refine ⟨fun hs k hk => ?_, fun hs k hk => ?_⟩
 ·obtain ⟨⟨a1, a2⟩, ⟨b1, b2⟩, ⟨c1, c2⟩, ⟨d1, d2⟩⟩ := arc_bds h hk
  have h9 := hs k hk
  rw [rulesD_ga d hk] at h9
  refine ⟨fun _ _ => ?_, fun _ _ _ => ?_⟩
  ·rw [arcC_ga d g b1 b2, arcC_ga d g d1 d2, ovN_same h hk]
  ·rw [arcC_ga d g a1 a2, arcC_ga d g b1 b2, arcC_ga d g c1 c2]
   unfold ruC at h9
   by_cases hp : (ga d.crs k).plus = true
   ·rw [if_pos hp] at h9 ⊢
    exact h9
   ·rw [if_neg hp] at h9 ⊢
    exact h9
 ·obtain ⟨⟨a1, a2⟩, ⟨b1, b2⟩, ⟨c1, c2⟩, ⟨d1, d2⟩⟩ := arc_bds h hk
  have h9 := (hs k hk).2 a2 b2 c2
  rw [arcC_ga d g a1 a2, arcC_ga d g b1 b2, arcC_ga d g c1 c2] at h9
  rw [rulesD_ga d hk]
  unfold ruC
  by_cases hp : (ga d.crs k).plus = true
  ·rw [if_pos hp] at h9 ⊢
   exact h9
  ·rw [if_neg hp] at h9 ⊢
   exact h9
theorem ext_none {m : Nat} (g : List Int) : ExtQ (List.replicate m (-1)) g := fun i hi h => by
 rw [List.length_replicate] at hi
 exact absurd (ga_rep _ _ _ hi) h
open Classical in
theorem counts_eq {d : Dg} {q : List (List Int)} (hF : QuF q) (h : arcsB d = true) : cntS q (rulesD d) (List.replicate (mnyC d) (-1)) = cntT d q [0] := by
 unfold cntS cntT
 rw [List.length_replicate, List.length_singleton, Nat.add_sub_cancel]
 refine countP_bij (nodup_gens _ _) (nodup_gens _ _) (arcC d) (fun g hg hp => ?_) (fun g hg g' hg' e => ?_) (fun f hf hp => ?_)
 ·obtain ⟨g1, g2⟩ := mem_gens.1 hg
  obtain ⟨s1, _⟩ := sB_iff.1 hp
  refine ⟨mem_gens.2 ⟨arcC_len d g, fun i hi => ?_⟩, sB_iff.2 ((sol_okX h g).1 s1.2.2)⟩
  have := arcC_ga d g (x := i + 1) (by omega) (by omega)
  have e : ga ([0] ++ arcC d g) (i + 1) = ga (arcC d g) i := rfl
  rw [← e, this]
  exact g2 _ (ovN_lt h (by omega) (by omega))
 ·obtain ⟨g1, g2⟩ := mem_gens.1 hg
  obtain ⟨g3, g4⟩ := mem_gens.1 hg'
  refine ga_ext (by rw [g1, g3]) fun j hj => ?_
  obtain ⟨a, a1, a2, a3⟩ := ovN_ex (d := d) (j := j) (by omega)
  rw [← a3, ← arcC_ga d g a1 a2, ← arcC_ga d g' a1 a2, e]
 ·obtain ⟨f1, f2⟩ := mem_gens.1 hf
  have hok := sB_iff.1 hp
  have hcl : ∀ x y, 1 ≤ x → x ≤ 2 * d.crs.length → 1 ≤ y → y ≤ 2 * d.crs.length → ovN d x = ovN d y → ga ([0] ++ f) x = ga ([0] ++ f) y := fun x y x1 x2 y1 y2 e => by
   have h9 := cls_con h (fun z => ga ([0] ++ f) z = ga ([0] ++ f) x) (fun k hk => by
    obtain ⟨_, ⟨b1, b2⟩, _, ⟨d1, d2⟩⟩ := arc_bds h hk
    rw [(hok k hk).1 b2 d2]) d.crs.length (Nat.le_refl _) x y (by omega) (by omega) (ovN_cls h x1 x2 y1 y2 e)
   exact (h9.1 rfl).symm
  let g : List Int := (List.range (mnyC d)).map fun j => ga ([0] ++ f) (if hj : ∃ a, 1 ≤ a ∧ a ≤ 2 * d.crs.length ∧ ovN d a = j then Classical.choose hj else 0)
  have gl : g.length = mnyC d := by simp [g]
  have gg : ∀ x, 1 ≤ x → x ≤ 2 * d.crs.length → ga g (ovN d x) = ga ([0] ++ f) x := fun x x1 x2 => by
   have hl := ovN_lt h x1 x2
   rw [ga_eq (by rw [gl]; exact hl)]
   have hex : ∃ a, 1 ≤ a ∧ a ≤ 2 * d.crs.length ∧ ovN d a = ovN d x := ⟨x, x1, x2, rfl⟩
   obtain ⟨c1, c2, c3⟩ := Classical.choose_spec hex
   simp only [g, List.getElem_map, List.getElem_range]
   rw [dif_pos hex]
   exact hcl _ _ c1 c2 x1 x2 c3
  have ef : arcC d g = f := ga_ext (by rw [arcC_len, f1]) fun i hi => by
   rw [arcC_len] at hi
   have := arcC_ga d g (x := i + 1) (by omega) (by omega)
   have e : ga ([0] ++ arcC d g) (i + 1) = ga (arcC d g) i := rfl
   rw [← e, this, gg _ (by omega) (by omega)]
   rfl
  have gv : ∀ j, j < mnyC d → 0 ≤ ga g j ∧ ga g j < (q.length : Int) := fun j hj => by
   obtain ⟨a, a1, a2, a3⟩ := ovN_ex hj
   rw [← a3, gg a a1 a2]
   obtain ⟨y, rfl⟩ : ∃ y, a = y + 1 := ⟨a - 1, by omega⟩
   exact f2 y (by omega)
  refine ⟨g, mem_gens.2 ⟨gl, gv⟩, sB_iff.2 ⟨⟨gl, gv, (sol_okX h g).2 ?_⟩, ext_none g⟩, ef⟩
  rw [ef]
  exact hok
theorem rulesD_ok {d : Dg} (h : arcsB d = true) : RuV (rulesD d) (mnyC d) := fun i hi => by
 rw [rulesD_len] at hi
 obtain ⟨⟨a1, a2⟩, ⟨b1, b2⟩, ⟨c1, c2⟩, _⟩ := arc_bds h hi
 have ha := ovN_lt h a1 a2
 have hb := ovN_lt h b1 b2
 have hc := ovN_lt h c1 c2
 have ea : ovA d (ga d.crs i).a.toNat = ((ovN d (eA d i) : Nat) : Int) := rfl
 have eb : ovA d (ga d.crs i).b.toNat = ((ovN d (eB d i) : Nat) : Int) := rfl
 have ec : ovA d (ga d.crs i).c.toNat = ((ovN d (eC d i) : Nat) : Int) := rfl
 rw [rulesD_ga d hi]
 unfold ruC
 split <;> simp only [ea, eb, ec] <;> omega
theorem mnyC_le (d : Dg) : mnyC d ≤ 2 * d.crs.length := by
 have h0 : cn (rtB d) 1 = 0 := by have := rk_one d; unfold rk at this; omega
 have key : ∀ n, cn (rtB d) (n + 1) ≤ n := fun n => by
  induction n with
  | zero => exact Nat.le_of_eq h0
  | succ n ih => rw [cn]; split <;> omega
 exact key _
end Go.Proofs.Ytefkjfcncpmneaa
namespace Go.Proofs.Ytefkjfcncpmneaa
open Go.ChangeShapes Go.WideShapes Go.ChangeAt Go.RowKit
theorem counted_all {d : Dg} {q : List (List Int)} (hQF : QuF q) (hn : d.crs.length ≤ 10) (hab : arcsB d = true) : ∀ (N a : Nat) (l : List Int), 2 * d.crs.length + 1 - a < N → l.length = 2 * d.crs.length + 1 → LV q l → (1 ≤ a ∧ a ≤ 2 * d.crs.length + 1) → (∀ k, k < d.crs.length → okX d q l (a - 1) k) → ∀ (v2 : Value) (w : World) (M : Hp) (X : Fr) {dcrsA qA : Option Addr} {dcrsc qc : Nat} {qv : List SlV}, RdA cdCr (M.un X.h) dcrsA dcrsc d.crs → RdA (cdV 33) (M.un X.h) qA qc qv → Rd2 cdInt (M.un X.h) qv q → SH w M X [Rs.row cdInt v2 l] → C1 Try.prog 59 [.agg [.slice dcrsA d.crs.length dcrsc, .int .i64 d.loops].toArray, .slice qA qv.length qc, v2, .int .i64 ((a : Nat) : Int)] w M X (fun u M' r' => M' = M ∧ ∃ l', u = .int .i64 ((cntT d q (l.take a) : Nat) : Int) ∧ l'.length = l.length ∧ (∀ x, x < a → ga l' x = ga l x) ∧ LV q l' ∧ r' = Rs.row cdInt v2 l') := by
 intro N
 induction N with
 | zero => intro a l h; omega
 | succ N ih =>
  intro a l hN hl hlv ha hok v2 w M X dcrsA qA dcrsc qc qv hcrs hq hdq S
  exact counted_step d q v2 l a hcrs hq hdq hQF hn hab hl hlv ha hok (fun h1 l2 e1 e2 e3 => ih (a + 1) l2 (by omega) (by rw [e1]; exact hl) e2 ⟨by omega, by omega⟩ e3) S
theorem pow4 {x i : Nat} (hx : x ≤ 4) (hi : i ≤ 4) : x ^ i ≤ 256 := Nat.le_trans (Nat.pow_le_pow_left hx i) (Nat.le_trans (Nat.pow_le_pow_right (by omega) hi) (by decide))
noncomputable def CountOf_n0 : Code := Try.f26.body.getD .skip
noncomputable def CountOf_n1 : Code := cL CountOf_n0
noncomputable def CountOf_n2 : Code := cR CountOf_n0
noncomputable def CountOf_n3 : Code := cL CountOf_n2
noncomputable def CountOf_n4 : Code := cR CountOf_n2
noncomputable def CountOf_n5 : Code := cL CountOf_n4
noncomputable def CountOf_n6 : Code := cR CountOf_n4
noncomputable def CountOf_n7 : Code := cL CountOf_n5
noncomputable def CountOf_n8 : Code := cR CountOf_n5
noncomputable def CountOf_n9 : Code := cL CountOf_n8
noncomputable def CountOf_n10 : Code := cL CountOf_n9
noncomputable def CountOf_n11 : Code := cL CountOf_n10
noncomputable def CountOf_n12 : Code := cR CountOf_n10
noncomputable def CountOf_n13 : Code := cL CountOf_n11
noncomputable def CountOf_n14 : Code := cR CountOf_n11
noncomputable def CountOf_n15 : Code := cL CountOf_n14
noncomputable def CountOf_n16 : Code := cR CountOf_n14
noncomputable def CountOf_n17 : Code := cL CountOf_n12
noncomputable def CountOf_n18 : Code := cR CountOf_n12
noncomputable def CountOf_n19 : Code := cL CountOf_n17
noncomputable def CountOf_n20 : Code := cL CountOf_n6
noncomputable def CountOf_n21 : Code := cR CountOf_n6
set_option maxRecDepth 10000 in
theorem CountOf_t {w : World} {M : Hp} {X : Fr} (d : Dg) {dcrsA : Option Addr} {dcrsc : Nat} (q : List (List Int)) {qA : Option Addr} {qc : Nat} {qv : List SlV} (hdcrs : RdA cdCr (M.un X.h) dcrsA dcrsc d.crs) (hq : RdA (cdV 33) (M.un X.h) qA qc qv) (hdq : Rd2 cdInt (M.un X.h) qv q) (hQF : QuF q) (hn : d.crs.length ≤ 10) (hab : arcsB d = true) (hlo : 0 ≤ d.loops ∧ d.loops ≤ 4) (S : SH w M X []) : Ct Try.prog 26 [.agg [.slice dcrsA d.crs.length dcrsc, .int .i64 d.loops].toArray, .slice qA qv.length qc] w M X (fun u _ => u = .int .i64 ((cntT d q [0] * q.length ^ d.loops.toNat : Nat) : Int)) := by
 unfold Ct
 have rmhdcrs : d.crs.length * 40 ≤ 140737488355328 := hdcrs.room
 have rmhq : qv.length * 24 ≤ 140737488355328 := hq.room
 have hlq := hdq.1
 have hl9 : (List.replicate (2 * d.crs.length + 1) (0 : Int)).length = 2 * d.crs.length + 1 := List.length_replicate ..
 have hlv9 : LV q (List.replicate (2 * d.crs.length + 1) (0 : Int)) := fun i hi => by rw [List.length_replicate] at hi; rw [ga_rep _ _ _ hi]; have := hQF.1; omega
 have hok9 : ∀ k, k < d.crs.length → okX d q (List.replicate (2 * d.crs.length + 1) (0 : Int)) (1 - 1) k := fun k hk => by obtain ⟨⟨a1, _⟩, ⟨b1, _⟩, _⟩ := arc_bds hab hk; exact ⟨fun h1 => by omega, fun h1 => by omega⟩
 have ht9 : (List.replicate (2 * d.crs.length + 1) (0 : Int)).take 1 = [0] := by rw [List.replicate_succ]; rfl
 refine calls_in (b := CountOf_n0) Try.func26 rfl Try.ntmps26 rfl (fun C hC => ?_)
 refine ws_sub [(0, _), (1, _)] ⟨rfl, rfl, trivial⟩ ?_
 refine ws_seqN CountOf_n1 CountOf_n2 rfl rfl rfl ?_
 refine ws_region rfl ?_
 refine wlo 0 1 rfl rfl rfl (wo_box (l := [_, _]) rfl rfl rfl rfl rfl S ?_)
 intro gb1 w1 S1; clear S
 refine wla 1 2 rfl rfl rfl rfl rfl rfl rfl ?_
 refine wl_end rfl ?_
 refine nm_sub [(1, _), (2, _)] ⟨rfl, rfl, trivial⟩ ?_
 refine nm_thn ?_
 refine ws_seqN CountOf_n3 CountOf_n4 rfl rfl rfl ?_
 refine ws_draw rfl (by kernel_rfl) S1 10 rfl ?_
 clear S1
 refine wa_take (i := 0) (d := 7) 9 rfl (by kernel_rfl) (by kernel_rfl) (by kernel_rfl) rfl rfl rfl (fun M1 N1 w2 hle1 S2 => .inl (run_loadN (us := [_, _]) rfl rfl Try.underlying24 rfl sz24 (S2.suf.boxcs (i := 0) rfl ⟨rfl, rfl, trivial⟩))) ?_
 refine wa_takeP (i := 1) (d := 8) 8 rfl (by kernel_rfl) (by kernel_rfl) (by kernel_rfl) rfl rfl rfl (fun w3 => run_move rfl rfl) ?_
 refine wa_takeP (i := 2) (d := 9) 7 rfl (by kernel_rfl) (by kernel_rfl) (by kernel_rfl) rfl rfl rfl (fun w4 => run_fieldAddr rfl rfl Try.underlying24 rfl (ce22) (nf22)) ?_
 refine wa_take (i := 3) (d := 10) 6 rfl (by kernel_rfl) (by kernel_rfl) (by kernel_rfl) rfl rfl rfl (fun M4 N4 w5 hle4 S5 => .inl (run_load1 rfl rfl Try.underlying22 rfl (S5.suf.boxc (i := 0) rfl rfl))) ?_
 refine wa_take (i := 4) (d := 11) 5 rfl (by kernel_rfl) (by kernel_rfl) (by kernel_rfl) rfl rfl rfl (fun M5 N5 w6 hle5 S6 => .inl (run_len rfl rfl rfl rfl rfl rfl Try.underlying22)) ?_
 refine wa_takeP (i := 5) (d := 12) 4 rfl (by kernel_rfl) (by kernel_rfl) (by kernel_rfl) rfl rfl rfl (fun w7 => run_mul rfl rfl rfl (by first | omega | (simp only [lens]; omega))) ?_
 refine wa_takeP (i := 6) (d := 13) 3 rfl (by kernel_rfl) (by kernel_rfl) (by kernel_rfl) rfl rfl rfl (fun w8 => run_add rfl rfl rfl (by first | omega | (simp only [lens]; omega))) ?_
 refine wa_only (i := 7) 2 rfl (by kernel_rfl) rfl rfl (fun w10 S10 => ?_)
 refine (wo_make (C := cdInt) ((2 * (d.crs.length : Int)).toNat + 1) rfl rfl rfl rfl rfl sl33 (by first | rfl | omega) (by show _ * 8 ≤ _; first | omega | (simp only [lens]; omega)) S10 ?_)
 intro vr1 w11 S11; clear S10
 refine LeftW.grow [_] (Hp.le_refl _) S11 ?_; clear S11
 change WA _ _ _ _ _ _ _ _ _ _ _ _ [_, _]
 refine wa_only (i := 8) 1 rfl (by kernel_rfl) rfl rfl (fun w13 S13 => ?_)
 refine (wo_c1 rfl rfl rfl rfl rfl rfl rfl cf59 S13 (i := 0) rfl (counted_all (d := d) hQF hn hab (2 * d.crs.length + 1) 1 (List.replicate ((2 * (d.crs.length : Int)).toNat + 1) cdInt.z) (by omega) hl9 hlv9 ⟨by omega, by omega⟩ hok9 vr1 _ _ _ (hdcrs.mono (S13.less (i := 0) rfl).un_XH) (hq.mono (S13.less (i := 0) rfl).un_XH) (hdq.mono (S13.less (i := 0) rfl).un_XH) (S13.lend1 (i := 0) rfl)) ?_)
 rintro vw14 w14 _ _ - S14 ⟨hMX1, lz1, rfl, hzl1, hzp1, hzv1, rfl⟩; clear S13
 change SH _ _ _ [_, _] at S14
 rw [hMX1] at S14; clear hMX1
 refine LeftW.turn (by kernel_rfl) S14 ?_; clear S14
 change WA _ _ _ _ _ _ _ _ _ _ _ _ [_, _]
 refine wa_takeP (i := 9) (d := 5) 0 rfl (by kernel_rfl) (by kernel_rfl) (by kernel_rfl) rfl rfl rfl (fun w15 => run_assign rfl rfl) ?_
 refine wa_end (by kernel_rfl) (fun w16 S16 => ?_)
 refine nm_sub [(1, _), (2, _), (5, _)] ⟨rfl, rfl, rfl, trivial⟩ ?_
 refine nm_thn ?_
 refine ws_seqN CountOf_n5 CountOf_n6 rfl rfl rfl ?_
 refine ws_seqN CountOf_n7 CountOf_n8 rfl rfl rfl ?_
 refine ws_eq 5 (.int .i64 ((cntT d q [0] : Nat) : Int)) rfl (int_eq (congrArg (fun z => ((cntT d q z : Nat) : Int)) ht9)) ?_
 refine ws_region rfl ?_
 refine wla 0 1 rfl rfl rfl rfl rfl rfl rfl ?_
 refine wl_end rfl ?_
 refine nm_sub [(1, _), (2, _), (5, _), (6, _)] ⟨rfl, rfl, rfl, rfl, trivial⟩ ?_
 refine nm_thn ?_
 refine ws_blockN CountOf_n9 0 rfl rfl rfl ?_
 refine ws_loopE (fun mx_ ax_ wx_ => ∃ (i : Nat) (p : Nat), mx_ = d.loops.toNat - i ∧ Env 27 [(1, .slice qA qv.length qc), (2, .pointer (some ⟨gb1, 0, none⟩)), (5, .int .i64 (p : Int)), (6, .int .i64 (i : Int))] ax_ ∧ SH wx_ M X [Rs.box gb1 24 [.slice dcrsA d.crs.length dcrsc, .int .i64 d.loops]] ∧ (i : Int) ≤ d.loops ∧ p = cntT d q [0] * q.length ^ i) rfl ?_ ?_
 ·intro ax_ hax_
  refine ⟨_, ⟨0, cntT d q [0], rfl, hax_.sub ⟨rfl, rfl, rfl, rfl, trivial⟩, S16.pick [1] [_] (by decide) ⟨rfl, trivial⟩, ?hq1f0, ?hq1f1⟩⟩
  case hq1f0 => omega
  case hq1f1 => (rw [Nat.pow_zero, Nat.mul_one])
 ·rintro m1 a1 w17 ⟨i, p, rfl, he1, S17, hi, hpe⟩
  clear S16
  refine ws_in he1 (c := CountOf_n10) rfl ?_
  clear he1 a1
  have hpb : p ≤ 281474976710656 := by rw [hpe]; exact Nat.mul_le_mul (cntT_bd (p := [0]) hQF hn (Nat.le_refl 1)) (pow4 hQF.2.1 (by omega))
  have hpm : (p : Int) * (qv.length : Int) ≤ 1125899906842624 := by rw [hlq, ← Int.natCast_mul]; exact Int.ofNat_le.2 (Nat.mul_le_mul hpb hQF.2.1)
  have hpn : 0 ≤ (p : Int) * (qv.length : Int) := by rw [← Int.natCast_mul]; exact Int.natCast_nonneg _
  refine ws_seqN CountOf_n11 CountOf_n12 rfl rfl rfl ?_
  refine ws_seqN CountOf_n13 CountOf_n14 rfl rfl rfl ?_
  refine ws_region rfl ?_
  refine wlm 0 1 rfl rfl rfl rfl rfl rfl rfl ?_
  refine wlo 1 2 rfl rfl rfl (wo_run rfl rfl (run_fieldAddr rfl rfl Try.underlying24 rfl (ce3) (nf3)) ?_)
  refine wlo 2 3 rfl rfl rfl (wo_run rfl rfl (run_load1 rfl rfl Try.underlying3 rfl (S17.boxc (i := 0) rfl rfl)) ?_)
  refine wlo 3 4 rfl rfl rfl (wo_run rfl rfl (run_lss rfl rfl rfl) ?_)
  refine wl_end rfl ?_
  refine nm_sub [(1, _), (2, _), (5, _), (6, _), (19, _)] ⟨rfl, rfl, rfl, rfl, rfl, trivial⟩ ?_
  refine nm_thn ?_
  refine ws_condN CountOf_n15 CountOf_n16 rfl rfl rfl rfl (fun hb19 => ?_) (fun hb19 => ?_)
  ·replace hb19 := of_decide_eq_true hb19
   refine ws_skip rfl ?_
   refine nm_sub [(1, _), (2, _), (5, _), (6, _)] ⟨rfl, rfl, rfl, rfl, trivial⟩ ?_
   refine nm_thn ?_
   refine ws_seqN CountOf_n17 CountOf_n18 rfl rfl rfl ?_
   refine ws_blockN CountOf_n19 1 rfl rfl rfl ?_
   refine ws_region rfl ?_
   refine wlm 0 1 rfl rfl rfl rfl rfl rfl rfl ?_
   refine wlm 1 2 rfl rfl rfl rfl rfl rfl rfl ?_
   refine wlo 2 3 rfl rfl rfl (wo_run rfl rfl (run_len rfl rfl rfl rfl rfl rfl Try.underlying34) ?_)
   refine wlo 3 4 rfl rfl rfl (wo_run rfl rfl (run_mul rfl rfl rfl (by first | omega | (simp only [lens]; omega))) ?_)
   refine wla 4 5 rfl rfl rfl rfl rfl rfl rfl ?_
   refine wl_end rfl ?_
   refine nm_blk ?_
   refine nm_sub [(1, _), (2, _), (5, _), (6, _)] ⟨rfl, rfl, rfl, rfl, trivial⟩ ?_
   refine nm_thn ?_
   refine ws_eq 5 (.int .i64 ((p * q.length : Nat) : Int)) rfl (int_eq (by rw [Int.natCast_mul, hlq])) ?_
   refine ws_region rfl ?_
   refine wlm 0 1 rfl rfl rfl rfl rfl rfl rfl ?_
   refine wlo 1 2 rfl rfl rfl (wo_run rfl rfl (run_add rfl rfl rfl (by first | omega | (simp only [lens]; omega))) ?_)
   refine wla 2 3 rfl rfl rfl rfl rfl rfl rfl ?_
   refine wl_end rfl ?_
   refine nm_lp ?_
   intro ax_ hax_
   refine ⟨_, ?hq2m, ⟨i + 1, p * q.length, rfl, hax_.sub ⟨rfl, rfl, rfl, rfl, trivial⟩, S17.pick [0] [_] (by decide) ⟨rfl, trivial⟩, ?hq2f0, ?hq2f1⟩⟩
   case hq2f0 => omega
   case hq2f1 => (rw [hpe, Nat.pow_succ, Nat.mul_assoc])
   case hq2m => omega
  ·replace hb19 := of_decide_eq_false hb19
   refine ws_exit rfl rfl ?_
   refine nm_sub [(5, _)] ⟨rfl, trivial⟩ ?_
   refine nm_thn ?_
   refine ws_seqN CountOf_n20 CountOf_n21 rfl rfl rfl ?_
   refine ws_region rfl ?_
   refine wlm 0 1 rfl rfl rfl rfl rfl rfl rfl ?_
   refine wla 1 2 rfl rfl rfl rfl rfl rfl rfl ?_
   refine wl_end rfl ?_
   refine nm_sub [(4, _)] ⟨rfl, trivial⟩ ?_
   refine nm_thn ?_
   refine ws_ret hC [_] rfl rfl ⟨rfl, trivial⟩ ?_
   refine ⟨_, rfl, _, Hp.le_refl _, (S17.pick [] [] (by decide) trivial), ?_⟩
   have e9 : i = d.loops.toNat := by omega
   rw [hpe, e9]
   rfl
end Go.Proofs.Ytefkjfcncpmneaa
namespace Go.Proofs.Ytefkjfcncpmneaa
open Go.ChangeShapes Go.WideShapes Go.ChangeAt Go.RowKit
section
variable {P : Program} {o : Oper} {L : List (Nat × Value)} {w : World} {x y : Operand} {t t' src dst : TypeId} {a b : Int} {k k2 : IntKind}
theorem run_binK {bo : BinOp} {v : Value} (ho : o.op = .binOp bo t x y t') (hx : oev L x = some (.int k a)) (hy : oev L y = some (.int k2 b)) (h : ∀ w, (binOp bo t (.int k a) (.int k2 b)).run P w = .ok v w) : Run P o L w v w := by
  intro n c hc
  unfold execOp
  simp only [ho, hc.eval hx, hc.eval hy]
  have : ∀ w, (eqGuard bo t x y (.int k a) (.int k2 b)).run P w = .ok () w := by
    intro w
    unfold eqGuard
    split <;> simp
  simp [this, h]
theorem run_shrK (ho : o.op = .binOp .shr t x y t') (hx : oev L x = some (.int k a)) (hy : oev L y = some (.int k2 b)) (h : 0 ≤ b) : Run P o L w (.int k (a.fdiv (2 ^ min b.toNat k.bits))) w :=
  run_binK ho hx hy fun w => by simp [binOp, Op.shift, Int.not_lt.2 h]
theorem run_andK (ho : o.op = .binOp .and t x y t') (hx : oev L x = some (.int k a)) (hy : oev L y = some (.int k b)) : Run P o L w (.int k (k.wrap ((BitVec.ofInt k.bits a &&& BitVec.ofInt k.bits b).toNat : Nat))) w :=
  run_binK ho hx hy fun w => by simp [binOp, Op.intBits]
theorem run_addK (ho : o.op = .binOp .add t x y t') (hx : oev L x = some (.int k a)) (hy : oev L y = some (.int k b)) : Run P o L w (.int k (k.wrap (a + b))) w :=
  run_binK ho hx hy fun w => by simp [binOp, Op.intArith]
theorem run_convI (ho : o.op = .convert src dst x) (hx : oev L x = some (.int k a)) (hs : ∃ d, P.underlying src = some d) (hd : P.underlying dst = some (.int k2)) : Run P o L w (.int k2 (k2.wrap a)) w := by
  intro n c he
  obtain ⟨d, hs⟩ := hs
  unfold execOp
  simp only [ho, he.eval hx, convert, Sem.run_bind, run_underlying hs, run_underlying hd, Result.andThen_ok, Conv.intToInt, Sem.run_pure]
theorem ofInt_nat (s : Nat) : BitVec.ofInt 64 (s : Int) = BitVec.ofNat 64 s := by
  apply BitVec.eq_of_toNat_eq
  simp
theorem run_convN {s : Nat} (ho : o.op = .convert src dst x) (hx : oev L x = some (.int .i64 (s : Int))) (hs : ∃ d, P.underlying src = some d) (hd : P.underlying dst = some (.int .u64)) (h : s < 9223372036854775808) : Run P o L w (.int .u64 (s : Int)) w := by
  have := run_convI (w := w) ho hx hs hd
  rw [show IntKind.u64.wrap (s : Int) = (s : Int) from by
    show (s : Int) % 18446744073709551616 = _
    omega] at this
  exact this
end
end Go.Proofs.Ytefkjfcncpmneaa
namespace Go.Proofs.Ytefkjfcncpmneaa
open Go.ChangeShapes Go.WideShapes Go.ChangeAt Go.RowKit
section
variable {P : Program} {o : Oper} {L : List (Nat × Value)} {w w' : World} {x y z : Operand} {t t' T E : TypeId} {a b : Int} {v u : Value} {n d : Nat} {Kt : List (Nat × Value) → World → Prop} {M M' : Hp} {X : Fr} {H H' : List Rs} {i g : Nat} {l : List Value}
theorem wrapU_id {s : Nat} (h : s < 18446744073709551616) : IntKind.u64.wrap (s : Int) = (s : Int) := by
  show (s : Int) % 18446744073709551616 = _
  omega
theorem run_maskU {s : Nat} (ho : o.op = .binOp .and t x y t') (hx : oev L x = some (.int .u64 (s : Int))) (hy : oev L y = some (.int .u64 4294967295)) (h : s < 4294967296) : Run P o L w (.int .u64 (s : Int)) w := by
  have := run_andK (w := w) (P := P) ho hx hy
  have e : (BitVec.ofInt IntKind.u64.bits (s : Int) &&& BitVec.ofInt IntKind.u64.bits 4294967295).toNat = s := by
    show (BitVec.ofInt 64 (s : Int) &&& BitVec.ofInt 64 ((4294967295 : Nat) : Int)).toNat = s
    rw [ofInt_nat, ofInt_nat, BitVec.toNat_and, BitVec.toNat_ofNat, BitVec.toNat_ofNat, Nat.mod_eq_of_lt (show s < 2 ^ 64 by omega), Nat.mod_eq_of_lt (show 4294967295 < 2 ^ 64 by decide)]
    have := Nat.and_two_pow_sub_one_eq_mod s 32
    rw [show 2 ^ 32 - 1 = 4294967295 by decide] at this
    rw [this]
    exact Nat.mod_eq_of_lt h
  rw [e, wrapU_id (by omega)] at this
  exact this
theorem run_shrU {s : Nat} (ho : o.op = .binOp .shr t x y t') (hx : oev L x = some (.int .u64 (s : Int))) (hy : oev L y = some (.int .u64 32)) (h : s < 4294967296) : Run P o L w (.int .u64 ((0 : Nat) : Int)) w := by
  have := run_shrK (w := w) (P := P) ho hx hy (by omega)
  have e : (s : Int).fdiv (2 ^ min (32 : Int).toNat IntKind.u64.bits) = ((0 : Nat) : Int) := by
    show (s : Int).fdiv 4294967296 = 0
    rw [Int.fdiv_eq_ediv_of_nonneg _ (by omega)]
    omega
  rw [e] at this
  exact this
theorem run_mulU {p q : Nat} (ho : o.op = .binOp .mul t x y t') (hx : oev L x = some (.int .u64 (p : Int))) (hy : oev L y = some (.int .u64 (q : Int))) (h : p * q < 18446744073709551616) : Run P o L w (.int .u64 ((p * q : Nat) : Int)) w := by
  have := run_binK (w := w) (P := P) (v := .int .u64 (IntKind.u64.wrap ((p : Int) * q))) ho hx hy fun w => by simp [binOp, Op.intArith]
  rw [← Int.natCast_mul, wrapU_id h] at this
  exact this
theorem run_addU {p q : Nat} (ho : o.op = .binOp .add t x y t') (hx : oev L x = some (.int .u64 (p : Int))) (hy : oev L y = some (.int .u64 (q : Int))) (h : p + q < 18446744073709551616) : Run P o L w (.int .u64 ((p + q : Nat) : Int)) w := by
  have := run_addK (w := w) (P := P) ho hx hy
  rw [← Int.natCast_add, wrapU_id h] at this
  exact this
theorem run_gtrU {a b : Int} (ho : o.op = .binOp .gtr t x y t') (hx : oev L x = some (.int .u64 a)) (hy : oev L y = some (.int .u64 b)) : Run P o L w (.bool (decide (b < a))) w := run_binK ho hx hy fun w => by simp [binOp, Op.intCmp]
def alv (v : Value) (lo n : Nat) : Value := match v with
  | .slice A _ c => .slice (if c = lo then A else A.map (·.add lo)) n (c - lo)
  | u => u
theorem SH.sl_ {α : Type} {C : Cd α} {xs : List α} {rv : Value} (S : SH w M X H) (hi : nth H i = some (Rs.row C rv xs)) : ∃ A c, rv = .slice A xs.length c ∧ xs.length ≤ c := S.sl hi
theorem run_aliasD {xs : List Int} {rv : Value} {lx : Operand} (k : Nat) (hop : o.op = .slice T x (some lx) none none) (hxx : oev L x = some rv) (hlo : oev L lx = some (.int .i64 a)) (hT : SlOf P T cdInt) (hv : ∃ A c, rv = .slice A xs.length c ∧ xs.length ≤ c) (ha : a = (k : Int)) (hk : k ≤ xs.length) : Run P o L w (alv rv k (xs.length - k)) w := by
  obtain ⟨zv, h1, h2, h3, h4, h5⟩ := hT
  obtain ⟨inf, hinf, hz, hs, h8⟩ := info_parts h2
  subst ha
  obtain ⟨A, c, rfl, hc⟩ := hv
  have := run_sliceI (P := P) (w := w) (lo := k) (hi := xs.length) hop hxx (lv := some (.int .i64 (k : Int))) (hv := none) (size := cdInt.k) (by simpa using hlo) rfl h1 (by rw [hinf]; simp [hs]) (.inr rfl) (.inl ⟨rfl, rfl⟩) hk hc
  rw [show k * cdInt.k = k from Nat.mul_one k] at this
  exact this
theorem run_aliasT {xs : List Int} {rv : Value} {hx : Operand} (k : Nat) (hop : o.op = .slice T x none (some hx) none) (hxx : oev L x = some rv) (hhi : oev L hx = some (.int .i64 a)) (hT : SlOf P T cdInt) (hv : ∃ A c, rv = .slice A xs.length c ∧ xs.length ≤ c) (ha : a = (k : Int)) (hk : k ≤ xs.length) : Run P o L w (alv rv 0 k) w := by
  obtain ⟨zv, h1, h2, h3, h4, h5⟩ := hT
  obtain ⟨inf, hinf, hz, hs, h8⟩ := info_parts h2
  subst ha
  obtain ⟨A, c, rfl, hc⟩ := hv
  have := run_sliceI (P := P) (w := w) (lo := 0) (hi := k) hop hxx (lv := none) (hv := some (.int .i64 (k : Int))) (size := cdInt.k) rfl (by simpa using hhi) h1 (by rw [hinf]; simp [hs]) (.inl ⟨rfl, rfl⟩) (.inr rfl) (Nat.zero_le _) (by omega)
  rw [Nat.zero_mul, Nat.sub_zero] at this
  exact this
theorem flatI (xs : List Int) : xs.flatMap cdInt.f = xs.map (Value.int .i64) := by
  induction xs with
  | nil => rfl
  | cons x xs ih => rw [List.flatMap_cons, ih]; rfl
theorem spl_map {α β : Type} (f : α → β) : ∀ (us l : List α) (o : Nat), (spl l o us).map f = spl (l.map f) o (us.map f)
  | [], l, o => rfl
  | u :: us, l, o => by rw [spl, spl_map f us, List.map_set, List.map_cons, spl]
theorem set_same {α : Type} {H : List α} {i : Nat} {r : α} (h : nth H i = some r) : H.set i r = H := by
  rw [nth_eq] at h
  apply List.ext_getElem?
  intro j
  rw [List.getElem?_set]
  split
  · rename_i e
    subst e
    have hl : i < H.length := (List.getElem?_eq_some_iff.1 h).1
    rw [if_pos hl, h]
  · rfl
theorem ga_spl {xs ys : List Int} {lo : Nat} (h : lo + ys.length ≤ xs.length) (x : Nat) : ga (spl xs lo ys) x = if lo ≤ x ∧ x < lo + ys.length then ga ys (x - lo) else ga xs x := by
  have := spl_get ys xs lo x h
  unfold ga
  simp only [List.getD_eq_getElem?_getD, this]
  split <;> rfl
/-- copy into a row of the call's own: what is read first is written. -/
theorem wo_copyG {xs ys : List Int} {rv u1 u2 : Value} {ca : Call} {ops : List Operand} {ts : List TypeId} {lo n1 n2 c1 c2 : Nat} {A1 A2 : Option Addr} (hop : o.op = .call ca) (hca : ca.callee = .builtin .copy) (hxs : ca.args = ops.toArray) (hts : ca.argTypes = ts.toArray) (hd : o.dst = some d) (hn : Nat.blt d n = true)
    (hx : oevs L ops = some [u1, u2]) (ht : ts = [t, t]) (hT : SlOf P t cdInt) (S : SH w M X H) (hi : nth H i = some (Rs.row cdInt rv xs)) (hlo : lo + ys.length ≤ xs.length) (hm : ys.length = Nat.min n2 n1)
    (hu1 : u1 = .slice A1 n1 c1) (hA1 : 0 < xs.length → A1 = some ⟨rb rv, lo, none⟩) (hu2 : u2 = .slice A2 n2 c2) (hsrc : 0 < ys.length → ∃ ad, A2 = some ad ∧ ∀ j u, (ys.flatMap cdInt.f)[j]? = some u → w.cell? (ad.add j) = some u)
    (h : ∀ w', SH w' M X (H.set i (Rs.row cdInt rv (spl xs lo ys))) → Kt ((d, .int .i64 ((ys.length : Nat) : Int)) :: L) w') : WO P n o L w Kt := by
  obtain ⟨zv, h1, h2, h3, h4, h5⟩ := hT
  obtain ⟨inf, hinf, hz, hs, h8⟩ := info_parts h2
  have hk1 : (P.info? cdInt.E).map (·.size) = some 1 := by rw [hinf]; simp [hs]; rfl
  subst hu1
  subst hu2
  rcases Nat.eq_zero_or_pos ys.length with h0 | h0
  · have hy : ys = [] := List.eq_nil_of_length_eq_zero h0
    have hrun := run_copy_none (P := P) w t t o.type _ A1 A2 n1 c1 n2 c2 h1 hk1 (by rw [← hm, h0])
    refine wo_run (v := .int .i64 ((ys.length : Nat) : Int)) (w' := w) hd hn ?_ (h _ ?_)
    · intro n c' he
      unfold execOp
      simp only [hop, resolve, hca, hxs, hts, ht, List.map_toArray, he.evals hx, Sem.run_bind, Sem.run_pure, Result.andThen_ok, invoke, builtin, hrun]
      rw [h0]; rfl
    · have e1 : spl xs lo ys = xs := by rw [hy]; rfl
      rw [e1, set_same hi]
      exact S
  · obtain ⟨ad, rfl, hcells⟩ := hsrc h0
    rcases (S.get hi : RowOk cdInt rv xs (hp w)) with ⟨_, h9⟩ | ⟨g, cap, cur, rfl, hg, g3, g4, g5, g6⟩
    · exfalso; rw [h9, List.length_nil] at hlo; omega
    · obtain rfl := hA1 (by omega)
      have hcl : (ys.flatMap cdInt.f).length = ys.length := by rw [flatI, List.length_map]
      have hct : cur.toList.length = cur.size := by simp
      have hcur : cur.size = cap := by rw [g5]; exact Nat.mul_one _
      have g6' : cur.toList.take xs.length = xs.map (Value.int .i64) := by rw [← flatI, ← g6]; exact congrArg (fun k => cur.toList.take k) (Nat.mul_one _).symm
      have hrun := run_copy_row (P := P) w t t o.type _ g lo n1 c1 ad n2 c2 cur cdInt.E (ys.flatMap cdInt.f) h1 hk1 hg (by rw [hcl, hm]) hcells (by rw [hcl]; omega) (cdInt.flat1 ys)
      refine wo_run (v := .int .i64 ((ys.length : Nat) : Int)) hd hn (w' := w.setRow g (cur.toList.take lo ++ ys.flatMap cdInt.f ++ cur.toList.drop (lo + (ys.flatMap cdInt.f).length)).toArray) ?_ (h _ ?_)
      · intro n c' he
        unfold execOp
        have hrun' : (Builtin.copy_ #[t, t] o.type #[.slice (some ⟨g, lo, none⟩) n1 c1, .slice (some ad) n2 c2]).run P w = _ := hrun
        have e9 : rb (Value.slice (some ⟨g, 0, none⟩) xs.length cap) = g := rfl
        simp only [hop, resolve, hca, hxs, hts, ht, List.map_toArray, he.evals hx, Sem.run_bind, Sem.run_pure, Result.andThen_ok, invoke, builtin, e9, hrun']
        rw [hcl]; rfl
      · have hcur' : lo + (ys.flatMap cdInt.f).length ≤ cur.toList.length := by rw [hcl]; omega
        rw [← spl_eq (ys.flatMap cdInt.f) cur.toList lo hcur']
        refine S.step hi rfl (like_setRow _ _ _) (fun b _ hb => keep_setRow _ _ _ b (by simpa [Rs.row, Value.ownBlock] using hb)) ?_ (fun b hb => ⟨.inl hb, ?_⟩)
        · have hs := setRow_heap w g cur (spl cur.toList lo (ys.flatMap cdInt.f)).toArray cdInt.E (0, 0) hg
          refine .inr ⟨g, cap, (spl cur.toList lo (ys.flatMap cdInt.f)).toArray, by rw [spl_len], hs, by rw [spl_len]; exact g3, g4, by simp [spl_len, g5], ?_⟩
          rw [flatI, flatI, spl_map, spl_len, ← g6']
          show List.take (xs.length * 1) _ = _
          rw [Nat.mul_one]
          apply List.ext_getElem?
          intro m
          have hm1 : (ys.map (Value.int .i64)).length = ys.length := List.length_map ..
          rw [List.getElem?_take, spl_get _ _ _ _ (by omega), spl_get _ _ _ _ (by rw [List.length_take]; omega), List.getElem?_take]
          by_cases hmx : m < xs.length
          · rw [if_pos hmx, if_pos hmx]
          · rw [if_neg hmx, if_neg hmx, if_neg (by omega)]
        · simp [Rs.row, Value.ownBlock] at hb
          subst hb
          have := hp_lt hg
          simpa using this
theorem alv_in {g len cap lo n : Nat} (h : lo < cap) : alv (.slice (some ⟨g, 0, none⟩) len cap) lo n = .slice (some ⟨g, lo, none⟩) n (cap - lo) := by
  unfold alv
  simp only [if_neg (show ¬ cap = lo by omega), Option.map_some]
  congr 2
  unfold Addr.add
  split
  · rename_i e; subst e; rfl
  · simp
/-- copy(x[lo:lo+n1], x[lo2:lo2+n2]) -/
theorem wo_copyAA {xs : List Int} {rv : Value} {ca : Call} {ops : List Operand} {ts : List TypeId} {lo n1 lo2 n2 : Nat} (hop : o.op = .call ca) (hca : ca.callee = .builtin .copy) (hxs : ca.args = ops.toArray) (hts : ca.argTypes = ts.toArray) (hd : o.dst = some d) (hn : Nat.blt d n = true)
    (hx : oevs L ops = some [alv rv lo n1, alv rv lo2 n2]) (ht : ts = [t, t]) (hT : SlOf P t cdInt) (S : SH w M X H) (hi : nth H i = some (Rs.row cdInt rv xs)) (hlo : lo < xs.length ∧ lo + n1 ≤ xs.length) (hlo2 : lo2 < xs.length ∧ lo2 + n2 ≤ xs.length)
    (h : ∀ w', SH w' M X (H.set i (Rs.row cdInt rv (spl xs lo ((xs.drop lo2).take (min n2 n1))))) → Kt ((d, .int .i64 ((min n2 n1 : Nat) : Int)) :: L) w') : WO P n o L w Kt := by
  have hyl : ((xs.drop lo2).take (min n2 n1)).length = min n2 n1 := by rw [List.length_take, List.length_drop]; omega
  obtain ⟨cap, hv, hc⟩ := S.some_ hi (by omega)
  have a1 : alv rv lo n1 = .slice (some ⟨rb rv, lo, none⟩) n1 (cap - lo) := by rw [hv]; exact alv_in (by omega)
  have a2 : alv rv lo2 n2 = .slice (some ⟨rb rv, lo2, none⟩) n2 (cap - lo2) := by rw [hv]; exact alv_in (by omega)
  refine wo_copyG (ys := (xs.drop lo2).take (min n2 n1)) (lo := lo) hop hca hxs hts hd hn hx ht hT S hi (by omega) hyl a1 (fun _ => rfl) a2 (fun _ => ⟨_, rfl, fun j u hu => ?_⟩) ?_
  · rw [flatI, List.getElem?_map, List.getElem?_take] at hu
    split at hu
    · rename_i hj
      rw [List.getElem?_drop, List.getElem?_eq_getElem (by omega)] at hu
      simp only [Option.map_some] at hu
      injection hu with hu
      have hc := S.rowc hi (e := lo2 + j) (j := 0) (u := u) (by omega) rfl (by rw [ga_eq (by omega), ← hu]; rfl)
      have e1 : (⟨rb rv, (lo2 + j) * cdInt.k + 0, none⟩ : Addr) = Addr.add ⟨rb rv, lo2, none⟩ j := by
        rw [show (lo2 + j) * cdInt.k = lo2 + j from Nat.mul_one _]
        unfold Addr.add
        split
        · rename_i e; subst e; rfl
        · rfl
      rw [← e1]; exact hc
    · cases hu
  · rw [hyl]; exact h
/-- copy(x, y): x a row of the call's own, y lasts. -/
theorem wo_copyM {xs zs : List Int} {rv : Value} {N : Hp} {A : Option Addr} {c : Nat} {ca : Call} {ops : List Operand} {ts : List TypeId} (hop : o.op = .call ca) (hca : ca.callee = .builtin .copy) (hxs : ca.args = ops.toArray) (hts : ca.argTypes = ts.toArray) (hd : o.dst = some d) (hn : Nat.blt d n = true)
    (hx : oevs L ops = some [rv, .slice A zs.length c]) (ht : ts = [t, t]) (hT : SlOf P t cdInt) (S : SH w M X H) (hi : nth H i = some (Rs.row cdInt rv xs)) (hz : RdA cdInt N A c zs) (hN : N.le (hp w))
    (h : ∀ w', SH w' M X (H.set i (Rs.row cdInt rv (spl xs 0 (zs.take (min zs.length xs.length))))) → Kt ((d, .int .i64 ((min zs.length xs.length : Nat) : Int)) :: L) w') : WO P n o L w Kt := by
  have hyl : (zs.take (min zs.length xs.length)).length = min zs.length xs.length := by rw [List.length_take]; omega
  obtain ⟨A1, cap, hv, hc⟩ := S.sl hi
  refine wo_copyG (ys := zs.take (min zs.length xs.length)) (lo := 0) hop hca hxs hts hd hn hx ht hT S hi (by omega) hyl hv (fun h0 => ?_) rfl (fun h0 => ?_) ?_
  · obtain ⟨cap2, hv2, _⟩ := S.some_ hi h0
    rw [hv] at hv2
    injection hv2 with e1
    rw [e1, hv]
  · have hz0 : 0 < zs.length := by omega
    refine ⟨_, (hz.2.2 hz0).1, fun j u hu => ?_⟩
    have hu2 : (zs.flatMap cdInt.f)[j]? = some u := by
      rw [flatI, List.getElem?_map, List.getElem?_take] at hu
      rw [flatI, List.getElem?_map]
      split at hu
      · exact hu
      · cases hu
    have := hz.cells hN j u hu2
    unfold Addr.add
    split
    · rename_i e; subst e; exact this
    · exact this
  · rw [hyl]; exact h
end
end Go.Proofs.Ytefkjfcncpmneaa
namespace Go.Proofs.Ytefkjfcncpmneaa
open Go.ChangeShapes Go.WideShapes Go.ChangeAt Go.RowKit
noncomputable def Mul64_n0 : Code := Try.f114.body.getD .skip
noncomputable def Mul64_n1 : Code := cL Mul64_n0
noncomputable def Mul64_n2 : Code := cR Mul64_n0
noncomputable def Mul64_n3 : Code := cL Mul64_n2
noncomputable def Mul64_n4 : Code := cR Mul64_n2
noncomputable def Mul64_n5 : Code := cL Mul64_n4
noncomputable def Mul64_n6 : Code := cR Mul64_n4
noncomputable def Mul64_n7 : Code := cL Mul64_n6
noncomputable def Mul64_n8 : Code := cR Mul64_n6
noncomputable def Mul64_n9 : Code := cL Mul64_n8
noncomputable def Mul64_n10 : Code := cR Mul64_n8
noncomputable def Mul64_n11 : Code := cL Mul64_n10
noncomputable def Mul64_n12 : Code := cR Mul64_n10
noncomputable def Mul64_n13 : Code := cL Mul64_n12
noncomputable def Mul64_n14 : Code := cR Mul64_n12
noncomputable def Mul64_n15 : Code := cL Mul64_n14
noncomputable def Mul64_n16 : Code := cR Mul64_n14
noncomputable def Mul64_n17 : Code := cL Mul64_n16
noncomputable def Mul64_n18 : Code := cR Mul64_n16
noncomputable def Mul64_n19 : Code := cL Mul64_n18
noncomputable def Mul64_n20 : Code := cR Mul64_n18
noncomputable def Mul64_n21 : Code := cL Mul64_n20
noncomputable def Mul64_n22 : Code := cR Mul64_n20
noncomputable def Mul64_n23 : Code := cL Mul64_n22
noncomputable def Mul64_n24 : Code := cR Mul64_n22
set_option maxRecDepth 10000 in
theorem Mul64_q {w : World} {M : Hp} {X : Fr} (y : Nat) (hy : y < 4294967296) (S : SH w M X []) : Cq Try.prog 114 [.int .u64 ((1 : Nat) : Int), .int .u64 ((y : Nat) : Int)] w M X (fun u => u = .tuple [.int .u64 ((0 : Nat) : Int), .int .u64 ((y : Nat) : Int)].toArray) := by
 unfold Cq
 refine calls_in (b := Mul64_n0) Try.func114 rfl Try.ntmps114 rfl (fun C hC => ?_)
 refine ws_sub [(0, _), (1, _)] ⟨rfl, rfl, trivial⟩ ?_
 refine ws_seqN Mul64_n1 Mul64_n2 rfl rfl rfl ?_
 refine ws_region rfl ?_
 refine wla 0 1 rfl rfl rfl rfl rfl rfl rfl ?_
 refine wla 1 2 rfl rfl rfl rfl rfl rfl rfl ?_
 refine wl_end rfl ?_
 refine nm_sub [(0, _), (1, _)] ⟨rfl, rfl, trivial⟩ ?_
 refine nm_thn ?_
 refine ws_seqN Mul64_n3 Mul64_n4 rfl rfl rfl ?_
 refine ws_region rfl ?_
 refine wlm 0 1 rfl rfl rfl rfl rfl rfl rfl ?_
 refine wlo 1 2 rfl rfl rfl (wo_run rfl rfl (run_maskU (s := 1) rfl rfl rfl (by first | omega | (simp only [lens]; omega))) ?_)
 refine wla 2 3 rfl rfl rfl rfl rfl rfl rfl ?_
 refine wl_end rfl ?_
 refine nm_sub [(0, _), (1, _), (6, _)] ⟨rfl, rfl, rfl, trivial⟩ ?_
 refine nm_thn ?_
 refine ws_seqN Mul64_n5 Mul64_n6 rfl rfl rfl ?_
 refine ws_region rfl ?_
 refine wlm 0 1 rfl rfl rfl rfl rfl rfl rfl ?_
 refine wlo 1 2 rfl rfl rfl (wo_run rfl rfl (run_shrU (s := 1) rfl rfl rfl (by first | omega | (simp only [lens]; omega))) ?_)
 refine wla 2 3 rfl rfl rfl rfl rfl rfl rfl ?_
 refine wl_end rfl ?_
 refine nm_sub [(0, _), (1, _), (6, _), (7, _)] ⟨rfl, rfl, rfl, rfl, trivial⟩ ?_
 refine nm_thn ?_
 refine ws_seqN Mul64_n7 Mul64_n8 rfl rfl rfl ?_
 refine ws_region rfl ?_
 refine wlm 0 1 rfl rfl rfl rfl rfl rfl rfl ?_
 refine wlo 1 2 rfl rfl rfl (wo_run rfl rfl (run_maskU (s := y) rfl rfl rfl (by first | omega | (simp only [lens]; omega))) ?_)
 refine wla 2 3 rfl rfl rfl rfl rfl rfl rfl ?_
 refine wl_end rfl ?_
 refine nm_sub [(0, _), (1, _), (6, _), (7, _), (8, _)] ⟨rfl, rfl, rfl, rfl, rfl, trivial⟩ ?_
 refine nm_thn ?_
 refine ws_seqN Mul64_n9 Mul64_n10 rfl rfl rfl ?_
 refine ws_region rfl ?_
 refine wlm 0 1 rfl rfl rfl rfl rfl rfl rfl ?_
 refine wlo 1 2 rfl rfl rfl (wo_run rfl rfl (run_shrU (s := y) rfl rfl rfl (by first | omega | (simp only [lens]; omega))) ?_)
 refine wla 2 3 rfl rfl rfl rfl rfl rfl rfl ?_
 refine wl_end rfl ?_
 refine nm_sub [(0, _), (1, _), (6, _), (7, _), (8, _), (9, _)] ⟨rfl, rfl, rfl, rfl, rfl, rfl, trivial⟩ ?_
 refine nm_thn ?_
 refine ws_seqN Mul64_n11 Mul64_n12 rfl rfl rfl ?_
 refine ws_region rfl ?_
 refine wlm 0 1 rfl rfl rfl rfl rfl rfl rfl ?_
 refine wlm 1 2 rfl rfl rfl rfl rfl rfl rfl ?_
 refine wlo 2 3 rfl rfl rfl (wo_run rfl rfl (run_mulU (p := 1) (q := y) rfl rfl rfl (by first | omega | (simp only [lens]; omega))) ?_)
 refine wla 3 4 rfl rfl rfl rfl rfl rfl rfl ?_
 refine wl_end rfl ?_
 refine nm_sub [(0, _), (1, _), (6, _), (7, _), (8, _), (9, _), (10, _)] ⟨rfl, rfl, rfl, rfl, rfl, rfl, rfl, trivial⟩ ?_
 refine nm_thn ?_
 refine ws_seqN Mul64_n13 Mul64_n14 rfl rfl rfl ?_
 refine ws_region rfl ?_
 refine wlm 0 1 rfl rfl rfl rfl rfl rfl rfl ?_
 refine wlm 1 2 rfl rfl rfl rfl rfl rfl rfl ?_
 refine wlo 2 3 rfl rfl rfl (wo_run rfl rfl (run_mulU (p := 0) (q := y) rfl rfl rfl (by first | omega | (simp only [lens]; omega))) ?_)
 refine wlm 3 4 rfl rfl rfl rfl rfl rfl rfl ?_
 refine wlo 4 5 rfl rfl rfl (wo_run rfl rfl (run_shrU (s := (1 * y)) rfl rfl rfl (by first | omega | (simp only [lens]; omega))) ?_)
 refine wlo 5 6 rfl rfl rfl (wo_run rfl rfl (run_addU (p := (0 * y)) (q := 0) rfl rfl rfl (by first | omega | (simp only [lens]; omega))) ?_)
 refine wla 6 7 rfl rfl rfl rfl rfl rfl rfl ?_
 refine wl_end rfl ?_
 refine nm_sub [(0, _), (1, _), (6, _), (7, _), (9, _), (11, _)] ⟨rfl, rfl, rfl, rfl, rfl, rfl, trivial⟩ ?_
 refine nm_thn ?_
 refine ws_seqN Mul64_n15 Mul64_n16 rfl rfl rfl ?_
 refine ws_region rfl ?_
 refine wlm 0 1 rfl rfl rfl rfl rfl rfl rfl ?_
 refine wlo 1 2 rfl rfl rfl (wo_run rfl rfl (run_maskU (s := (0 * y + 0)) rfl rfl rfl (by first | omega | (simp only [lens]; omega))) ?_)
 refine wla 2 3 rfl rfl rfl rfl rfl rfl rfl ?_
 refine wl_end rfl ?_
 refine nm_sub [(0, _), (1, _), (6, _), (7, _), (9, _), (11, _), (12, _)] ⟨rfl, rfl, rfl, rfl, rfl, rfl, rfl, trivial⟩ ?_
 refine nm_thn ?_
 refine ws_seqN Mul64_n17 Mul64_n18 rfl rfl rfl ?_
 refine ws_region rfl ?_
 refine wlm 0 1 rfl rfl rfl rfl rfl rfl rfl ?_
 refine wlo 1 2 rfl rfl rfl (wo_run rfl rfl (run_shrU (s := (0 * y + 0)) rfl rfl rfl (by first | omega | (simp only [lens]; omega))) ?_)
 refine wla 2 3 rfl rfl rfl rfl rfl rfl rfl ?_
 refine wl_end rfl ?_
 refine nm_sub [(0, _), (1, _), (6, _), (7, _), (9, _), (12, _), (13, _)] ⟨rfl, rfl, rfl, rfl, rfl, rfl, rfl, trivial⟩ ?_
 refine nm_thn ?_
 refine ws_seqN Mul64_n19 Mul64_n20 rfl rfl rfl ?_
 refine ws_region rfl ?_
 refine wlm 0 1 rfl rfl rfl rfl rfl rfl rfl ?_
 refine wlm 1 2 rfl rfl rfl rfl rfl rfl rfl ?_
 refine wlm 2 3 rfl rfl rfl rfl rfl rfl rfl ?_
 refine wlo 3 4 rfl rfl rfl (wo_run rfl rfl (run_mulU (p := 1) (q := 0) rfl rfl rfl (by first | omega | (simp only [lens]; omega))) ?_)
 refine wlo 4 5 rfl rfl rfl (wo_run rfl rfl (run_addU (p := (0 * y + 0)) (q := (1 * 0)) rfl rfl rfl (by first | omega | (simp only [lens]; omega))) ?_)
 refine wla 5 6 rfl rfl rfl rfl rfl rfl rfl ?_
 refine wl_end rfl ?_
 refine nm_sub [(0, _), (1, _), (7, _), (9, _), (12, _), (13, _)] ⟨rfl, rfl, rfl, rfl, rfl, rfl, trivial⟩ ?_
 refine nm_thn ?_
 refine ws_seqN Mul64_n21 Mul64_n22 rfl rfl rfl ?_
 refine ws_region rfl ?_
 refine wlm 0 1 rfl rfl rfl rfl rfl rfl rfl ?_
 refine wlm 1 2 rfl rfl rfl rfl rfl rfl rfl ?_
 refine wlo 2 3 rfl rfl rfl (wo_run rfl rfl (run_mulU (p := 0) (q := 0) rfl rfl rfl (by first | omega | (simp only [lens]; omega))) ?_)
 refine wlm 3 4 rfl rfl rfl rfl rfl rfl rfl ?_
 refine wlo 4 5 rfl rfl rfl (wo_run rfl rfl (run_addU (p := (0 * 0)) (q := 0) rfl rfl rfl (by first | omega | (simp only [lens]; omega))) ?_)
 refine wlm 5 6 rfl rfl rfl rfl rfl rfl rfl ?_
 refine wlo 6 7 rfl rfl rfl (wo_run rfl rfl (run_shrU (s := (0 * y + 0 + 1 * 0)) rfl rfl rfl (by first | omega | (simp only [lens]; omega))) ?_)
 refine wlo 7 8 rfl rfl rfl (wo_run rfl rfl (run_addU (p := (0 * 0 + 0)) (q := 0) rfl rfl rfl (by first | omega | (simp only [lens]; omega))) ?_)
 refine wla 8 9 rfl rfl rfl rfl rfl rfl rfl ?_
 refine wl_end rfl ?_
 refine nm_sub [(0, _), (1, _), (4, _)] ⟨rfl, rfl, rfl, trivial⟩ ?_
 refine nm_thn ?_
 refine ws_seqN Mul64_n23 Mul64_n24 rfl rfl rfl ?_
 refine ws_region rfl ?_
 refine wlm 0 1 rfl rfl rfl rfl rfl rfl rfl ?_
 refine wlm 1 2 rfl rfl rfl rfl rfl rfl rfl ?_
 refine wlo 2 3 rfl rfl rfl (wo_run rfl rfl (run_mulU (p := 1) (q := y) rfl rfl rfl (by first | omega | (simp only [lens]; omega))) ?_)
 refine wla 3 4 rfl rfl rfl rfl rfl rfl rfl ?_
 refine wl_end rfl ?_
 refine nm_sub [(4, _), (5, _)] ⟨rfl, rfl, trivial⟩ ?_
 refine nm_thn ?_
 refine ws_ret hC [_, _] rfl rfl ⟨rfl, rfl, trivial⟩ ?_
 exact ⟨_, rfl, (S.pick [] [] (by decide) trivial), (by simp; rfl)⟩
noncomputable def Mul_n0 : Code := Try.f91.body.getD .skip
noncomputable def Mul_n1 : Code := cL Mul_n0
noncomputable def Mul_n2 : Code := cR Mul_n0
noncomputable def Mul_n3 : Code := cL Mul_n2
noncomputable def Mul_n4 : Code := cR Mul_n2
noncomputable def Mul_n6 : Code := cR Mul_n3
noncomputable def Mul_n7 : Code := cL Mul_n4
noncomputable def Mul_n8 : Code := cR Mul_n4
noncomputable def Mul_n9 : Code := cL Mul_n8
noncomputable def Mul_n10 : Code := cR Mul_n8
set_option maxRecDepth 10000 in
theorem Mul_q {w : World} {M : Hp} {X : Fr} (y : Nat) (hy : y < 4294967296) (S : SH w M X []) : Cq Try.prog 91 [.int .u64 ((1 : Nat) : Int), .int .u64 ((y : Nat) : Int)] w M X (fun u => u = .tuple [.int .u64 ((0 : Nat) : Int), .int .u64 ((y : Nat) : Int)].toArray) := by
 unfold Cq
 refine calls_in (b := Mul_n0) Try.func91 rfl Try.ntmps91 rfl (fun C hC => ?_)
 refine ws_sub [(0, _), (1, _)] ⟨rfl, rfl, trivial⟩ ?_
 refine ws_seqN Mul_n1 Mul_n2 rfl rfl rfl ?_
 refine ws_region rfl ?_
 refine wla 0 1 rfl rfl rfl rfl rfl rfl rfl ?_
 refine wla 1 2 rfl rfl rfl rfl rfl rfl rfl ?_
 refine wl_end rfl ?_
 refine nm_sub [(0, _), (1, _)] ⟨rfl, rfl, trivial⟩ ?_
 refine nm_thn ?_
 refine ws_seqN Mul_n3 Mul_n4 rfl rfl rfl ?_
 refine ws_condFN Mul_n6 rfl rfl rfl ?_
 refine ws_skip rfl ?_
 refine nm_thn ?_
 refine ws_seqN Mul_n7 Mul_n8 rfl rfl rfl ?_
 refine ws_region rfl ?_
 refine wlm 0 1 rfl rfl rfl rfl rfl rfl rfl ?_
 refine wlm 1 2 rfl rfl rfl rfl rfl rfl rfl ?_
 refine wlo 2 3 rfl rfl rfl (wo_cq rfl rfl rfl rfl rfl rfl rfl cf114 S (Mul64_q y ((by omega)) S.lend) ?_)
 rintro _ w1 S1 rfl; clear S
 refine wlm 3 4 rfl rfl rfl rfl rfl rfl rfl ?_
 refine wlo 4 5 rfl rfl rfl (wo_run rfl rfl (run_extract rfl rfl rfl) ?_)
 refine wlo 5 6 rfl rfl rfl (wo_run rfl rfl (run_extract rfl rfl rfl) ?_)
 refine wla 6 7 rfl rfl rfl rfl rfl rfl rfl ?_
 refine wla 7 8 rfl rfl rfl rfl rfl rfl rfl ?_
 refine wl_end rfl ?_
 refine nm_sub [(8, _), (9, _)] ⟨rfl, rfl, trivial⟩ ?_
 refine nm_thn ?_
 refine ws_seqN Mul_n9 Mul_n10 rfl rfl rfl ?_
 refine ws_region rfl ?_
 refine wlm 0 1 rfl rfl rfl rfl rfl rfl rfl ?_
 refine wlm 1 2 rfl rfl rfl rfl rfl rfl rfl ?_
 refine wla 2 3 rfl rfl rfl rfl rfl rfl rfl ?_
 refine wla 3 4 rfl rfl rfl rfl rfl rfl rfl ?_
 refine wl_end rfl ?_
 refine nm_sub [(4, _), (5, _)] ⟨rfl, rfl, trivial⟩ ?_
 refine nm_thn ?_
 refine ws_ret hC [_, _] rfl rfl ⟨rfl, rfl, trivial⟩ ?_
 exact ⟨_, rfl, (S1.pick [] [] (by decide) trivial), rfl⟩
noncomputable def Repeat_n0 : Code := Try.f57.body.getD .skip
noncomputable def Repeat_n1 : Code := cL Repeat_n0
noncomputable def Repeat_n2 : Code := cR Repeat_n0
noncomputable def Repeat_n3 : Code := cL Repeat_n2
noncomputable def Repeat_n4 : Code := cR Repeat_n2
noncomputable def Repeat_n5 : Code := cL Repeat_n3
noncomputable def Repeat_n6 : Code := cR Repeat_n3
noncomputable def Repeat_n7 : Code := cL Repeat_n6
noncomputable def Repeat_n8 : Code := cR Repeat_n6
noncomputable def Repeat_n9 : Code := cL Repeat_n4
noncomputable def Repeat_n10 : Code := cR Repeat_n4
noncomputable def Repeat_n11 : Code := cL Repeat_n10
noncomputable def Repeat_n12 : Code := cR Repeat_n10
noncomputable def Repeat_n13 : Code := cL Repeat_n11
noncomputable def Repeat_n14 : Code := cR Repeat_n11
noncomputable def Repeat_n15 : Code := cL Repeat_n14
noncomputable def Repeat_n16 : Code := cR Repeat_n14
noncomputable def Repeat_n17 : Code := cL Repeat_n12
noncomputable def Repeat_n18 : Code := cR Repeat_n12
noncomputable def Repeat_n19 : Code := cL Repeat_n18
noncomputable def Repeat_n20 : Code := cR Repeat_n18
noncomputable def Repeat_n21 : Code := cL Repeat_n20
noncomputable def Repeat_n22 : Code := cR Repeat_n20
noncomputable def Repeat_n23 : Code := cL Repeat_n21
noncomputable def Repeat_n24 : Code := cL Repeat_n23
noncomputable def Repeat_n25 : Code := cL Repeat_n24
noncomputable def Repeat_n26 : Code := cR Repeat_n24
noncomputable def Repeat_n27 : Code := cL Repeat_n25
noncomputable def Repeat_n28 : Code := cR Repeat_n25
noncomputable def Repeat_n29 : Code := cL Repeat_n28
noncomputable def Repeat_n30 : Code := cR Repeat_n28
noncomputable def Repeat_n31 : Code := cL Repeat_n26
noncomputable def Repeat_n32 : Code := cL Repeat_n22
noncomputable def Repeat_n33 : Code := cR Repeat_n22
set_option maxHeartbeats 1000000 in
set_option maxRecDepth 10000 in
theorem Repeat_o {w : World} {M : Hp} {X : Fr} (s : List Int) {sA : Option Addr} {sc : Nat} (m : Nat) (hs : RdA cdInt (M.un X.h) sA sc s) (hs1 : s.length = 1) (hm : m ≤ 20) (S : SH w M X []) : Co Try.prog 57 [.slice sA s.length sc, .int .i64 (m : Int)] w M X (fun u N => N = [Rs.row cdInt u (List.replicate m (ga s 0))]) := by
 unfold Co
 have rmhs : s.length * 8 ≤ 140737488355328 := hs.room
 refine calls_in (b := Repeat_n0) Try.func57 rfl Try.ntmps57 rfl (fun C hC => ?_)
 refine ws_sub [(0, _), (1, _)] ⟨rfl, rfl, trivial⟩ ?_
 refine ws_seqN Repeat_n1 Repeat_n2 rfl rfl rfl ?_
 refine ws_region rfl ?_
 refine wla 0 1 rfl rfl rfl rfl rfl rfl rfl ?_
 refine wl_end rfl ?_
 refine nm_sub [(0, _), (1, _)] ⟨rfl, rfl, trivial⟩ ?_
 refine nm_thn ?_
 refine ws_seqN Repeat_n3 Repeat_n4 rfl rfl rfl ?_
 refine ws_seqN Repeat_n5 Repeat_n6 rfl rfl rfl ?_
 refine ws_region rfl ?_
 refine wlm 0 1 rfl rfl rfl rfl rfl rfl rfl ?_
 refine wlo 1 2 rfl rfl rfl (wo_run rfl rfl (run_lss rfl rfl rfl) ?_)
 refine wl_end rfl ?_
 refine nm_sub [(0, _), (1, _), (10, _)] ⟨rfl, rfl, rfl, trivial⟩ ?_
 refine nm_thn ?_
 refine ws_condN Repeat_n7 Repeat_n8 rfl rfl rfl rfl (fun hb10 => ?_) (fun hb10 => ?_)
 ·replace hb10 := of_decide_eq_true hb10
  exfalso; omega
 ·replace hb10 := of_decide_eq_false hb10
  refine ws_skip rfl ?_
  refine nm_sub [(0, _), (1, _)] ⟨rfl, rfl, trivial⟩ ?_
  refine nm_thn ?_
  refine ws_seqN Repeat_n9 Repeat_n10 rfl rfl rfl ?_
  refine ws_region rfl ?_
  refine wlm 0 1 rfl rfl rfl rfl rfl rfl rfl ?_
  refine wlo 1 2 rfl rfl rfl (wo_run rfl rfl (run_len rfl rfl rfl rfl rfl rfl Try.underlying33) ?_)
  refine wlo 2 3 rfl rfl rfl (wo_run rfl rfl (run_convN (s := s.length) rfl rfl ⟨_, Try.underlying3⟩ Try.underlying151 (by first | omega | (simp only [lens]; omega))) ?_)
  refine wlm 3 4 rfl rfl rfl rfl rfl rfl rfl ?_
  refine wlo 4 5 rfl rfl rfl (wo_run rfl rfl (run_convN (s := m) rfl rfl ⟨_, Try.underlying3⟩ Try.underlying151 (by first | omega | (simp only [lens]; omega))) ?_)
  refine wl_eq 15 (.int .u64 ((1 : Nat) : Int)) rfl (congrArg (Value.int .u64) (by rw [hs1])) ?_
  refine wlo 5 6 rfl rfl rfl (wo_cq rfl rfl rfl rfl rfl rfl rfl cf91 S (Mul_q m ((by omega)) S.lend) ?_)
  rintro _ w1 S1 rfl; clear S
  refine wlm 6 7 rfl rfl rfl rfl rfl rfl rfl ?_
  refine wlo 7 8 rfl rfl rfl (wo_run rfl rfl (run_extract rfl rfl rfl) ?_)
  refine wlo 8 9 rfl rfl rfl (wo_run rfl rfl (run_extract rfl rfl rfl) ?_)
  refine wla 9 10 rfl rfl rfl rfl rfl rfl rfl ?_
  refine wla 10 11 rfl rfl rfl rfl rfl rfl rfl ?_
  refine wl_end rfl ?_
  refine nm_sub [(0, _), (5, _), (6, _)] ⟨rfl, rfl, rfl, trivial⟩ ?_
  refine nm_thn ?_
  refine ws_seqN Repeat_n11 Repeat_n12 rfl rfl rfl ?_
  refine ws_seqN Repeat_n13 Repeat_n14 rfl rfl rfl ?_
  refine ws_region rfl ?_
  refine wlm 0 1 rfl rfl rfl rfl rfl rfl rfl ?_
  refine wlo 1 2 rfl rfl rfl (wo_run rfl rfl (run_gtrU rfl rfl rfl) ?_)
  refine wlm 2 3 rfl rfl rfl rfl rfl rfl rfl ?_
  refine wl_split (t := 23) rfl (fun hg23 => ?_) (fun hg23 => ?_)
  ·replace hg23 := of_decide_eq_true hg23
   exfalso; omega
  ·replace hg23 := of_decide_eq_false hg23
   refine wl_opG (k := 3) (k' := 4) rfl rfl ⟨_, _, _, rfl, rfl, rfl, rfl⟩ rfl (wo_run rfl rfl (run_move rfl rfl) ?_)
   refine wl_opG (k := 4) (k' := 5) rfl rfl ⟨_, _, _, rfl, rfl, rfl, rfl⟩ rfl (wo_run rfl rfl (run_gtrU rfl rfl rfl) ?_)
   refine wlo 5 6 rfl rfl rfl (wo_run rfl rfl (run_pickF rfl rfl rfl) ?_)
   refine wl_end rfl ?_
   refine nm_sub [(0, _), (6, _), (26, _)] ⟨rfl, rfl, rfl, trivial⟩ ?_
   refine nm_thn ?_
   refine ws_condN Repeat_n15 Repeat_n16 rfl rfl rfl rfl (fun hb26 => ?_) (fun hb26 => ?_)
   ·replace hb26 := of_decide_eq_true hb26
    exfalso; omega
   ·replace hb26 := of_decide_eq_false hb26
    refine ws_skip rfl ?_
    refine nm_sub [(0, _), (6, _)] ⟨rfl, rfl, trivial⟩ ?_
    refine nm_thn ?_
    refine ws_seqN Repeat_n17 Repeat_n18 rfl rfl rfl ?_
    refine ws_region rfl ?_
    refine wlm 0 1 rfl rfl rfl rfl rfl rfl rfl ?_
    refine wlo 1 2 rfl rfl rfl (wo_run rfl rfl (run_convI rfl rfl ⟨_, Try.underlying151⟩ Try.underlying3) ?_)
    refine wl_eq 29 (.int .i64 (m : Int)) rfl (int_eq (wr_id (by omega))) ?_
    refine wlo 2 3 rfl rfl rfl (wo_make (C := cdInt) m rfl rfl rfl rfl rfl sl33 (by first | rfl | omega) (by show _ * 8 ≤ _; first | omega | (simp only [lens]; omega)) S1 ?_)
    intro vr1 w2 S2; clear S1
    refine wla 3 4 rfl rfl rfl rfl rfl rfl rfl ?_
    refine wl_end rfl ?_
    refine nm_sub [(0, _), (7, _)] ⟨rfl, rfl, trivial⟩ ?_
    refine nm_thn ?_
    refine ws_seqN Repeat_n19 Repeat_n20 rfl rfl rfl ?_
    refine ws_region rfl ?_
    refine wlm 0 1 rfl rfl rfl rfl rfl rfl rfl ?_
    refine wlm 1 2 rfl rfl rfl rfl rfl rfl rfl ?_
    refine wlo 2 3 rfl rfl rfl (wo_copyM (i := 0) rfl rfl rfl rfl rfl rfl rfl rfl sl33 S2 rfl hs S2.um ?_)
    intro w3 S3; clear S2
    change SH _ _ _ [Rs.row cdInt vr1 (spl (List.replicate m cdInt.z) 0 (s.take (min s.length (List.replicate m cdInt.z).length)))] at S3
    refine wla 3 4 rfl rfl rfl rfl rfl rfl rfl ?_
    refine wl_end rfl ?_
    refine nm_sub [(7, _), (8, _)] ⟨rfl, rfl, trivial⟩ ?_
    refine nm_thn ?_
    refine ws_seqN Repeat_n21 Repeat_n22 rfl rfl rfl ?_
    refine ws_blockN Repeat_n23 0 rfl rfl rfl ?_
    refine ws_loopE (fun mx_ ax_ wx_ => ∃ (n : Nat) (xs : List Int) (vra : Value), mx_ = m - n ∧ Env 48 [(7, vra), (8, .int .i64 (n : Int))] ax_ ∧ SH wx_ M X [Rs.row cdInt vra xs] ∧ (n ≤ m ∧ (n < m → 1 ≤ n)) ∧ xs.length = m ∧ (∀ x, x < n → ga xs x = ga s 0)) rfl ?_ ?_
    ·intro ax_ hax_
     refine ⟨_, ⟨min s.length (List.replicate m (0 : Int)).length, _, _, rfl, hax_.sub ⟨rfl, rfl, trivial⟩, S3.pick [0] [_] (by decide) ⟨rfl, trivial⟩, ?hq1f0, ?hq1f1, ?hq1f2⟩⟩
     case hq1f0 => (rw [hs1, List.length_replicate]; omega)
     case hq1f1 => (rw [spl_len, List.length_replicate])
     case hq1f2 => (intro x hx; rw [hs1, List.length_replicate] at hx; rw [ga_spl (by rw [List.length_take, hs1, List.length_replicate]; omega), if_pos ⟨Nat.zero_le _, by rw [List.length_take, hs1, List.length_replicate]; omega⟩, ga_take _ _ _ (by rw [hs1, List.length_replicate]; omega)]; exact congrArg (ga s) (by omega))
    ·rintro m1 a1 w4 ⟨n, xs, vra, rfl, he1, S4, hn, hxl, hxv⟩
     clear S3
     refine ws_in he1 (c := Repeat_n24) rfl ?_
     clear he1 a1
     refine ws_seqN Repeat_n25 Repeat_n26 rfl rfl rfl ?_
     refine ws_seqN Repeat_n27 Repeat_n28 rfl rfl rfl ?_
     refine ws_region rfl ?_
     refine wlm 0 1 rfl rfl rfl rfl rfl rfl rfl ?_
     refine wlm 1 2 rfl rfl rfl rfl rfl rfl rfl ?_
     refine wlo 2 3 rfl rfl rfl (wo_run rfl rfl (run_lenR (C := cdInt) (i := 0) rfl rfl rfl rfl rfl rfl sl33 S4 rfl) ?_)
     refine wlo 3 4 rfl rfl rfl (wo_run rfl rfl (run_lss rfl rfl rfl) ?_)
     refine wl_end rfl ?_
     refine nm_sub [(7, _), (8, _), (37, _)] ⟨rfl, rfl, rfl, trivial⟩ ?_
     refine nm_thn ?_
     refine ws_condN Repeat_n29 Repeat_n30 rfl rfl rfl rfl (fun hb37 => ?_) (fun hb37 => ?_)
     ·replace hb37 := of_decide_eq_true hb37
      refine ws_skip rfl ?_
      refine nm_sub [(7, _), (8, _)] ⟨rfl, rfl, trivial⟩ ?_
      refine nm_thn ?_
      refine ws_blockN Repeat_n31 1 rfl rfl rfl ?_
      have hal := S4.sl_ (C := cdInt) (i := 0) rfl
      refine ws_draw rfl (by kernel_rfl) S4 10 rfl ?_
      clear S4
      refine wa_takeP (i := 0) (d := 38) 9 rfl (by kernel_rfl) (by kernel_rfl) (by kernel_rfl) rfl rfl rfl (fun w5 => run_move rfl rfl) ?_
      refine wa_takeP (i := 1) (d := 39) 8 rfl (by kernel_rfl) (by kernel_rfl) (by kernel_rfl) rfl rfl rfl (fun w6 => run_move rfl rfl) ?_
      refine wa_takeP (i := 2) (d := 40) 7 rfl (by kernel_rfl) (by kernel_rfl) (by kernel_rfl) rfl rfl rfl (fun w7 => run_move rfl rfl) ?_
      refine wa_take (i := 3) (d := 41) 6 rfl (by kernel_rfl) (by kernel_rfl) (by kernel_rfl) rfl rfl rfl (fun M4 N4 w8 hle5 S8 => .inl (run_aliasD (xs := xs) n rfl rfl rfl sl33 hal (by first | rfl | omega) ((by first | omega | (simp only [lens]; omega))))) ?_
      refine wa_takeP (i := 4) (d := 42) 5 rfl (by kernel_rfl) (by kernel_rfl) (by kernel_rfl) rfl rfl rfl (fun w9 => run_move rfl rfl) ?_
      refine wa_takeP (i := 5) (d := 43) 4 rfl (by kernel_rfl) (by kernel_rfl) (by kernel_rfl) rfl rfl rfl (fun w10 => run_move rfl rfl) ?_
      refine wa_take (i := 6) (d := 44) 3 rfl (by kernel_rfl) (by kernel_rfl) (by kernel_rfl) rfl rfl rfl (fun M7 N7 w11 hle8 S11 => .inl (run_aliasT (xs := xs) n rfl rfl rfl sl33 hal (by first | rfl | omega) ((by first | omega | (simp only [lens]; omega))))) ?_
      refine wa_only (i := 7) 2 rfl (by kernel_rfl) rfl rfl (fun w13 S13 => ?_)
      refine (wo_copyAA (i := 0) rfl rfl rfl rfl rfl rfl rfl rfl sl33 S13 rfl (⟨by omega, by omega⟩) (⟨by omega, by omega⟩) ?_)
      intro w14 S14; clear S13
      change SH _ _ _ [Rs.row cdInt vra (spl xs n ((xs.drop 0).take (min n (xs.length - n))))] at S14
      refine LeftW.turn (by kernel_rfl) S14 ?_; clear S14
      change WA _ _ _ _ _ _ _ _ _ _ _ _ [_]
      refine wa_takeP (i := 8) (d := 46) 1 rfl (by kernel_rfl) (by kernel_rfl) (by kernel_rfl) rfl rfl rfl (fun w15 => run_add rfl rfl rfl (by first | omega | (simp only [lens]; omega))) ?_
      refine wa_takeP (i := 9) (d := 8) 0 rfl (by kernel_rfl) (by kernel_rfl) (by kernel_rfl) rfl rfl rfl (fun w16 => run_assign rfl rfl) ?_
      refine wa_end (by kernel_rfl) (fun w17 S17 => ?_)
      refine nm_blk ?_
      refine nm_lp ?_
      intro ax_ hax_
      refine ⟨_, ?hq2m, ⟨n + min n (xs.length - n), spl xs n ((xs.drop 0).take (min n (xs.length - n))), _, rfl, hax_.sub ⟨rfl, rfl, trivial⟩, S17.pick [0] [_] (by decide) ⟨rfl, trivial⟩, ?hq2f0, ?hq2f1, ?hq2f2⟩⟩
      case hq2f0 => omega
      case hq2f1 => (rw [spl_len]; exact hxl)
      case hq2f2 => (intro x hx; have hl9 : ((xs.drop 0).take (min n (xs.length - n))).length = min n (xs.length - n) := (by rw [List.length_take, List.length_drop]; omega); rw [ga_spl (by omega)]; split; (rw [ga_take _ _ _ (by omega), List.drop_zero]; exact hxv _ (by omega)); exact hxv _ (by omega))
      case hq2m => omega
     ·replace hb37 := of_decide_eq_false hb37
      refine ws_exit rfl rfl ?_
      refine nm_sub [(7, _)] ⟨rfl, trivial⟩ ?_
      refine nm_thn ?_
      refine ws_seqN Repeat_n32 Repeat_n33 rfl rfl rfl ?_
      refine ws_region rfl ?_
      refine wlm 0 1 rfl rfl rfl rfl rfl rfl rfl ?_
      refine wla 1 2 rfl rfl rfl rfl rfl rfl rfl ?_
      refine wl_end rfl ?_
      refine nm_sub [(4, _)] ⟨rfl, trivial⟩ ?_
      refine nm_thn ?_
      refine ws_ret hC [_] rfl rfl ⟨rfl, trivial⟩ ?_
      exact ⟨_, rfl, _, S4.pick [0] [_] (by decide) ⟨rfl, trivial⟩, (congrArg (fun z => [Rs.row cdInt _ z]) (ga_ext (by rw [hxl, List.length_replicate]) (fun x hx => by rw [ga_rep _ _ _ (by omega)]; exact hxv x (by omega))))⟩
end Go.Proofs.Ytefkjfcncpmneaa
namespace Go.Proofs.Ytefkjfcncpmneaa
open Go.ChangeShapes Go.WideShapes Go.ChangeAt Go.RowKit
theorem quE_inv {q : List (List Int)} (h : quE q = 0) : QuF q ∧ QuK q := by
 unfold quE at h
 split at h
 ·rename_i h1
  split at h
  ·rename_i h2; exact ⟨h1, h2⟩
  ·cases h
 ·cases h
/-- What forbids to count the colourings. -/
noncomputable def cE (d : Dg) (q : List (List Int)) : Int := if quE q = 0 then (if errO d = 0 then (if 10 < d.crs.length ∨ 4 < d.loops then 2 else 0) else errO d) else quE q
noncomputable def cN (d : Dg) (q : List (List Int)) : Int := if cE d q = 0 then ((cntT d q [0] * q.length ^ d.loops.toNat : Nat) : Int) else 0
theorem cE_0 {d : Dg} {q : List (List Int)} (h1 : quE q = 0) (h2 : errO d = 0) (h3 : ¬ (10 < d.crs.length ∨ 4 < d.loops)) : cE d q = 0 := by
 unfold cE; rw [if_pos h1, if_pos h2, if_neg h3]
theorem cE_2 {d : Dg} {q : List (List Int)} (h1 : quE q = 0) (h2 : errO d = 0) (h3 : 10 < d.crs.length ∨ 4 < d.loops) : cE d q = 2 := by
 unfold cE; rw [if_pos h1, if_pos h2, if_pos h3]
theorem cE_o {d : Dg} {q : List (List Int)} (h1 : quE q = 0) (h2 : ¬ errO d = 0) : cE d q = errO d := by
 unfold cE; rw [if_pos h1, if_neg h2]
theorem cE_q {d : Dg} {q : List (List Int)} (h1 : ¬ quE q = 0) : cE d q = quE q := by
 unfold cE; rw [if_neg h1]
theorem cN_0 {d : Dg} {q : List (List Int)} (h : ¬ cE d q = 0) : cN d q = 0 := by
 unfold cN; rw [if_neg h]
theorem cN_1 {d : Dg} {q : List (List Int)} (h : cE d q = 0) : cN d q = ((cntT d q [0] * q.length ^ d.loops.toNat : Nat) : Int) := by
 unfold cN; rw [if_pos h]
theorem noneF {d : Dg} {q : List (List Int)} (h : arcsB d = true) : ClF q (rulesD d) (List.replicate (mnyC d) (-1)) := fun h0 i hi => by
 rw [rulesD_len] at hi
 obtain ⟨⟨a1, a2⟩, _⟩ := arc_bds h hi
 have := ovN_lt h a1 a2
 exact absurd (ga_rep _ _ _ (by omega)) (h0 0 (by rw [List.length_replicate]; omega))
theorem noneV {q : List (List Int)} (h : QuF q) (m : Nat) : ColV q (List.replicate m (-1)) := fun i hi => by
 rw [List.length_replicate] at hi
 rw [ga_rep _ _ _ hi]
 have := h.1
 omega
noncomputable def Count_n0 : Code := Try.f23.body.getD .skip
noncomputable def Count_n1 : Code := cL Count_n0
noncomputable def Count_n2 : Code := cR Count_n0
noncomputable def Count_n3 : Code := cL Count_n2
noncomputable def Count_n4 : Code := cR Count_n2
noncomputable def Count_n5 : Code := cL Count_n3
noncomputable def Count_n6 : Code := cR Count_n3
noncomputable def Count_n7 : Code := cL Count_n6
noncomputable def Count_n8 : Code := cR Count_n6
noncomputable def Count_n9 : Code := cL Count_n8
noncomputable def Count_n10 : Code := cR Count_n8
noncomputable def Count_n11 : Code := cL Count_n9
noncomputable def Count_n12 : Code := cR Count_n9
noncomputable def Count_n13 : Code := cL Count_n4
noncomputable def Count_n14 : Code := cR Count_n4
noncomputable def Count_n15 : Code := cL Count_n14
noncomputable def Count_n16 : Code := cR Count_n14
noncomputable def Count_n17 : Code := cL Count_n15
noncomputable def Count_n18 : Code := cL Count_n17
noncomputable def Count_n19 : Code := cR Count_n17
noncomputable def Count_n20 : Code := cL Count_n19
noncomputable def Count_n21 : Code := cR Count_n19
noncomputable def Count_n22 : Code := cL Count_n20
noncomputable def Count_n23 : Code := cR Count_n20
noncomputable def Count_n24 : Code := cL Count_n21
noncomputable def Count_n25 : Code := cR Count_n21
noncomputable def Count_n26 : Code := cL Count_n25
noncomputable def Count_n27 : Code := cR Count_n25
noncomputable def Count_n28 : Code := cL Count_n26
noncomputable def Count_n29 : Code := cR Count_n26
noncomputable def Count_n30 : Code := cL Count_n16
noncomputable def Count_n31 : Code := cR Count_n16
noncomputable def Count_n32 : Code := cL Count_n31
noncomputable def Count_n33 : Code := cR Count_n31
noncomputable def Count_n34 : Code := cL Count_n33
noncomputable def Count_n35 : Code := cR Count_n33
noncomputable def Count_n36 : Code := cL Count_n34
noncomputable def Count_n37 : Code := cR Count_n34
noncomputable def Count_n38 : Code := cL Count_n37
noncomputable def Count_n39 : Code := cL Count_n38
noncomputable def Count_n40 : Code := cL Count_n39
noncomputable def Count_n41 : Code := cR Count_n39
noncomputable def Count_n42 : Code := cL Count_n41
noncomputable def Count_n43 : Code := cR Count_n41
noncomputable def Count_n44 : Code := cL Count_n42
noncomputable def Count_n45 : Code := cR Count_n42
noncomputable def Count_n46 : Code := cL Count_n43
noncomputable def Count_n47 : Code := cR Count_n43
noncomputable def Count_n48 : Code := cL Count_n46
noncomputable def Count_n49 : Code := cL Count_n48
noncomputable def Count_n50 : Code := cR Count_n48
noncomputable def Count_n51 : Code := cL Count_n50
noncomputable def Count_n52 : Code := cR Count_n50
noncomputable def Count_n53 : Code := cL Count_n52
noncomputable def Count_n54 : Code := cR Count_n52
noncomputable def Count_n55 : Code := cL Count_n53
noncomputable def Count_n56 : Code := cR Count_n53
noncomputable def Count_n57 : Code := cL Count_n56
noncomputable def Count_n58 : Code := cR Count_n56
noncomputable def Count_n59 : Code := cL Count_n35
noncomputable def Count_n60 : Code := cR Count_n35
noncomputable def Count_n61 : Code := cL Count_n60
noncomputable def Count_n62 : Code := cR Count_n60
noncomputable def Count_n63 : Code := cL Count_n61
noncomputable def Count_n64 : Code := cR Count_n61
noncomputable def Count_n65 : Code := cL Count_n64
noncomputable def Count_n66 : Code := cL Count_n65
noncomputable def Count_n67 : Code := cL Count_n66
noncomputable def Count_n68 : Code := cR Count_n66
noncomputable def Count_n69 : Code := cL Count_n68
noncomputable def Count_n70 : Code := cR Count_n68
noncomputable def Count_n71 : Code := cL Count_n69
noncomputable def Count_n72 : Code := cR Count_n69
noncomputable def Count_n73 : Code := cL Count_n70
noncomputable def Count_n74 : Code := cR Count_n70
noncomputable def Count_n75 : Code := cL Count_n73
noncomputable def Count_n76 : Code := cL Count_n62
noncomputable def Count_n77 : Code := cR Count_n62
set_option maxHeartbeats 2000000 in
set_option maxRecDepth 10000 in
theorem Count_t {w : World} {M : Hp} {X : Fr} (d : Dg) {dcrsA : Option Addr} {dcrsc : Nat} (q : List (List Int)) {qA : Option Addr} {qc : Nat} {qv : List SlV} (hdcrs : RdA cdCr (M.un X.h) dcrsA dcrsc d.crs) (hq : RdA (cdV 33) (M.un X.h) qA qc qv) (hdq : Rd2 cdInt (M.un X.h) qv q) (S : SH w M X []) : Ct Try.prog 23 [.agg [.slice dcrsA d.crs.length dcrsc, .int .i64 d.loops].toArray, .slice qA qv.length qc] w M X (fun u _ => u = .tuple [.int .i64 (cN d q), .int .i64 (cE d q)].toArray) := by
 unfold Ct
 have rmhdcrs : d.crs.length * 40 ≤ 140737488355328 := hdcrs.room
 have rmhq : qv.length * 24 ≤ 140737488355328 := hq.room
 have hlq := hdq.1
 refine calls_in (b := Count_n0) Try.func23 rfl Try.ntmps23 rfl (fun C hC => ?_)
 refine ws_sub [(0, _), (1, _)] ⟨rfl, rfl, trivial⟩ ?_
 refine ws_seqN Count_n1 Count_n2 rfl rfl rfl ?_
 refine ws_region rfl ?_
 refine wlo 0 1 rfl rfl rfl (wo_box (l := [_, _]) rfl rfl rfl rfl rfl S ?_)
 intro gb1 w1 S1; clear S
 refine wla 1 2 rfl rfl rfl rfl rfl rfl rfl ?_
 refine wla 2 3 rfl rfl rfl rfl rfl rfl rfl ?_
 refine wl_end rfl ?_
 refine nm_sub [(1, _), (2, _)] ⟨rfl, rfl, trivial⟩ ?_
 refine nm_thn ?_
 refine ws_seqN Count_n3 Count_n4 rfl rfl rfl ?_
 refine ws_seqN Count_n5 Count_n6 rfl rfl rfl ?_
 refine ws_region rfl ?_
 refine wlm 0 1 rfl rfl rfl rfl rfl rfl rfl ?_
 refine wlo 1 2 rfl rfl rfl (wo_cq rfl rfl rfl rfl rfl rfl rfl cf53 S1 (quandle_q q (hq.mono S1.un_XH) (hdq.mono S1.un_XH) S1.lend) ?_)
 rintro _ w2 S2 rfl; clear S1
 refine wla 2 3 rfl rfl rfl rfl rfl rfl rfl ?_
 refine wl_end rfl ?_
 refine nm_sub [(1, _), (2, _), (6, _)] ⟨rfl, rfl, rfl, trivial⟩ ?_
 refine nm_thn ?_
 refine ws_seqN Count_n7 Count_n8 rfl rfl rfl ?_
 refine ws_region rfl ?_
 refine wlm 0 1 rfl rfl rfl rfl rfl rfl rfl ?_
 refine wlo 1 2 rfl rfl rfl (wo_run rfl rfl (run_neq rfl rfl rfl) ?_)
 refine wl_end rfl ?_
 refine nm_sub [(1, _), (2, _), (6, _), (19, _)] ⟨rfl, rfl, rfl, rfl, trivial⟩ ?_
 refine nm_thn ?_
 refine ws_condN Count_n9 Count_n10 rfl rfl rfl rfl (fun hb19 => ?_) (fun hb19 => ?_)
 ·replace hb19 := of_decide_eq_true hb19
  refine ws_seqN Count_n11 Count_n12 rfl rfl rfl ?_
  refine ws_region rfl ?_
  refine wlm 0 1 rfl rfl rfl rfl rfl rfl rfl ?_
  refine wla 1 2 rfl rfl rfl rfl rfl rfl rfl ?_
  refine wla 2 3 rfl rfl rfl rfl rfl rfl rfl ?_
  refine wl_end rfl ?_
  refine nm_sub [(4, _), (5, _)] ⟨rfl, rfl, trivial⟩ ?_
  refine nm_thn ?_
  refine ws_ret hC [_, _] rfl rfl ⟨rfl, rfl, trivial⟩ ?_
  refine ⟨_, rfl, _, Hp.le_refl _, (S2.pick [] [] (by decide) trivial), ?_⟩
  rw [cE_q (d := d) (show ¬ quE q = 0 by omega), cN_0 (d := d) (q := q) (by rw [cE_q (show ¬ quE q = 0 by omega)]; omega)]
  rfl
 ·replace hb19 := of_decide_eq_false hb19
  obtain ⟨hQF, hQK⟩ := quE_inv (show quE q = 0 by omega)
  refine ws_skip rfl ?_
  refine nm_sub [(1, _), (2, _)] ⟨rfl, rfl, trivial⟩ ?_
  refine nm_thn ?_
  refine ws_seqN Count_n13 Count_n14 rfl rfl rfl ?_
  refine ws_region rfl ?_
  refine wlo 0 1 rfl rfl rfl (wo_run rfl rfl (run_loadN (us := [_, _]) rfl rfl Try.underlying24 rfl sz24 (S2.boxcs (i := 0) rfl ⟨rfl, rfl, trivial⟩)) ?_)
  refine wlo 1 2 rfl rfl rfl (wo_ct rfl rfl rfl rfl rfl rfl rfl cf54 S2 (Open_t d (hdcrs.mono S2.un_XH) S2.lend) ?_)
  intro vw3 w3 M1 hle1 S3 hRw3; clear S2
  replace hdcrs := hdcrs.mono (Hp.un_mono hle1 S3.mx)
  replace hq := hq.mono (Hp.un_mono hle1 S3.mx)
  replace hdq := hdq.mono (Hp.un_mono hle1 S3.mx)
  rcases hRw3 with ⟨hopn23, rfl⟩ | ⟨hopn23, g1, cA23, iA23, oA23, cc23, ic23, oc23, rfl, hsb23, hsc23, hsi23, hso23⟩
  ·refine wlm 2 3 rfl rfl rfl rfl rfl rfl rfl ?_
   refine wlo 3 4 rfl rfl rfl (wo_run rfl rfl (run_extract rfl rfl rfl) ?_)
   refine wlo 4 5 rfl rfl rfl (wo_run rfl rfl (run_extract rfl rfl rfl) ?_)
   refine wla 5 6 rfl rfl rfl rfl rfl rfl rfl ?_
   refine wla 6 7 rfl rfl rfl rfl rfl rfl rfl ?_
   refine wl_end rfl ?_
   refine nm_sub [(1, _), (7, _), (8, _)] ⟨rfl, rfl, rfl, trivial⟩ ?_
   refine nm_thn ?_
   refine ws_seqN Count_n15 Count_n16 rfl rfl rfl ?_
   refine ws_blockN Count_n17 0 rfl rfl rfl ?_
   refine ws_seqN Count_n18 Count_n19 rfl rfl rfl ?_
   refine ws_region rfl ?_
   refine wlm 0 1 rfl rfl rfl rfl rfl rfl rfl ?_
   refine wlo 1 2 rfl rfl rfl (wo_run rfl rfl (run_neq rfl rfl rfl) ?_)
   refine wla 2 3 rfl rfl rfl rfl rfl rfl rfl ?_
   refine wl_end rfl ?_
   refine nm_sub [(1, _), (7, _), (8, _), (26, _)] ⟨rfl, rfl, rfl, rfl, trivial⟩ ?_
   refine nm_thn ?_
   refine ws_condN Count_n20 Count_n21 rfl rfl rfl rfl (fun hb26 => ?_) (fun hb26 => ?_)
   ·replace hb26 := of_decide_eq_true hb26
    refine ws_seqN Count_n22 Count_n23 rfl rfl rfl ?_
    refine ws_region rfl ?_
    refine wlm 0 1 rfl rfl rfl rfl rfl rfl rfl ?_
    refine wla 1 2 rfl rfl rfl rfl rfl rfl rfl ?_
    refine wla 2 3 rfl rfl rfl rfl rfl rfl rfl ?_
    refine wl_end rfl ?_
    refine nm_sub [(4, _), (5, _)] ⟨rfl, rfl, trivial⟩ ?_
    refine nm_thn ?_
    refine ws_ret hC [_, _] rfl rfl ⟨rfl, rfl, trivial⟩ ?_
    refine ⟨_, rfl, _, hle1, (S3.pick [] [] (by decide) trivial), ?_⟩
    have hq0 : quE q = 0 := by omega
    rw [cE_o (d := d) hq0 hopn23, cN_0 (d := d) (q := q) (by rw [cE_o hq0 hopn23]; exact hopn23)]
    rfl
   ·replace hb26 := of_decide_eq_false hb26
    exfalso; omega
  ·obtain ⟨hmo, hpl⟩ := errO_ok hopn23
   obtain ⟨hn, hab, hlo0, hlo1⟩ := mayO hmo
   refine wlm 2 3 rfl rfl rfl rfl rfl rfl rfl ?_
   refine wlo 3 4 rfl rfl rfl (wo_run rfl rfl (run_extract rfl rfl rfl) ?_)
   refine wlo 4 5 rfl rfl rfl (wo_run rfl rfl (run_extract rfl rfl rfl) ?_)
   refine wla 5 6 rfl rfl rfl rfl rfl rfl rfl ?_
   refine wla 6 7 rfl rfl rfl rfl rfl rfl rfl ?_
   refine wl_end rfl ?_
   refine nm_sub [(1, _), (7, _), (8, _)] ⟨rfl, rfl, rfl, trivial⟩ ?_
   refine nm_thn ?_
   refine ws_seqN Count_n15 Count_n16 rfl rfl rfl ?_
   refine ws_blockN Count_n17 0 rfl rfl rfl ?_
   refine ws_seqN Count_n18 Count_n19 rfl rfl rfl ?_
   refine ws_region rfl ?_
   refine wlm 0 1 rfl rfl rfl rfl rfl rfl rfl ?_
   refine wlo 1 2 rfl rfl rfl (wo_run rfl rfl (run_neq rfl rfl rfl) ?_)
   refine wla 2 3 rfl rfl rfl rfl rfl rfl rfl ?_
   refine wl_end rfl ?_
   refine nm_sub [(1, _), (7, _), (8, _), (26, _)] ⟨rfl, rfl, rfl, rfl, trivial⟩ ?_
   refine nm_thn ?_
   refine ws_condN Count_n20 Count_n21 rfl rfl rfl rfl (fun hb26 => ?_) (fun hb26 => ?_)
   ·replace hb26 := of_decide_eq_true hb26
    exfalso; omega
   ·replace hb26 := of_decide_eq_false hb26
    refine ws_seqN Count_n24 Count_n25 rfl rfl rfl ?_
    refine ws_region rfl ?_
    refine wlm 0 1 rfl rfl rfl rfl rfl rfl rfl ?_
    refine wlo 1 2 rfl rfl rfl (wo_run rfl rfl (run_nilCheck rfl rfl) ?_)
    refine wlo 2 3 rfl rfl rfl (wo_run rfl rfl (run_fieldAddr rfl rfl Try.underlying93 rfl (ce24) (nf24)) ?_)
    refine wlo 3 4 rfl rfl rfl (wo_run rfl rfl (run_fieldAddr rfl rfl Try.underlying24 rfl (ce22) (nf22)) ?_)
    refine wlo 4 5 rfl rfl rfl (wo_run rfl rfl (run_load1 rfl rfl Try.underlying22 rfl (hsb23.cell S3.m rfl)) ?_)
    refine wlo 5 6 rfl rfl rfl (wo_run rfl rfl (run_len rfl rfl rfl rfl rfl rfl Try.underlying22) ?_)
    refine wlo 6 7 rfl rfl rfl (wo_run rfl rfl (run_gtr rfl rfl rfl) ?_)
    refine wlm 7 8 rfl rfl rfl rfl rfl rfl rfl ?_
    refine wl_split (t := 38) rfl (fun hg38 => ?_) (fun hg38 => ?_)
    ·replace hg38 := of_decide_eq_true hg38
     refine wl_no (k := 8) (k' := 9) (d := 39) rfl rfl ⟨_, _, _, rfl, rfl, rfl, rfl⟩ rfl rfl ?_
     refine wl_no (k := 9) (k' := 10) (d := 40) rfl rfl ⟨_, _, _, rfl, rfl, rfl, rfl⟩ rfl rfl ?_
     refine wl_no (k := 10) (k' := 11) (d := 41) rfl rfl ⟨_, _, _, rfl, rfl, rfl, rfl⟩ rfl rfl ?_
     refine wl_no (k := 11) (k' := 12) (d := 42) rfl rfl ⟨_, _, _, rfl, rfl, rfl, rfl⟩ rfl rfl ?_
     refine wl_no (k := 12) (k' := 13) (d := 43) rfl rfl ⟨_, _, _, rfl, rfl, rfl, rfl⟩ rfl rfl ?_
     refine wl_no (k := 13) (k' := 14) (d := 44) rfl rfl ⟨_, _, _, rfl, rfl, rfl, rfl⟩ rfl rfl ?_
     refine wlo 14 15 rfl rfl rfl (wo_run rfl rfl (run_pickT rfl rfl rfl) ?_)
     refine wla 15 16 rfl rfl rfl rfl rfl rfl rfl ?_
     refine wl_end rfl ?_
     refine nm_sub [(1, _), (7, _), (30, _)] ⟨rfl, rfl, rfl, trivial⟩ ?_
     refine nm_thn ?_
     refine ws_condTN Count_n26 rfl rfl rfl ?_
     refine ws_seqN Count_n28 Count_n29 rfl rfl rfl ?_
     refine ws_region rfl ?_
     refine wla 0 1 rfl rfl rfl rfl rfl rfl rfl ?_
     refine wla 1 2 rfl rfl rfl rfl rfl rfl rfl ?_
     refine wl_end rfl ?_
     refine nm_sub [(4, _), (5, _)] ⟨rfl, rfl, trivial⟩ ?_
     refine nm_thn ?_
     refine ws_ret hC [_, _] rfl rfl ⟨rfl, rfl, trivial⟩ ?_
     refine ⟨_, rfl, _, hle1, (S3.pick [] [] (by decide) trivial), ?_⟩
     have hq0 : quE q = 0 := by omega
     have hq2 : cE d q = 2 := cE_2 hq0 hopn23 (by omega)
     rw [hq2, cN_0 (d := d) (q := q) (by rw [hq2]; decide)]
     rfl
    ·replace hg38 := of_decide_eq_false hg38
     refine wl_opG (k := 8) (k' := 9) rfl rfl ⟨_, _, _, rfl, rfl, rfl, rfl⟩ rfl (wo_run rfl rfl (run_move rfl rfl) ?_)
     refine wl_opG (k := 9) (k' := 10) rfl rfl ⟨_, _, _, rfl, rfl, rfl, rfl⟩ rfl (wo_run rfl rfl (run_nilCheck rfl rfl) ?_)
     refine wl_opG (k := 10) (k' := 11) rfl rfl ⟨_, _, _, rfl, rfl, rfl, rfl⟩ rfl (wo_run rfl rfl (run_fieldAddr rfl rfl Try.underlying93 rfl (ce24) (nf24)) ?_)
     refine wl_opG (k := 11) (k' := 12) rfl rfl ⟨_, _, _, rfl, rfl, rfl, rfl⟩ rfl (wo_run rfl rfl (run_fieldAddr rfl rfl Try.underlying24 rfl (ce3) (nf3)) ?_)
     refine wl_opG (k := 12) (k' := 13) rfl rfl ⟨_, _, _, rfl, rfl, rfl, rfl⟩ rfl (wo_run rfl rfl (run_load1 rfl rfl Try.underlying3 rfl (hsb23.cell S3.m rfl)) ?_)
     refine wl_opG (k := 13) (k' := 14) rfl rfl ⟨_, _, _, rfl, rfl, rfl, rfl⟩ rfl (wo_run rfl rfl (run_gtr rfl rfl rfl) ?_)
     refine wlo 14 15 rfl rfl rfl (wo_run rfl rfl (run_pickF rfl rfl rfl) ?_)
     refine wla 15 16 rfl rfl rfl rfl rfl rfl rfl ?_
     refine wl_end rfl ?_
     refine nm_sub [(1, _), (7, _), (30, _)] ⟨rfl, rfl, rfl, trivial⟩ ?_
     refine nm_thn ?_
     refine ws_condN Count_n26 Count_n27 rfl rfl rfl rfl (fun hb30 => ?_) (fun hb30 => ?_)
     ·replace hb30 := of_decide_eq_true hb30
      refine ws_seqN Count_n28 Count_n29 rfl rfl rfl ?_
      refine ws_region rfl ?_
      refine wla 0 1 rfl rfl rfl rfl rfl rfl rfl ?_
      refine wla 1 2 rfl rfl rfl rfl rfl rfl rfl ?_
      refine wl_end rfl ?_
      refine nm_sub [(4, _), (5, _)] ⟨rfl, rfl, trivial⟩ ?_
      refine nm_thn ?_
      refine ws_ret hC [_, _] rfl rfl ⟨rfl, rfl, trivial⟩ ?_
      refine ⟨_, rfl, _, hle1, (S3.pick [] [] (by decide) trivial), ?_⟩
      have hq0 : quE q = 0 := by omega
      have hq2 : cE d q = 2 := cE_2 hq0 hopn23 (by omega)
      rw [hq2, cN_0 (d := d) (q := q) (by rw [hq2]; decide)]
      rfl
     ·replace hb30 := of_decide_eq_false hb30
      refine ws_skip rfl ?_
      refine nm_blk ?_
      refine nm_sub [(1, _), (7, _)] ⟨rfl, rfl, trivial⟩ ?_
      refine nm_thn ?_
      refine ws_seqN Count_n30 Count_n31 rfl rfl rfl ?_
      have h10 : d.crs.length ≤ 10 := by omega
      refine ws_region rfl ?_
      refine wlm 0 1 rfl rfl rfl rfl rfl rfl rfl ?_
      refine wlo 1 2 rfl rfl rfl (wo_ct rfl rfl rfl rfl rfl rfl rfl cf55 S3 (Passes_t d (hsb23.mono (Hp.le_un _ _)) (hsc23.mono (Hp.le_un _ _)) (hsi23.mono (Hp.le_un _ _)) (hso23.mono (Hp.le_un _ _)) hn hab S3.lend) ?_)
      intro vw4 w4 M2 hle2 S4 hRw4; clear S3
      replace hdcrs := hdcrs.mono (Hp.un_mono hle2 S4.mx)
      replace hq := hq.mono (Hp.un_mono hle2 S4.mx)
      replace hdq := hdq.mono (Hp.un_mono hle2 S4.mx)
      replace hsb23 := hsb23.mono hle2
      replace hsc23 := hsc23.mono hle2
      replace hsi23 := hsi23.mono hle2
      replace hso23 := hso23.mono hle2
      obtain ⟨A1, c1, rfl, hr1⟩ := hRw4
      have hovl := oversL_len d
      refine wlm 2 3 rfl rfl rfl rfl rfl rfl rfl ?_
      refine wlo 3 4 rfl rfl rfl (wo_run rfl rfl (run_extract rfl rfl rfl) ?_)
      refine wlo 4 5 rfl rfl rfl (wo_run rfl rfl (run_extract rfl rfl rfl) ?_)
      refine wla 5 6 rfl rfl rfl rfl rfl rfl rfl ?_
      refine wla 6 7 rfl rfl rfl rfl rfl rfl rfl ?_
      refine wl_end rfl ?_
      refine nm_sub [(1, _), (7, _), (9, _), (10, _)] ⟨rfl, rfl, rfl, rfl, trivial⟩ ?_
      refine nm_thn ?_
      refine ws_seqN Count_n32 Count_n33 rfl rfl rfl ?_
      refine ws_eq 10 (.int .i64 ((mnyC d : Nat) : Int)) rfl (int_eq rfl) ?_
      refine ws_region rfl ?_
      refine wlm 0 1 rfl rfl rfl rfl rfl rfl rfl ?_
      refine wlo 1 2 rfl rfl rfl (wo_run rfl rfl (run_build (l := [_, _]) rfl rfl st99 rfl rfl) ?_)
      refine wlo 2 3 rfl rfl rfl (wo_box (l := [_, _]) rfl rfl rfl rfl rfl S4 ?_)
      intro gb2 w5 S5; clear S4
      refine wla 3 4 rfl rfl rfl rfl rfl rfl rfl ?_
      refine wl_end rfl ?_
      refine nm_sub [(1, _), (7, _), (9, _), (10, _), (11, _)] ⟨rfl, rfl, rfl, rfl, rfl, trivial⟩ ?_
      refine nm_thn ?_
      refine ws_seqN Count_n34 Count_n35 rfl rfl rfl ?_
      refine ws_seqN Count_n36 Count_n37 rfl rfl rfl ?_
      refine ws_region rfl ?_
      refine wlm 0 1 rfl rfl rfl rfl rfl rfl rfl ?_
      refine wlo 1 2 rfl rfl rfl (wo_run rfl rfl (run_nilCheck rfl rfl) ?_)
      refine wlo 2 3 rfl rfl rfl (wo_run rfl rfl (run_fieldAddr rfl rfl Try.underlying93 rfl (ce24) (nf24)) ?_)
      refine wlo 3 4 rfl rfl rfl (wo_run rfl rfl (run_fieldAddr rfl rfl Try.underlying24 rfl (ce22) (nf22)) ?_)
      refine wlo 4 5 rfl rfl rfl (wo_run rfl rfl (run_load1 rfl rfl Try.underlying22 rfl (hsb23.cell S5.m rfl)) ?_)
      refine wlo 5 6 rfl rfl rfl (wo_run rfl rfl (run_len rfl rfl rfl rfl rfl rfl Try.underlying22) ?_)
      refine wlm 6 7 rfl rfl rfl rfl rfl rfl rfl ?_
      refine wl_end rfl ?_
      refine nm_sub [(1, _), (7, _), (9, _), (10, _), (11, _), (58, _), (59, _), (60, _)] ⟨rfl, rfl, rfl, rfl, rfl, rfl, rfl, rfl, trivial⟩ ?_
      refine nm_thn ?_
      refine ws_blockN Count_n38 1 rfl rfl rfl ?_
      have S6 := S5.nilrow cdRl; clear S5
      refine ws_loopE (fun mx_ ax_ wx_ => ∃ (i : Nat) (rs : List Rl) (vrr : Value), mx_ = d.crs.length - i ∧ Env 118 [(1, .slice qA qv.length qc), (7, .pointer (some ⟨g1, 0, none⟩)), (9, .slice A1 (oversL d).length c1), (10, .int .i64 ((mnyC d : Nat) : Int)), (11, .pointer (some ⟨gb2, 0, none⟩)), (58, .slice cA23 d.crs.length cc23), (59, .int .i64 (d.crs.length : Int)), (60, .int .i64 (i : Int))] ax_ ∧ SH wx_ M2 X [Rs.row cdRl vrr rs, Rs.box gb2 99 [.slice qA qv.length qc, vrr]] ∧ i ≤ d.crs.length ∧ rs = (rulesD d).take i) rfl ?_ ?_
      ·intro ax_ hax_
       refine ⟨_, ⟨0, _, _, rfl, hax_.sub ⟨rfl, rfl, rfl, rfl, rfl, rfl, rfl, rfl, trivial⟩, S6.pick [0, 1] [_, _] (by decide) ⟨rfl, rfl, trivial⟩, ?hq1f0, ?hq1f1⟩⟩
       case hq1f0 => omega
       case hq1f1 => rfl
      ·rintro m1 a1 w6 ⟨i, rs, vrr, rfl, he1, S7, hi, hrs⟩
       clear S6
       refine ws_in he1 (c := Count_n39) rfl ?_
       clear he1 a1
       have hrl : rs.length = i := by rw [hrs, List.length_take, rulesD_len]; omega
       refine ws_seqN Count_n40 Count_n41 rfl rfl rfl ?_
       refine ws_region rfl ?_
       refine wlo 0 1 rfl rfl rfl (wo_run rfl rfl (run_lss rfl rfl rfl) ?_)
       refine wl_end rfl ?_
       refine nm_thn ?_
       refine ws_seqN Count_n42 Count_n43 rfl rfl rfl ?_
       refine ws_condN Count_n44 Count_n45 rfl rfl rfl rfl (fun hb61 => ?_) (fun hb61 => ?_)
       ·replace hb61 := of_decide_eq_true hb61
        refine ws_skip rfl ?_
        refine nm_sub [(1, _), (7, _), (9, _), (10, _), (11, _), (58, _), (59, _), (60, _)] ⟨rfl, rfl, rfl, rfl, rfl, rfl, rfl, rfl, trivial⟩ ?_
        refine nm_thn ?_
        refine ws_seqN Count_n46 Count_n47 rfl rfl rfl ?_
        refine ws_blockN Count_n48 2 rfl rfl rfl ?_
        refine ws_seqN Count_n49 Count_n50 rfl rfl rfl ?_
        refine ws_region rfl ?_
        refine wlo 0 1 rfl rfl rfl (wo_run rfl rfl (run_indexM (C := cdCr) i rfl rfl rfl sl22 (by first | rfl | omega) hsc23 (by first | omega | (simp only [lens]; omega))) ?_)
        refine wlo 1 2 rfl rfl rfl (wo_run rfl rfl (run_loadN (us := [_, _, _, _, _]) rfl rfl Try.underlying59 rfl sz59 (hsc23.cellsAt S7.m (e := i) (by first | omega | (simp only [lens]; omega)) (j := 0) ⟨rfl, rfl, rfl, rfl, rfl, trivial⟩)) ?_)
        refine wlo 2 3 rfl rfl rfl (wo_alloc (l := [_, _, _, _, _]) rfl rfl rfl zr59 rfl S7 ?_)
        intro gb3 w7 S8; clear S7
        refine wlo 3 4 rfl rfl rfl (wo_storeB (i := 0) (us := [_, _, _, _, _]) (l' := [_, _, _, _, _]) (H' := [_, _, _]) rfl rfl S8 rfl rfl rfl rfl sz59 rfl rfl rfl rfl ?_)
        intro w8 S9; clear S8
        refine wl_end rfl ?_
        refine nm_sub [(1, _), (7, _), (9, _), (10, _), (11, _), (58, _), (59, _), (60, _), (13, _)] ⟨rfl, rfl, rfl, rfl, rfl, rfl, rfl, rfl, rfl, trivial⟩ ?_
        refine nm_thn ?_
        refine ws_seqN Count_n51 Count_n52 rfl rfl rfl ?_
        have hsd0 : 1 ≤ (ga d.crs i).a ∧ (ga d.crs i).a ≤ 2 * (d.crs.length : Int) := arcAt_bd hab (show i < d.crs.length by omega) (k := 0) (by omega)
        have hsd1 : 1 ≤ (ga d.crs i).b ∧ (ga d.crs i).b ≤ 2 * (d.crs.length : Int) := arcAt_bd hab (show i < d.crs.length by omega) (k := 1) (by omega)
        have hsd2 : 1 ≤ (ga d.crs i).c ∧ (ga d.crs i).c ≤ 2 * (d.crs.length : Int) := arcAt_bd hab (show i < d.crs.length by omega) (k := 2) (by omega)
        refine ws_draw rfl (by kernel_rfl) S9 18 rfl ?_
        clear S9
        refine wa_takeP (i := 0) (d := 64) 17 rfl (by kernel_rfl) (by kernel_rfl) (by kernel_rfl) rfl rfl rfl (fun w9 => run_move rfl rfl) ?_
        refine wa_takeP (i := 1) (d := 65) 16 rfl (by kernel_rfl) (by kernel_rfl) (by kernel_rfl) rfl rfl rfl (fun w10 => run_fieldAddr rfl rfl Try.underlying59 rfl (ce3) (nf3)) ?_
        refine wa_take (i := 2) (d := 66) 15 rfl (by kernel_rfl) (by kernel_rfl) (by kernel_rfl) rfl rfl rfl (fun M5 N3 w11 hle6 S12 => .inl (run_load1 rfl rfl Try.underlying3 rfl (S12.suf.boxc (i := 0) rfl rfl))) ?_
        refine wa_take (i := 3) (d := 67) 14 rfl (by kernel_rfl) (by kernel_rfl) (by kernel_rfl) rfl rfl rfl (fun M6 N4 w12 hle7 S13 => .inl (run_indexM (C := cdInt) (((ga d.crs i).a).toNat) rfl rfl rfl sl33 (by first | rfl | omega) (hr1.mono hle7) (by first | omega | (simp only [lens]; omega)))) ?_
        refine wa_take (i := 4) (d := 68) 13 rfl (by kernel_rfl) (by kernel_rfl) (by kernel_rfl) rfl rfl rfl (fun M7 N5 w13 hle8 S14 => .inl (run_load1 rfl rfl Try.underlying3 rfl ((hr1.mono hle8).cell S14.m (i := ((ga d.crs i).a).toNat) (by first | omega | (simp only [lens]; omega)) 0 rfl rfl))) ?_
        refine wa_takeP (i := 5) (d := 69) 12 rfl (by kernel_rfl) (by kernel_rfl) (by kernel_rfl) rfl rfl rfl (fun w14 => run_move rfl rfl) ?_
        refine wa_takeP (i := 6) (d := 70) 11 rfl (by kernel_rfl) (by kernel_rfl) (by kernel_rfl) rfl rfl rfl (fun w15 => run_fieldAddr rfl rfl Try.underlying59 rfl (ce3) (nf3)) ?_
        refine wa_take (i := 7) (d := 71) 10 rfl (by kernel_rfl) (by kernel_rfl) (by kernel_rfl) rfl rfl rfl (fun M10 N8 w16 hle11 S17 => .inl (run_load1 rfl rfl Try.underlying3 rfl (S17.suf.boxc (i := 0) rfl rfl))) ?_
        refine wa_take (i := 8) (d := 72) 9 rfl (by kernel_rfl) (by kernel_rfl) (by kernel_rfl) rfl rfl rfl (fun M11 N9 w17 hle12 S18 => .inl (run_indexM (C := cdInt) (((ga d.crs i).b).toNat) rfl rfl rfl sl33 (by first | rfl | omega) (hr1.mono hle12) (by first | omega | (simp only [lens]; omega)))) ?_
        refine wa_take (i := 9) (d := 73) 8 rfl (by kernel_rfl) (by kernel_rfl) (by kernel_rfl) rfl rfl rfl (fun M12 N10 w18 hle13 S19 => .inl (run_load1 rfl rfl Try.underlying3 rfl ((hr1.mono hle13).cell S19.m (i := ((ga d.crs i).b).toNat) (by first | omega | (simp only [lens]; omega)) 0 rfl rfl))) ?_
        refine wa_takeP (i := 10) (d := 74) 7 rfl (by kernel_rfl) (by kernel_rfl) (by kernel_rfl) rfl rfl rfl (fun w19 => run_move rfl rfl) ?_
        refine wa_takeP (i := 11) (d := 75) 6 rfl (by kernel_rfl) (by kernel_rfl) (by kernel_rfl) rfl rfl rfl (fun w20 => run_fieldAddr rfl rfl Try.underlying59 rfl (ce3) (nf3)) ?_
        refine wa_take (i := 12) (d := 76) 5 rfl (by kernel_rfl) (by kernel_rfl) (by kernel_rfl) rfl rfl rfl (fun M15 N13 w21 hle16 S22 => .inl (run_load1 rfl rfl Try.underlying3 rfl (S22.suf.boxc (i := 0) rfl rfl))) ?_
        refine wa_take (i := 13) (d := 77) 4 rfl (by kernel_rfl) (by kernel_rfl) (by kernel_rfl) rfl rfl rfl (fun M16 N14 w22 hle17 S23 => .inl (run_indexM (C := cdInt) (((ga d.crs i).c).toNat) rfl rfl rfl sl33 (by first | rfl | omega) (hr1.mono hle17) (by first | omega | (simp only [lens]; omega)))) ?_
        refine wa_take (i := 14) (d := 78) 3 rfl (by kernel_rfl) (by kernel_rfl) (by kernel_rfl) rfl rfl rfl (fun M17 N15 w23 hle18 S24 => .inl (run_load1 rfl rfl Try.underlying3 rfl ((hr1.mono hle18).cell S24.m (i := ((ga d.crs i).c).toNat) (by first | omega | (simp only [lens]; omega)) 0 rfl rfl))) ?_
        refine wa_take (i := 15) (d := 79) 2 rfl (by kernel_rfl) (by kernel_rfl) (by kernel_rfl) rfl rfl rfl (fun M18 N16 w24 hle19 S25 => .inl (run_build (l := [_, _, _]) rfl rfl st101 rfl rfl)) ?_
        refine wa_only (i := 16) 1 rfl (by kernel_rfl) rfl rfl (fun w26 S27 => ?_)
        refine (wo_alloc (l := [_, _, _]) rfl rfl rfl zr101 rfl S27 ?_)
        intro gb4 w27 S28; clear S27
        refine LeftW.grow [_] (Hp.le_refl _) S28 ?_; clear S28
        change WA _ _ _ _ _ _ _ _ _ _ _ _ [_, _, _, _]
        refine wa_only (i := 17) 0 rfl (by kernel_rfl) rfl rfl (fun w29 S30 => ?_)
        refine (wo_storeB (i := 0) (us := [_, _, _]) (l' := [_, _, _]) (H' := [_, _, _, _]) rfl rfl S30 rfl rfl rfl rfl sz101 rfl rfl rfl rfl ?_)
        intro w30 S31; clear S30
        refine LeftW.grow [_] (Hp.le_refl _) S31 ?_; clear S31
        change WA _ _ _ _ _ _ _ _ _ _ _ _ [_, _, _, _]
        refine wa_end (by kernel_rfl) (fun w31 S32 => ?_)
        refine nm_sub [(1, _), (7, _), (9, _), (10, _), (11, _), (58, _), (59, _), (60, _), (13, _), (14, _)] ⟨rfl, rfl, rfl, rfl, rfl, rfl, rfl, rfl, rfl, rfl, trivial⟩ ?_
        refine nm_thn ?_
        refine ws_seqN Count_n53 Count_n54 rfl rfl rfl ?_
        refine ws_seqN Count_n55 Count_n56 rfl rfl rfl ?_
        refine ws_region rfl ?_
        refine wlo 0 1 rfl rfl rfl (wo_run rfl rfl (run_fieldAddr rfl rfl Try.underlying59 rfl (ce4) (nf4)) ?_)
        refine wlo 1 2 rfl rfl rfl (wo_run rfl rfl (run_load1 rfl rfl Try.underlying4 rfl (S32.boxc (i := 1) rfl rfl)) ?_)
        refine wlo 2 3 rfl rfl rfl (wo_run rfl rfl (run_not rfl rfl) ?_)
        refine wl_end rfl ?_
        refine nm_sub [(1, _), (7, _), (9, _), (10, _), (11, _), (58, _), (59, _), (60, _), (14, _), (82, _)] ⟨rfl, rfl, rfl, rfl, rfl, rfl, rfl, rfl, rfl, rfl, trivial⟩ ?_
        refine nm_thn ?_
        refine ws_condN Count_n57 Count_n58 rfl rfl rfl rfl (fun hb82 => ?_) (fun hb82 => ?_)
        ·simp only [Bool.and_eq_true, Bool.or_eq_true, Bool.and_eq_false_iff, Bool.or_eq_false_iff, decide_eq_true_eq, decide_eq_false_iff_not, Bool.not_eq_true', Bool.not_eq_false'] at hb82
         refine ws_region rfl ?_
         refine wlo 0 1 rfl rfl rfl (wo_run rfl rfl (run_fieldAddr rfl rfl Try.underlying101 rfl (ce3) (nf3)) ?_)
         refine wlo 1 2 rfl rfl rfl (wo_run rfl rfl (run_load1 rfl rfl Try.underlying3 rfl (S32.boxc (i := 0) rfl rfl)) ?_)
         refine wlo 2 3 rfl rfl rfl (wo_run rfl rfl (run_fieldAddr rfl rfl Try.underlying101 rfl (ce3) (nf3)) ?_)
         refine wlo 3 4 rfl rfl rfl (wo_run rfl rfl (run_load1 rfl rfl Try.underlying3 rfl (S32.boxc (i := 0) rfl rfl)) ?_)
         refine wlo 4 5 rfl rfl rfl (wo_run rfl rfl (run_fieldAddr rfl rfl Try.underlying101 rfl (ce3) (nf3)) ?_)
         refine wlo 5 6 rfl rfl rfl (wo_storeB (i := 0) (us := [_]) (l' := [_, _, _]) (H' := [_, _, _, _]) rfl rfl S32 rfl rfl rfl rfl sz3 rfl rfl rfl rfl ?_)
         intro w32 S33; clear S32
         refine wlo 6 7 rfl rfl rfl (wo_run rfl rfl (run_fieldAddr rfl rfl Try.underlying101 rfl (ce3) (nf3)) ?_)
         refine wlo 7 8 rfl rfl rfl (wo_storeB (i := 0) (us := [_]) (l' := [_, _, _]) (H' := [_, _, _, _]) rfl rfl S33 rfl rfl rfl rfl sz3 rfl rfl rfl rfl ?_)
         intro w33 S34; clear S33
         refine wl_end rfl ?_
         refine nm_sub [(1, _), (7, _), (9, _), (10, _), (11, _), (58, _), (59, _), (60, _), (14, _)] ⟨rfl, rfl, rfl, rfl, rfl, rfl, rfl, rfl, rfl, trivial⟩ ?_
         refine nm_thn ?_
         refine ws_draw rfl (by kernel_rfl) S34 11 rfl ?_
         clear S34
         refine wa_takeP (i := 0) (d := 89) 10 rfl (by kernel_rfl) (by kernel_rfl) (by kernel_rfl) rfl rfl rfl (fun w34 => run_move rfl rfl) ?_
         refine wa_takeP (i := 1) (d := 90) 9 rfl (by kernel_rfl) (by kernel_rfl) (by kernel_rfl) rfl rfl rfl (fun w35 => run_move rfl rfl) ?_
         refine wa_takeP (i := 2) (d := 91) 8 rfl (by kernel_rfl) (by kernel_rfl) (by kernel_rfl) rfl rfl rfl (fun w36 => run_nilCheck rfl rfl) ?_
         refine wa_takeP (i := 3) (d := 92) 7 rfl (by kernel_rfl) (by kernel_rfl) (by kernel_rfl) rfl rfl rfl (fun w37 => run_fieldAddr rfl rfl Try.underlying99 rfl (ce97) (nf97)) ?_
         refine wa_take (i := 4) (d := 93) 6 rfl (by kernel_rfl) (by kernel_rfl) (by kernel_rfl) rfl rfl rfl (fun M25 N23 w38 hle26 S39 => .inl (run_load1 rfl rfl Try.underlying97 rfl (S39.suf.boxc (i := 3) rfl rfl))) ?_
         refine wa_take (i := 5) (d := 94) 5 rfl (by kernel_rfl) (by kernel_rfl) (by kernel_rfl) rfl rfl rfl (fun M26 N24 w39 hle27 S40 => .inl (run_loadN (us := [_, _, _]) rfl rfl Try.underlying101 rfl sz101 (S40.suf.boxcs (i := 0) rfl ⟨rfl, rfl, rfl, trivial⟩))) ?_
         refine wa_only (i := 6) 4 rfl (by kernel_rfl) rfl rfl (fun w41 S42 => ?_)
         refine (wo_buildSlice1 (C := cdRl) (l := [_, _, _]) rfl rfl rfl rfl sl97 rfl rfl rfl rfl S42 ?_)
         intro gb5 w42 S43; clear S42
         refine LeftW.grow [_] (Hp.le_refl _) S43 ?_; clear S43
         change WA _ _ _ _ _ _ _ _ _ _ _ _ [_, _, _, _, _]
         refine wa_only (i := 7) 3 rfl (by kernel_rfl) rfl rfl (fun w44 S45 => ?_)
         refine (wo_append1 (C := cdRl) (i := 3) (q := 0) (⟨ga (oversL d) (((ga d.crs i).c).toNat), ga (oversL d) (((ga d.crs i).b).toNat), ga (oversL d) (((ga d.crs i).a).toNat)⟩ : Rl) rfl rfl rfl rfl rfl rfl rfl rfl sl97 S45 rfl rfl rfl (by show (_ + 1) * 24 ≤ _; first | omega | (simp only [lens]; omega)) ?_)
         intro vrr1 w45 S46; clear S45
         have S47 := S46.pick [1, 2, 3, 4] [_, _, _, _] (by decide) ⟨rfl, rfl, rfl, rfl, trivial⟩; clear S46
         refine LeftW.turn (by kernel_rfl) S47 ?_; clear S47
         change WA _ _ _ _ _ _ _ _ _ _ _ _ [_, _, _, _]
         refine wa_takeP (i := 8) (d := 97) 2 rfl (by kernel_rfl) (by kernel_rfl) (by kernel_rfl) rfl rfl rfl (fun w46 => run_nilCheck rfl rfl) ?_
         refine wa_takeP (i := 9) (d := 98) 1 rfl (by kernel_rfl) (by kernel_rfl) (by kernel_rfl) rfl rfl rfl (fun w47 => run_fieldAddr rfl rfl Try.underlying99 rfl (ce97) (nf97)) ?_
         refine wa_only (i := 10) 0 rfl (by kernel_rfl) rfl rfl (fun w49 S51 => ?_)
         refine (wo_storeB (i := 3) (us := [_]) (l' := [_, _]) (H' := [_, _, _, _]) rfl rfl S51 rfl rfl rfl (S51.cells1 (i := 2) rfl) sz97 rfl (ones_cons (S51.one (i := 2) rfl) rfl) rfl rfl ?_)
         intro w50 S52; clear S51
         refine LeftW.turn (by kernel_rfl) S52 ?_; clear S52
         change WA _ _ _ _ _ _ _ _ _ _ _ _ [_, _, _, _]
         refine wa_end (by kernel_rfl) (fun w51 S53 => ?_)
         refine nm_blk ?_
         refine nm_sub [(1, _), (7, _), (9, _), (10, _), (11, _), (58, _), (59, _), (60, _)] ⟨rfl, rfl, rfl, rfl, rfl, rfl, rfl, rfl, trivial⟩ ?_
         refine nm_thn ?_
         refine ws_region rfl ?_
         refine wlo 0 1 rfl rfl rfl (wo_run rfl rfl (run_add rfl rfl rfl (by first | omega | (simp only [lens]; omega))) ?_)
         refine wlm 1 2 rfl rfl rfl rfl rfl rfl rfl ?_
         refine wl_end rfl ?_
         refine nm_lp ?_
         intro ax_ hax_
         refine ⟨_, ?hq2m, ⟨i + 1, _, _, rfl, hax_.sub ⟨rfl, rfl, rfl, rfl, rfl, rfl, rfl, rfl, trivial⟩, S53.pick [2, 3] [_, _] (by decide) ⟨rfl, rfl, trivial⟩, ?hq2f0, ?hq2f1⟩⟩
         case hq2f0 => omega
         case hq2f1 => (rw [hrs, take_ga (rulesD d) i (by rw [rulesD_len]; omega), rulesD_ga d (by omega)]; refine congrArg _ ?_; unfold ruC; first | (rw [if_pos (by assumption), oversL_ga d (by omega), oversL_ga d (by omega), oversL_ga d (by omega)]) | (rw [if_neg (by rw [hb82]; decide), oversL_ga d (by omega), oversL_ga d (by omega), oversL_ga d (by omega)]))
         case hq2m => omega
        ·simp only [Bool.and_eq_true, Bool.or_eq_true, Bool.and_eq_false_iff, Bool.or_eq_false_iff, decide_eq_true_eq, decide_eq_false_iff_not, Bool.not_eq_true', Bool.not_eq_false'] at hb82
         refine ws_skip rfl ?_
         refine nm_sub [(1, _), (7, _), (9, _), (10, _), (11, _), (58, _), (59, _), (60, _), (14, _)] ⟨rfl, rfl, rfl, rfl, rfl, rfl, rfl, rfl, rfl, trivial⟩ ?_
         refine nm_thn ?_
         refine ws_draw rfl (by kernel_rfl) S32 11 rfl ?_
         clear S32
         refine wa_takeP (i := 0) (d := 89) 10 rfl (by kernel_rfl) (by kernel_rfl) (by kernel_rfl) rfl rfl rfl (fun w52 => run_move rfl rfl) ?_
         refine wa_takeP (i := 1) (d := 90) 9 rfl (by kernel_rfl) (by kernel_rfl) (by kernel_rfl) rfl rfl rfl (fun w53 => run_move rfl rfl) ?_
         refine wa_takeP (i := 2) (d := 91) 8 rfl (by kernel_rfl) (by kernel_rfl) (by kernel_rfl) rfl rfl rfl (fun w54 => run_nilCheck rfl rfl) ?_
         refine wa_takeP (i := 3) (d := 92) 7 rfl (by kernel_rfl) (by kernel_rfl) (by kernel_rfl) rfl rfl rfl (fun w55 => run_fieldAddr rfl rfl Try.underlying99 rfl (ce97) (nf97)) ?_
         refine wa_take (i := 4) (d := 93) 6 rfl (by kernel_rfl) (by kernel_rfl) (by kernel_rfl) rfl rfl rfl (fun M36 N34 w56 hle37 S58 => .inl (run_load1 rfl rfl Try.underlying97 rfl (S58.suf.boxc (i := 3) rfl rfl))) ?_
         refine wa_take (i := 5) (d := 94) 5 rfl (by kernel_rfl) (by kernel_rfl) (by kernel_rfl) rfl rfl rfl (fun M37 N35 w57 hle38 S59 => .inl (run_loadN (us := [_, _, _]) rfl rfl Try.underlying101 rfl sz101 (S59.suf.boxcs (i := 0) rfl ⟨rfl, rfl, rfl, trivial⟩))) ?_
         refine wa_only (i := 6) 4 rfl (by kernel_rfl) rfl rfl (fun w59 S61 => ?_)
         refine (wo_buildSlice1 (C := cdRl) (l := [_, _, _]) rfl rfl rfl rfl sl97 rfl rfl rfl rfl S61 ?_)
         intro gb6 w60 S62; clear S61
         refine LeftW.grow [_] (Hp.le_refl _) S62 ?_; clear S62
         change WA _ _ _ _ _ _ _ _ _ _ _ _ [_, _, _, _, _]
         refine wa_only (i := 7) 3 rfl (by kernel_rfl) rfl rfl (fun w62 S64 => ?_)
         refine (wo_append1 (C := cdRl) (i := 3) (q := 0) (⟨ga (oversL d) (((ga d.crs i).a).toNat), ga (oversL d) (((ga d.crs i).b).toNat), ga (oversL d) (((ga d.crs i).c).toNat)⟩ : Rl) rfl rfl rfl rfl rfl rfl rfl rfl sl97 S64 rfl rfl rfl (by show (_ + 1) * 24 ≤ _; first | omega | (simp only [lens]; omega)) ?_)
         intro vrr2 w63 S65; clear S64
         have S66 := S65.pick [1, 2, 3, 4] [_, _, _, _] (by decide) ⟨rfl, rfl, rfl, rfl, trivial⟩; clear S65
         refine LeftW.turn (by kernel_rfl) S66 ?_; clear S66
         change WA _ _ _ _ _ _ _ _ _ _ _ _ [_, _, _, _]
         refine wa_takeP (i := 8) (d := 97) 2 rfl (by kernel_rfl) (by kernel_rfl) (by kernel_rfl) rfl rfl rfl (fun w64 => run_nilCheck rfl rfl) ?_
         refine wa_takeP (i := 9) (d := 98) 1 rfl (by kernel_rfl) (by kernel_rfl) (by kernel_rfl) rfl rfl rfl (fun w65 => run_fieldAddr rfl rfl Try.underlying99 rfl (ce97) (nf97)) ?_
         refine wa_only (i := 10) 0 rfl (by kernel_rfl) rfl rfl (fun w67 S70 => ?_)
         refine (wo_storeB (i := 3) (us := [_]) (l' := [_, _]) (H' := [_, _, _, _]) rfl rfl S70 rfl rfl rfl (S70.cells1 (i := 2) rfl) sz97 rfl (ones_cons (S70.one (i := 2) rfl) rfl) rfl rfl ?_)
         intro w68 S71; clear S70
         refine LeftW.turn (by kernel_rfl) S71 ?_; clear S71
         change WA _ _ _ _ _ _ _ _ _ _ _ _ [_, _, _, _]
         refine wa_end (by kernel_rfl) (fun w69 S72 => ?_)
         refine nm_blk ?_
         refine nm_sub [(1, _), (7, _), (9, _), (10, _), (11, _), (58, _), (59, _), (60, _)] ⟨rfl, rfl, rfl, rfl, rfl, rfl, rfl, rfl, trivial⟩ ?_
         refine nm_thn ?_
         refine ws_region rfl ?_
         refine wlo 0 1 rfl rfl rfl (wo_run rfl rfl (run_add rfl rfl rfl (by first | omega | (simp only [lens]; omega))) ?_)
         refine wlm 1 2 rfl rfl rfl rfl rfl rfl rfl ?_
         refine wl_end rfl ?_
         refine nm_lp ?_
         intro ax_ hax_
         refine ⟨_, ?hq3m, ⟨i + 1, _, _, rfl, hax_.sub ⟨rfl, rfl, rfl, rfl, rfl, rfl, rfl, rfl, trivial⟩, S72.pick [2, 3] [_, _] (by decide) ⟨rfl, rfl, trivial⟩, ?hq3f0, ?hq3f1⟩⟩
         case hq3f0 => omega
         case hq3f1 => (rw [hrs, take_ga (rulesD d) i (by rw [rulesD_len]; omega), rulesD_ga d (by omega)]; refine congrArg _ ?_; unfold ruC; first | (rw [if_pos (by assumption), oversL_ga d (by omega), oversL_ga d (by omega), oversL_ga d (by omega)]) | (rw [if_neg (by rw [hb82]; decide), oversL_ga d (by omega), oversL_ga d (by omega), oversL_ga d (by omega)]))
         case hq3m => omega
       ·replace hb61 := of_decide_eq_false hb61
        refine ws_exit rfl rfl ?_
        refine nm_sub [(1, _), (7, _), (10, _), (11, _)] ⟨rfl, rfl, rfl, rfl, trivial⟩ ?_
        refine nm_thn ?_
        refine ws_seqN Count_n59 Count_n60 rfl rfl rfl ?_
        obtain ⟨M43, hle44, S73, ⟨A2, c2, e1, hr2⟩⟩ := S7.pubrow (i := 0) (H' := [_, _]) rfl rfl (by show _ * 24 ≤ _; first | omega | (simp only [lens]; omega))
        clear S7; subst e1
        replace hdcrs := hdcrs.mono (Hp.un_mono hle44 S73.mx)
        replace hq := hq.mono (Hp.un_mono hle44 S73.mx)
        replace hdq := hdq.mono (Hp.un_mono hle44 S73.mx)
        replace hsb23 := hsb23.mono hle44
        replace hsc23 := hsc23.mono hle44
        replace hsi23 := hsi23.mono hle44
        replace hso23 := hso23.mono hle44
        replace hr1 := hr1.mono hle44
        obtain ⟨M44, hle45, S74, hbx1⟩ := S73.pubB (i := 1) (H' := [_, _]) rfl rfl
        clear S73
        replace hdcrs := hdcrs.mono (Hp.un_mono hle45 S74.mx)
        replace hq := hq.mono (Hp.un_mono hle45 S74.mx)
        replace hdq := hdq.mono (Hp.un_mono hle45 S74.mx)
        replace hsb23 := hsb23.mono hle45
        replace hsc23 := hsc23.mono hle45
        replace hsi23 := hsi23.mono hle45
        replace hso23 := hso23.mono hle45
        replace hr1 := hr1.mono hle45
        replace hr2 := hr2.mono hle45
        have hmc := mnyC_le d
        have hie : i = d.crs.length := by omega
        have hrs9 : rs = rulesD d := by rw [hrs, List.take_of_length_le (by rw [rulesD_len]; omega)]
        subst hrs9
        refine ws_region rfl ?_
        refine wlm 0 1 rfl rfl rfl rfl rfl rfl rfl ?_
        refine wlo 1 2 rfl rfl rfl (wo_buildSlice1 (C := cdInt) (l := [_]) rfl rfl rfl rfl sl33 rfl rfl rfl rfl S74 ?_)
        intro gb7 w70 S75; clear S74
        refine wlm 2 3 rfl rfl rfl rfl rfl rfl rfl ?_
        have hr3 := S75.lendBox (C := cdInt) (z := (-1)) (i := 0) rfl rfl (by decide)
        have hcall1 := Repeat_o ([(-1)]) (mnyC d) hr3 (rfl) ((by omega)) S75.lend
        refine wlo 3 4 rfl rfl rfl (wo_co rfl rfl rfl rfl rfl rfl rfl cf57 S75 (hcall1) ?_)
        intro vw71 w71 Nw71 S76 hRw71; clear S75
        obtain rfl := hRw71
        change SH _ _ _ [Rs.row cdInt vw71 (List.replicate (mnyC d) (-1)), _, _, _] at S76
        obtain ⟨A3, c3, e2, hr4⟩ := S76.lendRd (i := 0) rfl (by show _ * 8 ≤ _; first | omega | (simp only [lens]; omega))
        have hcall2 := count_all hQF hQK (nones (List.replicate (mnyC d) (-1)) + 1) (List.replicate (mnyC d) (-1)) (Nat.lt_succ_self _) (by rw [List.length_replicate]; exact rulesD_ok hab) (by rw [List.length_replicate]; omega) (noneV hQF _) (noneF hab) _ _ _ (hbx1.mono (Hp.le_un _ _)) (hq.mono S76.un_XH) (hdq.mono S76.un_XH) (hr2.mono (Hp.le_un _ _)) hr4 S76.lend
        refine wlo 4 5 rfl rfl rfl (wo_cq rfl rfl rfl rfl rfl rfl rfl cf56 S76 (Cq.cast (by simp only [e2]) (hcall2)) ?_)
        rintro _ w72 S77 rfl; clear S76
        refine wla 5 6 rfl rfl rfl rfl rfl rfl rfl ?_
        refine wl_end rfl ?_
        refine nm_sub [(1, _), (7, _), (15, _)] ⟨rfl, rfl, rfl, trivial⟩ ?_
        refine nm_thn ?_
        refine ws_seqN Count_n61 Count_n62 rfl rfl rfl ?_
        refine ws_seqN Count_n63 Count_n64 rfl rfl rfl ?_
        refine ws_eq 15 (.int .i64 ((cntT d q [0] : Nat) : Int)) rfl (int_eq (by rw [counts_eq hQF hab])) ?_
        refine ws_region rfl ?_
        refine wlm 0 1 rfl rfl rfl rfl rfl rfl rfl ?_
        refine wlo 1 2 rfl rfl rfl (wo_run rfl rfl (run_nilCheck rfl rfl) ?_)
        refine wlo 2 3 rfl rfl rfl (wo_run rfl rfl (run_fieldAddr rfl rfl Try.underlying93 rfl (ce24) (nf24)) ?_)
        refine wlo 3 4 rfl rfl rfl (wo_run rfl rfl (run_fieldAddr rfl rfl Try.underlying24 rfl (ce3) (nf3)) ?_)
        refine wlo 4 5 rfl rfl rfl (wo_run rfl rfl (run_load1 rfl rfl Try.underlying3 rfl (hsb23.cell S77.m rfl)) ?_)
        refine wlm 5 6 rfl rfl rfl rfl rfl rfl rfl ?_
        refine wl_end rfl ?_
        refine nm_sub [(1, _), (15, _), (109, _), (110, _)] ⟨rfl, rfl, rfl, rfl, trivial⟩ ?_
        refine nm_thn ?_
        refine ws_blockN Count_n65 3 rfl rfl rfl ?_
        refine ws_loopE (fun mx_ ax_ wx_ => ∃ (j : Nat) (p : Nat), mx_ = d.loops.toNat - j ∧ Env 118 [(1, .slice qA qv.length qc), (15, .int .i64 (p : Int)), (109, .int .i64 d.loops), (110, .int .i64 (j : Int))] ax_ ∧ SH wx_ M44 X [] ∧ (j : Int) ≤ d.loops ∧ p = cntT d q [0] * q.length ^ j) rfl ?_ ?_
        ·intro ax_ hax_
         refine ⟨_, ⟨0, cntT d q [0], rfl, hax_.sub ⟨rfl, rfl, rfl, rfl, trivial⟩, S77.pick [] [] (by decide) trivial, ?hq4f0, ?hq4f1⟩⟩
         case hq4f0 => omega
         case hq4f1 => (rw [Nat.pow_zero, Nat.mul_one])
        ·rintro m2 a2 w73 ⟨j, p, rfl, he2, S78, hj, hpe⟩
         clear S77
         refine ws_in he2 (c := Count_n66) rfl ?_
         clear he2 a2
         have hpb : p ≤ 281474976710656 := by rw [hpe]; exact Nat.mul_le_mul (cntT_bd (p := [0]) hQF h10 (Nat.le_refl 1)) (pow4 hQF.2.1 (by omega))
         have hpm : (p : Int) * (qv.length : Int) ≤ 1125899906842624 := by rw [hlq, ← Int.natCast_mul]; exact Int.ofNat_le.2 (Nat.mul_le_mul hpb hQF.2.1)
         have hpn : 0 ≤ (p : Int) * (qv.length : Int) := by rw [hlq, ← Int.natCast_mul]; exact Int.natCast_nonneg _
         refine ws_seqN Count_n67 Count_n68 rfl rfl rfl ?_
         refine ws_region rfl ?_
         refine wlo 0 1 rfl rfl rfl (wo_run rfl rfl (run_lss rfl rfl rfl) ?_)
         refine wl_end rfl ?_
         refine nm_thn ?_
         refine ws_seqN Count_n69 Count_n70 rfl rfl rfl ?_
         refine ws_condN Count_n71 Count_n72 rfl rfl rfl rfl (fun hb111 => ?_) (fun hb111 => ?_)
         ·replace hb111 := of_decide_eq_true hb111
          refine ws_skip rfl ?_
          refine nm_sub [(1, _), (15, _), (109, _), (110, _)] ⟨rfl, rfl, rfl, rfl, trivial⟩ ?_
          refine nm_thn ?_
          refine ws_seqN Count_n73 Count_n74 rfl rfl rfl ?_
          refine ws_blockN Count_n75 4 rfl rfl rfl ?_
          refine ws_region rfl ?_
          refine wlm 0 1 rfl rfl rfl rfl rfl rfl rfl ?_
          refine wlm 1 2 rfl rfl rfl rfl rfl rfl rfl ?_
          refine wlo 2 3 rfl rfl rfl (wo_run rfl rfl (run_len rfl rfl rfl rfl rfl rfl Try.underlying34) ?_)
          refine wlo 3 4 rfl rfl rfl (wo_run rfl rfl (run_mul rfl rfl rfl (by first | omega | (simp only [lens]; omega))) ?_)
          refine wla 4 5 rfl rfl rfl rfl rfl rfl rfl ?_
          refine wl_end rfl ?_
          refine nm_blk ?_
          refine nm_sub [(1, _), (15, _), (109, _), (110, _)] ⟨rfl, rfl, rfl, rfl, trivial⟩ ?_
          refine nm_thn ?_
          refine ws_eq 15 (.int .i64 ((p * q.length : Nat) : Int)) rfl (int_eq (by rw [Int.natCast_mul, hlq])) ?_
          refine ws_region rfl ?_
          refine wlo 0 1 rfl rfl rfl (wo_run rfl rfl (run_add rfl rfl rfl (by first | omega | (simp only [lens]; omega))) ?_)
          refine wlm 1 2 rfl rfl rfl rfl rfl rfl rfl ?_
          refine wl_end rfl ?_
          refine nm_lp ?_
          intro ax_ hax_
          refine ⟨_, ?hq5m, ⟨j + 1, p * q.length, rfl, hax_.sub ⟨rfl, rfl, rfl, rfl, trivial⟩, S78.pick [] [] (by decide) trivial, ?hq5f0, ?hq5f1⟩⟩
          case hq5f0 => omega
          case hq5f1 => (rw [hpe, Nat.pow_succ, Nat.mul_assoc])
          case hq5m => omega
         ·replace hb111 := of_decide_eq_false hb111
          refine ws_exit rfl rfl ?_
          refine nm_sub [(15, _)] ⟨rfl, trivial⟩ ?_
          refine nm_thn ?_
          refine ws_seqN Count_n76 Count_n77 rfl rfl rfl ?_
          refine ws_region rfl ?_
          refine wlm 0 1 rfl rfl rfl rfl rfl rfl rfl ?_
          refine wla 1 2 rfl rfl rfl rfl rfl rfl rfl ?_
          refine wla 2 3 rfl rfl rfl rfl rfl rfl rfl ?_
          refine wl_end rfl ?_
          refine nm_sub [(4, _), (5, _)] ⟨rfl, rfl, trivial⟩ ?_
          refine nm_thn ?_
          refine ws_ret hC [_, _] rfl rfl ⟨rfl, rfl, trivial⟩ ?_
          refine ⟨_, rfl, _, ((hle1.trans hle2).trans hle44).trans hle45, (S78.pick [] [] (by decide) trivial), ?_⟩
          have hq0 : quE q = 0 := by omega
          have hq2 : cE d q = 0 := cE_0 hq0 hopn23 (by omega)
          have e9 : j = d.loops.toNat := by omega
          rw [hq2, cN_1 hq2, hpe, e9]
          rfl
end Go.Proofs.Ytefkjfcncpmneaa
