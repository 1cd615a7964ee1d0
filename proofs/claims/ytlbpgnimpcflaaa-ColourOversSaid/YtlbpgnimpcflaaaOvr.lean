/- Walks printed by eng.py. -/
import Derived.Test.YtlbpgnimpcflaaaQ1
import Derived.Test.YtlbpgnimpcflaaaE8
set_option linter.unusedSimpArgs false
set_option linter.unusedVariables false
namespace Go.Proofs.Ytlbpgnimpcflaaa
open Go.ChangeShapes Go.WideShapes Go.ChangeAt Go.RowKit
section
variable {P : Program} {o : Oper} {L : List (Nat × Value)} {w : World} {a b : Int}
theorem run_min {ca : Call} {ops : List Operand} {ts : List TypeId} (hop : o.op = .call ca) (hca : ca.callee = .builtin .min) (hxs : ca.args = ops.toArray) (hts : ca.argTypes = ts.toArray) (hx : oevs L ops = some [.int .i64 a, .int .i64 b]) : Run P o L w (.int .i64 (min a b)) w := by
  intro n c he
  have e : (if b < a then b else a) = min a b := by
    by_cases h : b < a
    · rw [if_pos h]; omega
    · rw [if_neg h]; omega
  unfold execOp
  simp only [hop, resolve, hca, hxs, hts, List.map_toArray, he.evals hx, Sem.run_bind, Sem.run_pure, Result.andThen_ok, invoke, builtin, Builtin.min_, List.foldlM_cons, List.foldlM_nil, Builtin.min2, e]
end
theorem nil_of_none {N : Hp} {A : Option Addr} {c : Nat} {s : List Int} (h : RdA cdInt N A c s) (hn : Option.isNone A = true) : s = [] := by
  cases s with
  | nil => rfl
  | cons y ys => have := (h.2.2 (by simp)).1; rw [this] at hn; cases hn
/-! Overpasses: classes of arcs. -/
def eB (d : Dg) (k : Nat) : Nat := (ga d.crs k).b.toNat
def eD (d : Dg) (k : Nat) : Nat := (ga d.crs k).d.toNat
def relN (cl : List Int) (f t : Int) : Nat → List Int
  | 0 => cl
  | a + 1 => if ga (relN cl f t a) a = f then (relN cl f t a).set a t else relN cl f t a
def frC (d : Dg) (cl : List Int) (k : Nat) : Int := max (ga cl (eB d k)) (ga cl (eD d k))
def toC (d : Dg) (cl : List Int) (k : Nat) : Int := min (ga cl (eB d k)) (ga cl (eD d k))
def clsN (d : Dg) : Nat → List Int
  | 0 => iniW (2 * d.crs.length + 1) (2 * d.crs.length + 1)
  | k + 1 => relN (clsN d k) (frC d (clsN d k) k) (toC d (clsN d k) k) (2 * d.crs.length + 1)
def clsL (d : Dg) : List Int := clsN d d.crs.length
theorem relN_len (cl : List Int) (f t : Int) (a : Nat) : (relN cl f t a).length = cl.length := by
  induction a with
  | zero => rfl
  | succ a ih => rw [relN]; split <;> (try rw [List.length_set]) <;> exact ih
theorem relN_ga (cl : List Int) (f t : Int) (a : Nat) (ha : a ≤ cl.length) : ∀ x, ga (relN cl f t a) x = if x < a ∧ ga cl x = f then t else ga cl x := by
  induction a with
  | zero => intro x; rw [if_neg (by omega)]; rfl
  | succ a ih =>
    have ih := ih (by omega)
    have ha0 : ga (relN cl f t a) a = ga cl a := by rw [ih, if_neg (by omega)]
    intro x
    rw [relN, ha0]
    split
    · rename_i e
      rw [ga_set _ _ _ _ (by rw [relN_len]; omega)]
      split
      · rename_i e2; subst e2
        rw [if_pos ⟨by omega, e⟩]
      · rw [ih]
        by_cases h9 : x < a ∧ ga cl x = f
        · rw [if_pos h9, if_pos ⟨by omega, h9.2⟩]
        · rw [if_neg h9, if_neg (fun h => h9 ⟨by omega, h.2⟩)]
    · rename_i e
      rw [ih]
      by_cases h9 : x < a ∧ ga cl x = f
      · rw [if_pos h9, if_pos ⟨by omega, h9.2⟩]
      · rw [if_neg h9, if_neg (fun (h : x < a + 1 ∧ ga cl x = f) => by
          by_cases h8 : x = a
          · subst h8; exact e h.2
          · exact h9 ⟨by omega, h.2⟩)]
/-- A class list: each label is the least label of its class, and lies in it. -/
def ClsOk (N : Nat) (cl : List Int) : Prop := cl.length = N ∧ ∀ x, x < N → 0 ≤ ga cl x ∧ ga cl x ≤ x ∧ ga cl (ga cl x).toNat = ga cl x
theorem ok_step {N : Nat} {cl cl' : List Int} {f t : Int} (hok : ClsOk N cl) (hl : cl'.length = N) (hg : ∀ x, x < N → ga cl' x = if ga cl x = f then t else ga cl x) (hft : t ≤ f) (h0 : 0 ≤ t) (hti : ga cl t.toNat = t) : ClsOk N cl' := by
  refine ⟨hl, fun x hx => ?_⟩
  obtain ⟨x1, x2, x3⟩ := hok.2 x hx
  have e := hg x hx
  by_cases hf : ga cl x = f
  · rw [if_pos hf] at e
    rw [e]
    refine ⟨h0, by omega, ?_⟩
    rw [hg _ (by omega)]
    split
    · rfl
    · exact hti
  · rw [if_neg hf] at e
    rw [e]
    refine ⟨x1, x2, ?_⟩
    rw [hg _ (by omega), x3, if_neg hf]
theorem cls_bd {d : Dg} (h : arcsB d = true) {k : Nat} (hk : k < d.crs.length) : (eB d k < 2 * d.crs.length + 1 ∧ ((eB d k : Nat) : Int) = (ga d.crs k).b) ∧ (eD d k < 2 * d.crs.length + 1 ∧ ((eD d k : Nat) : Int) = (ga d.crs k).d) := by
  have hb : 1 ≤ (ga d.crs k).b ∧ (ga d.crs k).b ≤ 2 * (d.crs.length : Int) := arcAt_bd h hk (k := 1) (by omega)
  have hd : 1 ≤ (ga d.crs k).d ∧ (ga d.crs k).d ≤ 2 * (d.crs.length : Int) := arcAt_bd h hk (k := 3) (by omega)
  unfold eB eD
  omega
theorem clsN_len (d : Dg) (k : Nat) : (clsN d k).length = 2 * d.crs.length + 1 := by
  induction k with
  | zero => exact iniW_len _ _
  | succ k ih => rw [clsN, relN_len, ih]
theorem clsN_ga (d : Dg) (k x : Nat) (hx : x < 2 * d.crs.length + 1) : ga (clsN d (k + 1)) x = if ga (clsN d k) x = frC d (clsN d k) k then toC d (clsN d k) k else ga (clsN d k) x := by
  rw [clsN, relN_ga _ _ _ _ (by rw [clsN_len]; exact Nat.le_refl _)]
  by_cases h9 : ga (clsN d k) x = frC d (clsN d k) k
  · rw [if_pos ⟨hx, h9⟩, if_pos h9]
  · rw [if_neg (fun h => h9 h.2), if_neg h9]
theorem cls_zero (d : Dg) (y : Nat) (hy : y < 2 * d.crs.length + 1) : ga (clsN d 0) y = (y : Int) := iniW_ga _ _ (Nat.le_refl _) y hy
theorem fr_or (d : Dg) (cl : List Int) (k : Nat) : frC d cl k = ga cl (eB d k) ∨ frC d cl k = ga cl (eD d k) := by unfold frC; omega
theorem to_or (d : Dg) (cl : List Int) (k : Nat) : toC d cl k = ga cl (eB d k) ∨ toC d cl k = ga cl (eD d k) := by unfold toC; omega
theorem clsN_ok {d : Dg} (h : arcsB d = true) (k : Nat) (hk : k ≤ d.crs.length) : ClsOk (2 * d.crs.length + 1) (clsN d k) := by
  induction k with
  | zero => exact ⟨iniW_len _ _, fun x hx => by
      rw [cls_zero d x hx]
      refine ⟨by omega, by omega, ?_⟩
      rw [show ((x : Int)).toNat = x by omega, cls_zero d x hx]⟩
  | succ k ih =>
    have ih := ih (by omega)
    obtain ⟨⟨b1, _⟩, ⟨b2, _⟩⟩ := cls_bd h (k := k) (by omega)
    obtain ⟨p1, _, p3⟩ := ih.2 _ b1
    obtain ⟨q1, _, q3⟩ := ih.2 _ b2
    refine ok_step ih (clsN_len _ _) (fun x hx => clsN_ga d k x hx) (by unfold frC toC; omega) (by unfold toC; omega) ?_
    rcases to_or d (clsN d k) k with e | e <;> rw [e] <;> assumption
theorem cls_keep {d : Dg} {j x y : Nat} (hx : x < 2 * d.crs.length + 1) (hy : y < 2 * d.crs.length + 1) (e : ga (clsN d j) x = ga (clsN d j) y) : ga (clsN d (j + 1)) x = ga (clsN d (j + 1)) y := by
  rw [clsN_ga d j x hx, clsN_ga d j y hy, e]
theorem cls_same {d : Dg} (h : arcsB d = true) {k : Nat} (hk : k < d.crs.length) (j : Nat) (hj : k < j) : ga (clsN d j) (eB d k) = ga (clsN d j) (eD d k) := by
  obtain ⟨⟨b1, _⟩, ⟨b2, _⟩⟩ := cls_bd h hk
  induction j with
  | zero => omega
  | succ j ih =>
    by_cases e : k = j
    · subst e
      rw [clsN_ga d k _ b1, clsN_ga d k _ b2]
      unfold frC toC
      split <;> split <;> omega
    · exact cls_keep b1 b2 (ih (by omega))
theorem cls_con {d : Dg} (h : arcsB d = true) (Z : Nat → Prop) (hZ : ∀ k, k < d.crs.length → (Z (eB d k) ↔ Z (eD d k))) (j : Nat) (hj : j ≤ d.crs.length) : ∀ x y, x < 2 * d.crs.length + 1 → y < 2 * d.crs.length + 1 → ga (clsN d j) x = ga (clsN d j) y → (Z x ↔ Z y) := by
  induction j with
  | zero =>
    intro x y hx hy e
    rw [cls_zero d x hx, cls_zero d y hy] at e
    obtain rfl : x = y := by omega
    exact Iff.rfl
  | succ j ih =>
    have ih := ih (by omega)
    obtain ⟨⟨b1, _⟩, ⟨b2, _⟩⟩ := cls_bd h (k := j) (by omega)
    have hz := hZ j (by omega)
    have hf : ∀ x, x < 2 * d.crs.length + 1 → ga (clsN d j) x = frC d (clsN d j) j → (Z x ↔ Z (eB d j)) := fun x hx e => by
      rcases fr_or d (clsN d j) j with e2 | e2
      · exact ih x _ hx b1 (e.trans e2)
      · exact (ih x _ hx b2 (e.trans e2)).trans hz.symm
    have ht : ∀ x, x < 2 * d.crs.length + 1 → ga (clsN d j) x = toC d (clsN d j) j → (Z x ↔ Z (eB d j)) := fun x hx e => by
      rcases to_or d (clsN d j) j with e2 | e2
      · exact ih x _ hx b1 (e.trans e2)
      · exact (ih x _ hx b2 (e.trans e2)).trans hz.symm
    intro x y hx hy e
    rw [clsN_ga d j x hx, clsN_ga d j y hy] at e
    by_cases hfx : ga (clsN d j) x = frC d (clsN d j) j
    · rw [if_pos hfx] at e
      by_cases hfy : ga (clsN d j) y = frC d (clsN d j) j
      · exact (hf x hx hfx).trans (hf y hy hfy).symm
      · rw [if_neg hfy] at e
        exact (hf x hx hfx).trans (ht y hy e.symm).symm
    · rw [if_neg hfx] at e
      by_cases hfy : ga (clsN d j) y = frC d (clsN d j) j
      · rw [if_pos hfy] at e
        exact (ht x hx e).trans (hf y hy hfy).symm
      · rw [if_neg hfy] at e
        exact ih x y hx hy e
/-- The other way to the same classes: rounds of levelling. -/
def ovRd (d : Dg) : Nat → List Int
  | 0 => iniW (2 * d.crs.length + 1) (2 * d.crs.length + 1)
  | j + 1 => roundG (eB d) (eD d) (ovRd d j) d.crs.length
theorem roundG_len (e1 e2 : Nat → Nat) (ws : List Int) (k : Nat) : (roundG e1 e2 ws k).length = ws.length := by
  induction k with
  | zero => rfl
  | succ k ih => rw [roundG, stepW_len, ih]
theorem ovRd_len (d : Dg) (j : Nat) : (ovRd d j).length = 2 * d.crs.length + 1 := by
  induction j with
  | zero => exact iniW_len _ _
  | succ j ih => rw [ovRd, roundG_len, ih]
theorem over_law {d : Dg} (h : arcsB d = true) : ovRd d (2 * d.crs.length + 1) = clsL d := by
  have hok := clsN_ok h d.crs.length (Nat.le_refl _)
  have hl := labels (N := 2 * d.crs.length + 1) (K := d.crs.length) (eB d) (eD d) (fun k hk => ⟨(cls_bd h hk).1.1, (cls_bd h hk).2.1⟩) (fun x => (ga (clsL d) x).toNat)
    (fun k hk => congrArg Int.toNat (cls_same h hk _ hk))
    (fun Z hZ x y hx hy e hz => (cls_con h Z hZ _ (Nat.le_refl _) x y hx hy (by
      have hX := hok.2 x hx
      have hY := hok.2 y hy
      have e' : (ga (clsN d d.crs.length) x).toNat = (ga (clsN d d.crs.length) y).toNat := e
      omega)).1 hz)
    (ovRd d) (ovRd_len d 0) (fun x hx => iniW_ga _ _ (Nat.le_refl _) x hx) (fun j => rfl)
  refine ga_ext (by rw [ovRd_len]; exact (clsN_len _ _).symm) fun x hx => ?_
  rw [ovRd_len] at hx
  obtain ⟨z, z1, z2, z3, z4⟩ := hl x hx
  obtain ⟨x1, x2, x3⟩ := hok.2 x hx
  obtain ⟨w1, w2, w3⟩ := hok.2 z z1
  have a1 := z4 (ga (clsL d) x).toNat (by show (ga (clsN d d.crs.length) x).toNat < _; omega) (by show (ga (clsN d d.crs.length) (ga (clsN d d.crs.length) x).toNat).toNat = _; rw [x3]; rfl)
  replace a1 : z ≤ (ga (clsN d d.crs.length) x).toNat := a1
  replace z3 : (ga (clsN d d.crs.length) z).toNat = (ga (clsN d d.crs.length) x).toNat := z3
  rw [z2]
  show _ = ga (clsN d d.crs.length) x
  omega
/-- Of each arc the number of its overpass. -/
def rtB (d : Dg) (x : Nat) : Bool := decide (1 ≤ x ∧ ga (clsL d) x = (x : Int))
def rk (d : Dg) (a : Nat) : Int := (cn (rtB d) a : Int)
def ovA (d : Dg) (a : Nat) : Int := rk d (ga (clsL d) a).toNat
def oversL (d : Dg) : List Int := (List.range (2 * d.crs.length + 1)).map (ovA d)
theorem rk_bd (d : Dg) (a : Nat) : 0 ≤ rk d a ∧ rk d a ≤ a := by
  have := cn_le (rtB d) a
  unfold rk
  omega
theorem rk_zero (d : Dg) : rk d 0 = 0 := rfl
theorem rk_one (d : Dg) : rk d 1 = 0 := rfl
theorem rk_root {d : Dg} {a : Nat} (h : 1 ≤ a) (e : ga (clsL d) a = (a : Int)) : rk d (a + 1) = rk d a + 1 := by
  unfold rk
  rw [cn, if_pos (show rtB d a = true from decide_eq_true ⟨h, e⟩)]
  omega
theorem rk_skip {d : Dg} {a : Nat} (e : ¬ ga (clsL d) a = (a : Int)) : rk d (a + 1) = rk d a := by
  unfold rk
  rw [cn, if_neg (by unfold rtB; rw [decide_eq_true_iff]; exact fun h => e h.2)]
  omega
theorem oversL_len (d : Dg) : (oversL d).length = 2 * d.crs.length + 1 := by simp [oversL]
theorem oversL_ga (d : Dg) {a : Nat} (h : a < 2 * d.crs.length + 1) : ga (oversL d) a = ovA d a := by
  rw [ga_eq (by rw [oversL_len]; exact h)]; simp [oversL]

noncomputable def level_n0 : Code := Try.f74.body.getD .skip
noncomputable def level_n1 : Code := cL level_n0
noncomputable def level_n2 : Code := cR level_n0
noncomputable def level_n3 : Code := cL level_n2
noncomputable def level_n4 : Code := cR level_n2
set_option maxRecDepth 10000 in
theorem level_w {w : World} {M : Hp} {X : Fr} (vws : Value) (ws : List Int) (i : Int) (j : Int) (hi : 0 ≤ i ∧ i < (ws.length : Int)) (hj : 0 ≤ j ∧ j < (ws.length : Int)) (S : SH w M X [Rs.row cdInt vws ws]) : C1 Try.prog 74 [vws, .int .i64 i, .int .i64 j] w M X (fun u M' r' => u = tup [] ∧ M' = M ∧ r' = Rs.row cdInt vws (stepW ws i.toNat j.toNat)) := by
  unfold C1
  refine calls_in (b := level_n0) Try.func74 rfl Try.ntmps74 rfl (fun C hC => ?_)
  refine ws_sub [(0, _), (1, _), (2, _)] ⟨rfl, rfl, rfl, trivial⟩ ?_
  refine ws_seqN level_n1 level_n2 rfl rfl rfl ?_
  refine ws_draw rfl (by kernel_rfl) S 9 rfl ?_
  clear S
  refine wa_takeP (i := 0) (d := 6) 8 rfl (by kernel_rfl) (by kernel_rfl) (by kernel_rfl) rfl rfl rfl (fun w1 => run_move rfl rfl) ?_
  refine wa_takeP (i := 1) (d := 7) 7 rfl (by kernel_rfl) (by kernel_rfl) (by kernel_rfl) rfl rfl rfl (fun w2 => run_move rfl rfl) ?_
  refine wa_take (i := 2) (d := 8) 6 rfl (by kernel_rfl) (by kernel_rfl) (by kernel_rfl) rfl rfl rfl (fun M3 N3 w3 hle3 S3 => .inl (run_indexR (C := cdInt) (i := 0) i.toNat rfl rfl rfl sl44 S3.suf rfl (by first | rfl | omega) (by first | omega | (simp only [List.length_set, List.length_append, List.length_replicate, List.length_singleton, List.length_cons, List.length_nil]; omega)))) ?_
  refine wa_take (i := 3) (d := 9) 5 rfl (by kernel_rfl) (by kernel_rfl) (by kernel_rfl) rfl rfl rfl (fun M4 N4 w4 hle4 S4 => .inl (run_load1 rfl rfl Try.underlying3 rfl (S4.suf.rowc (i := 0) (e := i.toNat) (j := 0) rfl (by first | omega | (simp only [List.length_set, List.length_append, List.length_replicate, List.length_singleton, List.length_cons, List.length_nil]; omega)) rfl rfl))) ?_
  refine wa_takeP (i := 4) (d := 10) 4 rfl (by kernel_rfl) (by kernel_rfl) (by kernel_rfl) rfl rfl rfl (fun w5 => run_move rfl rfl) ?_
  refine wa_takeP (i := 5) (d := 11) 3 rfl (by kernel_rfl) (by kernel_rfl) (by kernel_rfl) rfl rfl rfl (fun w6 => run_move rfl rfl) ?_
  refine wa_take (i := 6) (d := 12) 2 rfl (by kernel_rfl) (by kernel_rfl) (by kernel_rfl) rfl rfl rfl (fun M7 N7 w7 hle7 S7 => .inl (run_indexR (C := cdInt) (i := 0) j.toNat rfl rfl rfl sl44 S7.suf rfl (by first | rfl | omega) (by first | omega | (simp only [List.length_set, List.length_append, List.length_replicate, List.length_singleton, List.length_cons, List.length_nil]; omega)))) ?_
  refine wa_take (i := 7) (d := 13) 1 rfl (by kernel_rfl) (by kernel_rfl) (by kernel_rfl) rfl rfl rfl (fun M8 N8 w8 hle8 S8 => .inl (run_load1 rfl rfl Try.underlying3 rfl (S8.suf.rowc (i := 0) (e := j.toNat) (j := 0) rfl (by first | omega | (simp only [List.length_set, List.length_append, List.length_replicate, List.length_singleton, List.length_cons, List.length_nil]; omega)) rfl rfl))) ?_
  refine wa_takeP (i := 8) (d := 14) 0 rfl (by kernel_rfl) (by kernel_rfl) (by kernel_rfl) rfl rfl rfl (fun w9 => run_lss rfl rfl rfl) ?_
  refine wa_end (by kernel_rfl) (fun w10 S10 => ?_)
  refine nm_sub [(0, _), (1, _), (2, _), (14, _)] ⟨rfl, rfl, rfl, rfl, trivial⟩ ?_
  refine nm_thn ?_
  refine ws_condN level_n3 level_n4 rfl rfl rfl rfl (fun hb14 => ?_) (fun hb14 => ?_)
  · have hb14 := of_decide_eq_true hb14
    refine ws_region rfl ?_
    refine wl_op (k := 0) (k' := 1) rfl rfl rfl (wo_run rfl rfl (run_move rfl rfl) ?_)
    refine wl_op (k := 1) (k' := 2) rfl rfl rfl (wo_run rfl rfl (run_move rfl rfl) ?_)
    refine wl_op (k := 2) (k' := 3) rfl rfl rfl (wo_run rfl rfl (run_move rfl rfl) ?_)
    refine wl_op (k := 3) (k' := 4) rfl rfl rfl (wo_run rfl rfl (run_move rfl rfl) ?_)
    refine wl_op (k := 4) (k' := 5) rfl rfl rfl (wo_run rfl rfl (run_indexR (C := cdInt) (i := 0) i.toNat rfl rfl rfl sl44 S10 rfl (by first | rfl | omega) (by first | omega | (simp only [List.length_set, List.length_append, List.length_replicate, List.length_singleton, List.length_cons, List.length_nil]; omega))) ?_)
    refine wl_op (k := 5) (k' := 6) rfl rfl rfl (wo_run rfl rfl (run_load1 rfl rfl Try.underlying3 rfl (S10.rowc (i := 0) (e := i.toNat) (j := 0) rfl (by first | omega | (simp only [List.length_set, List.length_append, List.length_replicate, List.length_singleton, List.length_cons, List.length_nil]; omega)) rfl rfl)) ?_)
    refine wl_op (k := 6) (k' := 7) rfl rfl rfl (wo_run rfl rfl (run_indexR (C := cdInt) (i := 0) j.toNat rfl rfl rfl sl44 S10 rfl (by first | rfl | omega) (by first | omega | (simp only [List.length_set, List.length_append, List.length_replicate, List.length_singleton, List.length_cons, List.length_nil]; omega))) ?_)
    refine wl_op (k := 7) (k' := 8) rfl rfl rfl (wo_storeR (C := cdInt) (i := 0) (e := j.toNat) (j := 0) (us := [_]) (H' := [_]) (ga ws i.toNat) rfl rfl S10 rfl (by first | omega | (simp only [List.length_set, List.length_append, List.length_replicate, List.length_singleton, List.length_cons, List.length_nil]; omega)) rfl rfl rfl sz3 rfl rfl rfl rfl ?_)
    intro w11 S11; clear S10
    refine wl_end rfl ?_
    refine nm_end hC [] rfl trivial ?_
    exact ⟨_, rfl, _, _, Hp.le_refl _, S11.pick [0] [_] (by decide) ⟨rfl, trivial⟩, ⟨rfl, rfl, by unfold stepW; first | rw [if_pos (by assumption)] | rw [if_neg (by assumption)]⟩⟩
  · have hb14 := of_decide_eq_false hb14
    refine ws_region rfl ?_
    refine wl_op (k := 0) (k' := 1) rfl rfl rfl (wo_run rfl rfl (run_move rfl rfl) ?_)
    refine wl_op (k := 1) (k' := 2) rfl rfl rfl (wo_run rfl rfl (run_move rfl rfl) ?_)
    refine wl_op (k := 2) (k' := 3) rfl rfl rfl (wo_run rfl rfl (run_move rfl rfl) ?_)
    refine wl_op (k := 3) (k' := 4) rfl rfl rfl (wo_run rfl rfl (run_move rfl rfl) ?_)
    refine wl_op (k := 4) (k' := 5) rfl rfl rfl (wo_run rfl rfl (run_indexR (C := cdInt) (i := 0) j.toNat rfl rfl rfl sl44 S10 rfl (by first | rfl | omega) (by first | omega | (simp only [List.length_set, List.length_append, List.length_replicate, List.length_singleton, List.length_cons, List.length_nil]; omega))) ?_)
    refine wl_op (k := 5) (k' := 6) rfl rfl rfl (wo_run rfl rfl (run_load1 rfl rfl Try.underlying3 rfl (S10.rowc (i := 0) (e := j.toNat) (j := 0) rfl (by first | omega | (simp only [List.length_set, List.length_append, List.length_replicate, List.length_singleton, List.length_cons, List.length_nil]; omega)) rfl rfl)) ?_)
    refine wl_op (k := 6) (k' := 7) rfl rfl rfl (wo_run rfl rfl (run_indexR (C := cdInt) (i := 0) i.toNat rfl rfl rfl sl44 S10 rfl (by first | rfl | omega) (by first | omega | (simp only [List.length_set, List.length_append, List.length_replicate, List.length_singleton, List.length_cons, List.length_nil]; omega))) ?_)
    refine wl_op (k := 7) (k' := 8) rfl rfl rfl (wo_storeR (C := cdInt) (i := 0) (e := i.toNat) (j := 0) (us := [_]) (H' := [_]) (ga ws j.toNat) rfl rfl S10 rfl (by first | omega | (simp only [List.length_set, List.length_append, List.length_replicate, List.length_singleton, List.length_cons, List.length_nil]; omega)) rfl rfl rfl sz3 rfl rfl rfl rfl ?_)
    intro w12 S12; clear S10
    refine wl_end rfl ?_
    refine nm_end hC [] rfl trivial ?_
    exact ⟨_, rfl, _, _, Hp.le_refl _, S12.pick [0] [_] (by decide) ⟨rfl, trivial⟩, ⟨rfl, rfl, by unfold stepW; first | rw [if_pos (by assumption)] | rw [if_neg (by assumption)]⟩⟩

noncomputable def Passes_n0 : Code := Try.f72.body.getD .skip
noncomputable def Passes_n1 : Code := cL Passes_n0
noncomputable def Passes_n2 : Code := cR Passes_n0
noncomputable def Passes_n3 : Code := cL Passes_n2
noncomputable def Passes_n4 : Code := cR Passes_n2
noncomputable def Passes_n5 : Code := cL Passes_n4
noncomputable def Passes_n6 : Code := cR Passes_n4
noncomputable def Passes_n7 : Code := cL Passes_n5
noncomputable def Passes_n8 : Code := cR Passes_n5
noncomputable def Passes_n9 : Code := cL Passes_n8
noncomputable def Passes_n10 : Code := cL Passes_n9
noncomputable def Passes_n11 : Code := cL Passes_n10
noncomputable def Passes_n12 : Code := cR Passes_n10
noncomputable def Passes_n13 : Code := cL Passes_n12
noncomputable def Passes_n14 : Code := cR Passes_n12
noncomputable def Passes_n15 : Code := cL Passes_n13
noncomputable def Passes_n16 : Code := cR Passes_n13
noncomputable def Passes_n17 : Code := cL Passes_n14
noncomputable def Passes_n18 : Code := cR Passes_n14
noncomputable def Passes_n19 : Code := cL Passes_n17
noncomputable def Passes_n20 : Code := cL Passes_n19
noncomputable def Passes_n21 : Code := cR Passes_n19
noncomputable def Passes_n22 : Code := cL Passes_n6
noncomputable def Passes_n23 : Code := cR Passes_n6
noncomputable def Passes_n24 : Code := cL Passes_n22
noncomputable def Passes_n25 : Code := cR Passes_n22
noncomputable def Passes_n26 : Code := cL Passes_n25
noncomputable def Passes_n27 : Code := cL Passes_n26
noncomputable def Passes_n28 : Code := cL Passes_n27
noncomputable def Passes_n29 : Code := cR Passes_n27
noncomputable def Passes_n30 : Code := cL Passes_n29
noncomputable def Passes_n31 : Code := cR Passes_n29
noncomputable def Passes_n32 : Code := cL Passes_n30
noncomputable def Passes_n33 : Code := cR Passes_n30
noncomputable def Passes_n34 : Code := cL Passes_n31
noncomputable def Passes_n35 : Code := cR Passes_n31
noncomputable def Passes_n36 : Code := cL Passes_n34
noncomputable def Passes_n37 : Code := cL Passes_n36
noncomputable def Passes_n38 : Code := cR Passes_n36
noncomputable def Passes_n39 : Code := cL Passes_n38
noncomputable def Passes_n40 : Code := cR Passes_n38
noncomputable def Passes_n41 : Code := cL Passes_n40
noncomputable def Passes_n42 : Code := cR Passes_n40
noncomputable def Passes_n43 : Code := cL Passes_n42
noncomputable def Passes_n44 : Code := cL Passes_n43
noncomputable def Passes_n45 : Code := cL Passes_n44
noncomputable def Passes_n46 : Code := cR Passes_n44
noncomputable def Passes_n47 : Code := cL Passes_n46
noncomputable def Passes_n48 : Code := cR Passes_n46
noncomputable def Passes_n49 : Code := cL Passes_n47
noncomputable def Passes_n50 : Code := cR Passes_n47
noncomputable def Passes_n51 : Code := cL Passes_n48
noncomputable def Passes_n52 : Code := cR Passes_n48
noncomputable def Passes_n53 : Code := cL Passes_n51
noncomputable def Passes_n54 : Code := cL Passes_n53
noncomputable def Passes_n55 : Code := cR Passes_n53
noncomputable def Passes_n56 : Code := cL Passes_n55
noncomputable def Passes_n57 : Code := cR Passes_n55
noncomputable def Passes_n58 : Code := cL Passes_n57
noncomputable def Passes_n59 : Code := cR Passes_n57
noncomputable def Passes_n60 : Code := cL Passes_n23
noncomputable def Passes_n61 : Code := cR Passes_n23
noncomputable def Passes_n62 : Code := cL Passes_n61
noncomputable def Passes_n63 : Code := cR Passes_n61
noncomputable def Passes_n64 : Code := cL Passes_n62
noncomputable def Passes_n65 : Code := cR Passes_n62
noncomputable def Passes_n66 : Code := cL Passes_n65
noncomputable def Passes_n67 : Code := cL Passes_n66
noncomputable def Passes_n68 : Code := cL Passes_n67
noncomputable def Passes_n69 : Code := cR Passes_n67
noncomputable def Passes_n70 : Code := cL Passes_n68
noncomputable def Passes_n71 : Code := cR Passes_n68
noncomputable def Passes_n72 : Code := cL Passes_n71
noncomputable def Passes_n73 : Code := cR Passes_n71
noncomputable def Passes_n74 : Code := cL Passes_n69
noncomputable def Passes_n75 : Code := cR Passes_n69
noncomputable def Passes_n76 : Code := cL Passes_n74
noncomputable def Passes_n77 : Code := cL Passes_n76
noncomputable def Passes_n78 : Code := cR Passes_n76
noncomputable def Passes_n79 : Code := cL Passes_n78
noncomputable def Passes_n80 : Code := cR Passes_n78
noncomputable def Passes_n81 : Code := cL Passes_n79
noncomputable def Passes_n82 : Code := cR Passes_n79
noncomputable def Passes_n83 : Code := cL Passes_n63
noncomputable def Passes_n84 : Code := cR Passes_n63
set_option maxHeartbeats 1000000 in
set_option maxRecDepth 10000 in
theorem Passes_t {w : World} {M : Hp} {X : Fr} (d : Dg) {gsh : Nat} {cA iA oA : Option Addr} {cc ic oc : Nat} (hsb : BxM (M.un X.h) gsh 81 [.slice cA d.crs.length cc, .int .i64 d.loops, .slice iA (tabL d false (4 * d.crs.length)).length ic, .slice oA (tabL d true (4 * d.crs.length)).length oc]) (hsc : RdA cdCr (M.un X.h) cA cc d.crs) (hsi : RdA cdPl (M.un X.h) iA ic (tabL d false (4 * d.crs.length))) (hso : RdA cdPl (M.un X.h) oA oc (tabL d true (4 * d.crs.length))) (hn : d.crs.length ≤ 16) (hab : arcsB d = true) (S : SH w M X []) : Ct Try.prog 72 [.pointer (some ⟨gsh, 0, none⟩)] w M X (fun u N => ∃ A c, u = .tuple [.slice A (oversL d).length c, .int .i64 (rk d (2 * d.crs.length + 1))].toArray ∧ RdA cdInt N A c (oversL d)) := by
  unfold Ct
  refine calls_in (b := Passes_n0) Try.func72 rfl Try.ntmps72 rfl (fun C hC => ?_)
  refine ws_sub [(0, _)] ⟨rfl, trivial⟩ ?_
  refine ws_seqN Passes_n1 Passes_n2 rfl rfl rfl ?_
  refine ws_region rfl ?_
  refine wl_op (k := 0) (k' := 1) rfl rfl rfl (wo_run rfl rfl (run_assign rfl rfl) ?_)
  refine wl_op (k := 1) (k' := 2) rfl rfl rfl (wo_run rfl rfl (run_assign rfl rfl) ?_)
  refine wl_end rfl ?_
  refine nm_sub [(0, _)] ⟨rfl, trivial⟩ ?_
  refine nm_thn ?_
  refine ws_seqN Passes_n3 Passes_n4 rfl rfl rfl ?_
  refine ws_region rfl ?_
  refine wl_op (k := 0) (k' := 1) rfl rfl rfl (wo_run rfl rfl (run_move rfl rfl) ?_)
  refine wl_op (k := 1) (k' := 2) rfl rfl rfl (wo_cq rfl rfl rfl rfl rfl rfl rfl cf55 S (Arcs_q d  (hsb.mono S.un_XH) (hsc.mono S.un_XH) (hsi.mono S.un_XH) (hso.mono S.un_XH) (by omega) S.lend) ?_)
  rintro _ w1 S1 rfl; clear S
  refine wl_op (k := 2) (k' := 3) rfl rfl rfl (wo_run rfl rfl (run_add rfl rfl rfl (by first | omega | (simp only [List.length_set, List.length_append, List.length_replicate, List.length_singleton, List.length_cons, List.length_nil]; omega))) ?_)
  refine wl_op (k := 3) (k' := 4) rfl rfl rfl (wo_make (C := cdInt) ((2 * (d.crs.length : Int)).toNat + 1) rfl rfl rfl rfl rfl sl44 (by first | rfl | omega) (by show _ * 8 ≤ _; first | omega | (simp only [List.length_set, List.length_append, List.length_replicate, List.length_singleton, List.length_cons, List.length_nil]; omega)) S1 ?_)
  intro vr1 w2 S2; clear S1
  refine wl_op (k := 4) (k' := 5) rfl rfl rfl (wo_run rfl rfl (run_assign rfl rfl) ?_)
  refine wl_end rfl ?_
  refine nm_sub [(0, _), (4, _)] ⟨rfl, rfl, trivial⟩ ?_
  refine nm_thn ?_
  refine ws_seqN Passes_n5 Passes_n6 rfl rfl rfl ?_
  refine ws_seqN Passes_n7 Passes_n8 rfl rfl rfl ?_
  refine ws_region rfl ?_
  refine wl_op (k := 0) (k' := 1) rfl rfl rfl (wo_run rfl rfl (run_move rfl rfl) ?_)
  refine wl_op (k := 1) (k' := 2) rfl rfl rfl (wo_run rfl rfl (run_lenR (C := cdInt) (i := 0) rfl rfl rfl rfl rfl rfl sl44 S2 rfl) ?_)
  refine wl_eq 19 (.int .i64 ((2 * d.crs.length + 1 : Nat) : Int)) rfl (int_eq (by rw [List.length_replicate]; omega)) ?_
  refine wl_op (k := 2) (k' := 3) rfl rfl rfl (wo_run rfl rfl (run_move rfl rfl) ?_)
  refine wl_end rfl ?_
  refine nm_sub [(0, _), (4, _), (19, _), (20, _)] ⟨rfl, rfl, rfl, rfl, trivial⟩ ?_
  refine nm_thn ?_
  refine ws_blockN Passes_n9 0 rfl rfl rfl ?_
  refine ws_loopE (fun mx_ ax_ wx_ => ∃ (i : Nat) (ws : List Int) (vrw : Value), mx_ = 2 * d.crs.length + 1 - i ∧ Env 110 [(0, .pointer (some ⟨gsh, 0, none⟩)), (4, vrw), (19, .int .i64 ((2 * d.crs.length + 1 : Nat) : Int)), (20, .int .i64 (i : Int))] ax_ ∧ SH wx_ M X [Rs.row cdInt vrw ws] ∧ i ≤ 2 * d.crs.length + 1 ∧ ws = iniW (2 * d.crs.length + 1) i) rfl ?_ ?_
  · intro ax_ hax_
    refine ⟨_, ⟨0, _, _, rfl, hax_.sub ⟨rfl, rfl, rfl, rfl, trivial⟩, S2.pick [0] [_] (by decide) ⟨rfl, trivial⟩, ?hq1f0, ?hq1f1⟩⟩
    case hq1f0 => omega
    case hq1f1 => rfl
  · rintro m1 a1 w3 ⟨i, ws, vrw, rfl, he1, S3, hi, hw⟩
    clear S2
    refine ws_in he1 (c := Passes_n10) rfl ?_
    clear he1 a1
    have hwl : ws.length = 2 * d.crs.length + 1 := by rw [hw, iniW_len]
    refine ws_seqN Passes_n11 Passes_n12 rfl rfl rfl ?_
    refine ws_region rfl ?_
    refine wl_op (k := 0) (k' := 1) rfl rfl rfl (wo_run rfl rfl (run_lss rfl rfl rfl) ?_)
    refine wl_end rfl ?_
    refine nm_thn ?_
    refine ws_seqN Passes_n13 Passes_n14 rfl rfl rfl ?_
    refine ws_condN Passes_n15 Passes_n16 rfl rfl rfl rfl (fun hb21 => ?_) (fun hb21 => ?_)
    · have hb21 := of_decide_eq_true hb21
      refine ws_skip rfl ?_
      refine nm_sub [(0, _), (4, _), (19, _), (20, _)] ⟨rfl, rfl, rfl, rfl, trivial⟩ ?_
      refine nm_thn ?_
      refine ws_seqN Passes_n17 Passes_n18 rfl rfl rfl ?_
      refine ws_blockN Passes_n19 1 rfl rfl rfl ?_
      refine ws_seqN Passes_n20 Passes_n21 rfl rfl rfl ?_
      refine ws_region rfl ?_
      refine wl_op (k := 0) (k' := 1) rfl rfl rfl (wo_run rfl rfl (run_move rfl rfl) ?_)
      refine wl_op (k := 1) (k' := 2) rfl rfl rfl (wo_run rfl rfl (run_assign rfl rfl) ?_)
      refine wl_end rfl ?_
      refine nm_sub [(0, _), (4, _), (19, _), (20, _), (5, _)] ⟨rfl, rfl, rfl, rfl, rfl, trivial⟩ ?_
      refine nm_thn ?_
      refine ws_region rfl ?_
      refine wl_op (k := 0) (k' := 1) rfl rfl rfl (wo_run rfl rfl (run_move rfl rfl) ?_)
      refine wl_op (k := 1) (k' := 2) rfl rfl rfl (wo_run rfl rfl (run_move rfl rfl) ?_)
      refine wl_op (k := 2) (k' := 3) rfl rfl rfl (wo_run rfl rfl (run_move rfl rfl) ?_)
      refine wl_op (k := 3) (k' := 4) rfl rfl rfl (wo_run rfl rfl (run_indexR (C := cdInt) (i := 0) i rfl rfl rfl sl44 S3 rfl (by first | rfl | omega) (by first | omega | (simp only [List.length_set, List.length_append, List.length_replicate, List.length_singleton, List.length_cons, List.length_nil]; omega))) ?_)
      refine wl_op (k := 4) (k' := 5) rfl rfl rfl (wo_storeR (C := cdInt) (i := 0) (e := i) (j := 0) (us := [_]) (H' := [_]) (i : Int) rfl rfl S3 rfl (by first | omega | (simp only [List.length_set, List.length_append, List.length_replicate, List.length_singleton, List.length_cons, List.length_nil]; omega)) rfl rfl rfl sz3 rfl rfl rfl rfl ?_)
      intro w4 S4; clear S3
      refine wl_end rfl ?_
      refine nm_blk ?_
      refine nm_sub [(0, _), (4, _), (19, _), (20, _)] ⟨rfl, rfl, rfl, rfl, trivial⟩ ?_
      refine nm_thn ?_
      refine ws_region rfl ?_
      refine wl_op (k := 0) (k' := 1) rfl rfl rfl (wo_run rfl rfl (run_add rfl rfl rfl (by first | omega | (simp only [List.length_set, List.length_append, List.length_replicate, List.length_singleton, List.length_cons, List.length_nil]; omega))) ?_)
      refine wl_op (k := 1) (k' := 2) rfl rfl rfl (wo_run rfl rfl (run_move rfl rfl) ?_)
      refine wl_end rfl ?_
      refine nm_lp ?_
      intro ax_ hax_
      refine ⟨_, ?hq2m, ⟨i + 1, _, _, rfl, hax_.sub ⟨rfl, rfl, rfl, rfl, trivial⟩, S4.pick [0] [_] (by decide) ⟨rfl, trivial⟩, ?hq2f0, ?hq2f1⟩⟩
      case hq2f0 => omega
      case hq2f1 => (rw [hw]; rfl)
      case hq2m => omega
    · have hb21 := of_decide_eq_false hb21
      refine ws_exit rfl rfl ?_
      refine nm_sub [(0, _), (4, _)] ⟨rfl, rfl, trivial⟩ ?_
      refine nm_thn ?_
      refine ws_seqN Passes_n22 Passes_n23 rfl rfl rfl ?_
      refine ws_seqN Passes_n24 Passes_n25 rfl rfl rfl ?_
      refine ws_region rfl ?_
      refine wl_op (k := 0) (k' := 1) rfl rfl rfl (wo_run rfl rfl (run_move rfl rfl) ?_)
      refine wl_op (k := 1) (k' := 2) rfl rfl rfl (wo_run rfl rfl (run_nilCheck rfl rfl) ?_)
      refine wl_op (k := 2) (k' := 3) rfl rfl rfl (wo_run rfl rfl (run_fieldAddr rfl rfl Try.underlying81 rfl (ce27) (nf27)) ?_)
      refine wl_op (k := 3) (k' := 4) rfl rfl rfl (wo_run rfl rfl (run_fieldAddr rfl rfl Try.underlying27 rfl (ce25) (nf25)) ?_)
      refine wl_op (k := 4) (k' := 5) rfl rfl rfl (wo_run rfl rfl (run_load1 rfl rfl Try.underlying25 rfl (hsb.cell S3.um rfl)) ?_)
      refine wl_op (k := 5) (k' := 6) rfl rfl rfl (wo_run rfl rfl (run_len rfl rfl rfl rfl rfl rfl Try.underlying25) ?_)
      refine wl_op (k := 6) (k' := 7) rfl rfl rfl (wo_run rfl rfl (run_move rfl rfl) ?_)
      refine wl_end rfl ?_
      refine nm_sub [(4, _), (32, _), (33, _), (34, _)] ⟨rfl, rfl, rfl, rfl, trivial⟩ ?_
      refine nm_thn ?_
      refine ws_blockN Passes_n26 2 rfl rfl rfl ?_
      refine ws_loopE (fun mx_ ax_ wx_ => ∃ (k : Nat) (cl : List Int) (vrc : Value), mx_ = d.crs.length - k ∧ Env 110 [(4, vrc), (32, .slice cA d.crs.length cc), (33, .int .i64 (d.crs.length : Int)), (34, .int .i64 (k : Int))] ax_ ∧ SH wx_ M X [Rs.row cdInt vrc cl] ∧ k ≤ d.crs.length ∧ cl = clsN d k) rfl ?_ ?_
      · intro ax_ hax_
        refine ⟨_, ⟨0, _, _, rfl, hax_.sub ⟨rfl, rfl, rfl, rfl, trivial⟩, S3.pick [0] [_] (by decide) ⟨rfl, trivial⟩, ?hq3f0, ?hq3f1⟩⟩
        case hq3f0 => omega
        case hq3f1 => (obtain rfl : i = 2 * d.crs.length + 1 := (by omega); exact hw)
      · rintro m2 a2 w5 ⟨k, cl, vrc, rfl, he2, S5, hk, hcl⟩
        clear S3
        refine ws_in he2 (c := Passes_n27) rfl ?_
        clear he2 a2
        have hll : cl.length = 2 * d.crs.length + 1 := by rw [hcl, clsN_len]
        have hebd := fun h => cls_bd hab (k := k) h
        refine ws_seqN Passes_n28 Passes_n29 rfl rfl rfl ?_
        refine ws_region rfl ?_
        refine wl_op (k := 0) (k' := 1) rfl rfl rfl (wo_run rfl rfl (run_lss rfl rfl rfl) ?_)
        refine wl_end rfl ?_
        refine nm_thn ?_
        refine ws_seqN Passes_n30 Passes_n31 rfl rfl rfl ?_
        refine ws_condN Passes_n32 Passes_n33 rfl rfl rfl rfl (fun hb35 => ?_) (fun hb35 => ?_)
        · have hb35 := of_decide_eq_true hb35
          obtain ⟨⟨b1, b2⟩, ⟨b3, b4⟩⟩ := hebd (by omega)
          unfold eB at b1 b2
          unfold eD at b3 b4
          refine ws_skip rfl ?_
          refine nm_sub [(4, _), (32, _), (33, _), (34, _)] ⟨rfl, rfl, rfl, rfl, trivial⟩ ?_
          refine nm_thn ?_
          refine ws_seqN Passes_n34 Passes_n35 rfl rfl rfl ?_
          refine ws_blockN Passes_n36 3 rfl rfl rfl ?_
          refine ws_seqN Passes_n37 Passes_n38 rfl rfl rfl ?_
          refine ws_region rfl ?_
          refine wl_op (k := 0) (k' := 1) rfl rfl rfl (wo_run rfl rfl (run_indexM (C := cdCr) k rfl rfl rfl sl25 (by first | rfl | omega) hsc (by first | omega | (simp only [List.length_set, List.length_append, List.length_replicate, List.length_singleton, List.length_cons, List.length_nil]; omega))) ?_)
          refine wl_op (k := 1) (k' := 2) rfl rfl rfl (wo_run rfl rfl (run_loadN (us := [_, _, _, _, _]) rfl rfl Try.underlying73 rfl sz73 (hsc.cellsAt S5.um (e := k) (by first | omega | (simp only [List.length_set, List.length_append, List.length_replicate, List.length_singleton, List.length_cons, List.length_nil]; omega)) (j := 0) ⟨rfl, rfl, rfl, rfl, rfl, trivial⟩)) ?_)
          refine wl_op (k := 2) (k' := 3) rfl rfl rfl (wo_alloc (l := [_, _, _, _, _]) rfl rfl rfl zr73 rfl S5 ?_)
          intro gb1 w6 S6; clear S5
          refine wl_op (k := 3) (k' := 4) rfl rfl rfl (wo_storeB (i := 0) (us := [_, _, _, _, _]) (l' := [_, _, _, _, _]) (H' := [_, _]) rfl rfl S6 rfl rfl rfl rfl sz73 rfl rfl rfl rfl ?_)
          intro w7 S7; clear S6
          refine wl_end rfl ?_
          refine nm_sub [(4, _), (32, _), (33, _), (34, _), (7, _)] ⟨rfl, rfl, rfl, rfl, rfl, trivial⟩ ?_
          refine nm_thn ?_
          refine ws_seqN Passes_n39 Passes_n40 rfl rfl rfl ?_
          refine ws_draw rfl (by kernel_rfl) S7 24 rfl ?_
          clear S7
          refine wa_takeP (i := 0) (d := 38) 23 rfl (by kernel_rfl) (by kernel_rfl) (by kernel_rfl) rfl rfl rfl (fun w8 => run_move rfl rfl) ?_
          refine wa_takeP (i := 1) (d := 39) 22 rfl (by kernel_rfl) (by kernel_rfl) (by kernel_rfl) rfl rfl rfl (fun w9 => run_fieldAddr rfl rfl Try.underlying73 rfl (ce3) (nf3)) ?_
          refine wa_take (i := 2) (d := 40) 21 rfl (by kernel_rfl) (by kernel_rfl) (by kernel_rfl) rfl rfl rfl (fun M3 N3 w10 hle5 S10 => .inl (run_load1 rfl rfl Try.underlying3 rfl (S10.suf.boxc (i := 0) rfl rfl))) ?_
          refine wa_take (i := 3) (d := 41) 20 rfl (by kernel_rfl) (by kernel_rfl) (by kernel_rfl) rfl rfl rfl (fun M4 N4 w11 hle6 S11 => .inl (run_indexR (C := cdInt) (i := 1) (((ga d.crs k).b).toNat) rfl rfl rfl sl44 S11.suf rfl (by first | rfl | omega) (by first | omega | (simp only [List.length_set, List.length_append, List.length_replicate, List.length_singleton, List.length_cons, List.length_nil]; omega)))) ?_
          refine wa_take (i := 4) (d := 42) 19 rfl (by kernel_rfl) (by kernel_rfl) (by kernel_rfl) rfl rfl rfl (fun M5 N5 w12 hle7 S12 => .inl (run_load1 rfl rfl Try.underlying3 rfl (S12.suf.rowc (i := 1) (e := ((ga d.crs k).b).toNat) (j := 0) rfl (by first | omega | (simp only [List.length_set, List.length_append, List.length_replicate, List.length_singleton, List.length_cons, List.length_nil]; omega)) rfl rfl))) ?_
          refine wa_takeP (i := 5) (d := 43) 18 rfl (by kernel_rfl) (by kernel_rfl) (by kernel_rfl) rfl rfl rfl (fun w13 => run_move rfl rfl) ?_
          refine wa_takeP (i := 6) (d := 44) 17 rfl (by kernel_rfl) (by kernel_rfl) (by kernel_rfl) rfl rfl rfl (fun w14 => run_fieldAddr rfl rfl Try.underlying73 rfl (ce3) (nf3)) ?_
          refine wa_take (i := 7) (d := 45) 16 rfl (by kernel_rfl) (by kernel_rfl) (by kernel_rfl) rfl rfl rfl (fun M8 N8 w15 hle10 S15 => .inl (run_load1 rfl rfl Try.underlying3 rfl (S15.suf.boxc (i := 0) rfl rfl))) ?_
          refine wa_take (i := 8) (d := 46) 15 rfl (by kernel_rfl) (by kernel_rfl) (by kernel_rfl) rfl rfl rfl (fun M9 N9 w16 hle11 S16 => .inl (run_indexR (C := cdInt) (i := 1) (((ga d.crs k).d).toNat) rfl rfl rfl sl44 S16.suf rfl (by first | rfl | omega) (by first | omega | (simp only [List.length_set, List.length_append, List.length_replicate, List.length_singleton, List.length_cons, List.length_nil]; omega)))) ?_
          refine wa_take (i := 9) (d := 47) 14 rfl (by kernel_rfl) (by kernel_rfl) (by kernel_rfl) rfl rfl rfl (fun M10 N10 w17 hle12 S17 => .inl (run_load1 rfl rfl Try.underlying3 rfl (S17.suf.rowc (i := 1) (e := ((ga d.crs k).d).toNat) (j := 0) rfl (by first | omega | (simp only [List.length_set, List.length_append, List.length_replicate, List.length_singleton, List.length_cons, List.length_nil]; omega)) rfl rfl))) ?_
          refine wa_take (i := 10) (d := 48) 13 rfl (by kernel_rfl) (by kernel_rfl) (by kernel_rfl) rfl rfl rfl (fun M11 N11 w18 hle13 S18 => .inl (run_max rfl rfl rfl rfl rfl)) ?_
          refine wa_takeP (i := 11) (d := 49) 12 rfl (by kernel_rfl) (by kernel_rfl) (by kernel_rfl) rfl rfl rfl (fun w19 => run_move rfl rfl) ?_
          refine wa_takeP (i := 12) (d := 50) 11 rfl (by kernel_rfl) (by kernel_rfl) (by kernel_rfl) rfl rfl rfl (fun w20 => run_fieldAddr rfl rfl Try.underlying73 rfl (ce3) (nf3)) ?_
          refine wa_take (i := 13) (d := 51) 10 rfl (by kernel_rfl) (by kernel_rfl) (by kernel_rfl) rfl rfl rfl (fun M14 N14 w21 hle16 S21 => .inl (run_load1 rfl rfl Try.underlying3 rfl (S21.suf.boxc (i := 0) rfl rfl))) ?_
          refine wa_take (i := 14) (d := 52) 9 rfl (by kernel_rfl) (by kernel_rfl) (by kernel_rfl) rfl rfl rfl (fun M15 N15 w22 hle17 S22 => .inl (run_indexR (C := cdInt) (i := 1) (((ga d.crs k).b).toNat) rfl rfl rfl sl44 S22.suf rfl (by first | rfl | omega) (by first | omega | (simp only [List.length_set, List.length_append, List.length_replicate, List.length_singleton, List.length_cons, List.length_nil]; omega)))) ?_
          refine wa_take (i := 15) (d := 53) 8 rfl (by kernel_rfl) (by kernel_rfl) (by kernel_rfl) rfl rfl rfl (fun M16 N16 w23 hle18 S23 => .inl (run_load1 rfl rfl Try.underlying3 rfl (S23.suf.rowc (i := 1) (e := ((ga d.crs k).b).toNat) (j := 0) rfl (by first | omega | (simp only [List.length_set, List.length_append, List.length_replicate, List.length_singleton, List.length_cons, List.length_nil]; omega)) rfl rfl))) ?_
          refine wa_takeP (i := 16) (d := 54) 7 rfl (by kernel_rfl) (by kernel_rfl) (by kernel_rfl) rfl rfl rfl (fun w24 => run_move rfl rfl) ?_
          refine wa_takeP (i := 17) (d := 55) 6 rfl (by kernel_rfl) (by kernel_rfl) (by kernel_rfl) rfl rfl rfl (fun w25 => run_fieldAddr rfl rfl Try.underlying73 rfl (ce3) (nf3)) ?_
          refine wa_take (i := 18) (d := 56) 5 rfl (by kernel_rfl) (by kernel_rfl) (by kernel_rfl) rfl rfl rfl (fun M19 N19 w26 hle21 S26 => .inl (run_load1 rfl rfl Try.underlying3 rfl (S26.suf.boxc (i := 0) rfl rfl))) ?_
          refine wa_take (i := 19) (d := 57) 4 rfl (by kernel_rfl) (by kernel_rfl) (by kernel_rfl) rfl rfl rfl (fun M20 N20 w27 hle22 S27 => .inl (run_indexR (C := cdInt) (i := 1) (((ga d.crs k).d).toNat) rfl rfl rfl sl44 S27.suf rfl (by first | rfl | omega) (by first | omega | (simp only [List.length_set, List.length_append, List.length_replicate, List.length_singleton, List.length_cons, List.length_nil]; omega)))) ?_
          refine wa_take (i := 20) (d := 58) 3 rfl (by kernel_rfl) (by kernel_rfl) (by kernel_rfl) rfl rfl rfl (fun M21 N21 w28 hle23 S28 => .inl (run_load1 rfl rfl Try.underlying3 rfl (S28.suf.rowc (i := 1) (e := ((ga d.crs k).d).toNat) (j := 0) rfl (by first | omega | (simp only [List.length_set, List.length_append, List.length_replicate, List.length_singleton, List.length_cons, List.length_nil]; omega)) rfl rfl))) ?_
          refine wa_take (i := 21) (d := 59) 2 rfl (by kernel_rfl) (by kernel_rfl) (by kernel_rfl) rfl rfl rfl (fun M22 N22 w29 hle24 S29 => .inl (run_min rfl rfl rfl rfl rfl)) ?_
          refine wa_takeP (i := 22) (d := 8) 1 rfl (by kernel_rfl) (by kernel_rfl) (by kernel_rfl) rfl rfl rfl (fun w30 => run_assign rfl rfl) ?_
          refine wa_takeP (i := 23) (d := 9) 0 rfl (by kernel_rfl) (by kernel_rfl) (by kernel_rfl) rfl rfl rfl (fun w31 => run_assign rfl rfl) ?_
          refine wa_end (by kernel_rfl) (fun w32 S32 => ?_)
          refine nm_sub [(4, _), (32, _), (33, _), (34, _), (8, _), (9, _)] ⟨rfl, rfl, rfl, rfl, rfl, rfl, trivial⟩ ?_
          refine nm_thn ?_
          refine ws_seqN Passes_n41 Passes_n42 rfl rfl rfl ?_
          refine ws_eq 8 (.int .i64 (frC d cl k)) rfl (int_eq rfl) ?_
          refine ws_eq 9 (.int .i64 (toC d cl k)) rfl (int_eq rfl) ?_
          refine ws_region rfl ?_
          refine wl_op (k := 0) (k' := 1) rfl rfl rfl (wo_run rfl rfl (run_move rfl rfl) ?_)
          refine wl_op (k := 1) (k' := 2) rfl rfl rfl (wo_run rfl rfl (run_lenR (C := cdInt) (i := 1) rfl rfl rfl rfl rfl rfl sl44 S32 rfl) ?_)
          refine wl_op (k := 2) (k' := 3) rfl rfl rfl (wo_run rfl rfl (run_move rfl rfl) ?_)
          refine wl_end rfl ?_
          refine nm_sub [(4, _), (32, _), (33, _), (34, _), (8, _), (9, _), (61, _), (62, _)] ⟨rfl, rfl, rfl, rfl, rfl, rfl, rfl, rfl, trivial⟩ ?_
          refine nm_thn ?_
          refine ws_blockN Passes_n43 4 rfl rfl rfl ?_
          refine ws_loopE (fun mx_ ax_ wx_ => ∃ (a : Nat) (cl2 : List Int) (vrc2 : Value), mx_ = 2 * d.crs.length + 1 - a ∧ Env 110 [(4, vrc2), (32, .slice cA d.crs.length cc), (33, .int .i64 (d.crs.length : Int)), (34, .int .i64 (k : Int)), (8, .int .i64 (frC d cl k)), (9, .int .i64 (toC d cl k)), (61, .int .i64 (cl.length : Int)), (62, .int .i64 (a : Int))] ax_ ∧ SH wx_ M X [Rs.row cdInt vrc2 cl2] ∧ a ≤ 2 * d.crs.length + 1 ∧ cl2 = relN cl (frC d cl k) (toC d cl k) a) rfl ?_ ?_
          · intro ax_ hax_
            refine ⟨_, ⟨0, _, _, rfl, hax_.sub ⟨rfl, rfl, rfl, rfl, rfl, rfl, rfl, rfl, trivial⟩, S32.pick [1] [_] (by decide) ⟨rfl, trivial⟩, ?hq4f0, ?hq4f1⟩⟩
            case hq4f0 => omega
            case hq4f1 => rfl
          · rintro m3 a3 w33 ⟨a, cl2, vrc2, rfl, he3, S33, ha, hc2⟩
            clear S32
            refine ws_in he3 (c := Passes_n44) rfl ?_
            clear he3 a3
            have hl2 : cl2.length = 2 * d.crs.length + 1 := by rw [hc2, relN_len, hll]
            refine ws_seqN Passes_n45 Passes_n46 rfl rfl rfl ?_
            refine ws_region rfl ?_
            refine wl_op (k := 0) (k' := 1) rfl rfl rfl (wo_run rfl rfl (run_lss rfl rfl rfl) ?_)
            refine wl_end rfl ?_
            refine nm_thn ?_
            refine ws_seqN Passes_n47 Passes_n48 rfl rfl rfl ?_
            refine ws_condN Passes_n49 Passes_n50 rfl rfl rfl rfl (fun hb63 => ?_) (fun hb63 => ?_)
            · have hb63 := of_decide_eq_true hb63
              refine ws_skip rfl ?_
              refine nm_sub [(4, _), (32, _), (33, _), (34, _), (8, _), (9, _), (61, _), (62, _)] ⟨rfl, rfl, rfl, rfl, rfl, rfl, rfl, rfl, trivial⟩ ?_
              refine nm_thn ?_
              refine ws_seqN Passes_n51 Passes_n52 rfl rfl rfl ?_
              refine ws_blockN Passes_n53 5 rfl rfl rfl ?_
              refine ws_seqN Passes_n54 Passes_n55 rfl rfl rfl ?_
              refine ws_region rfl ?_
              refine wl_op (k := 0) (k' := 1) rfl rfl rfl (wo_run rfl rfl (run_move rfl rfl) ?_)
              refine wl_op (k := 1) (k' := 2) rfl rfl rfl (wo_run rfl rfl (run_assign rfl rfl) ?_)
              refine wl_end rfl ?_
              refine nm_sub [(4, _), (32, _), (33, _), (34, _), (8, _), (9, _), (61, _), (62, _), (10, _)] ⟨rfl, rfl, rfl, rfl, rfl, rfl, rfl, rfl, rfl, trivial⟩ ?_
              refine nm_thn ?_
              refine ws_seqN Passes_n56 Passes_n57 rfl rfl rfl ?_
              refine ws_region rfl ?_
              refine wl_op (k := 0) (k' := 1) rfl rfl rfl (wo_run rfl rfl (run_move rfl rfl) ?_)
              refine wl_op (k := 1) (k' := 2) rfl rfl rfl (wo_run rfl rfl (run_move rfl rfl) ?_)
              refine wl_op (k := 2) (k' := 3) rfl rfl rfl (wo_run rfl rfl (run_indexR (C := cdInt) (i := 0) a rfl rfl rfl sl44 S33 rfl (by first | rfl | omega) (by first | omega | (simp only [List.length_set, List.length_append, List.length_replicate, List.length_singleton, List.length_cons, List.length_nil]; omega))) ?_)
              refine wl_op (k := 3) (k' := 4) rfl rfl rfl (wo_run rfl rfl (run_load1 rfl rfl Try.underlying3 rfl (S33.rowc (i := 0) (e := a) (j := 0) rfl (by first | omega | (simp only [List.length_set, List.length_append, List.length_replicate, List.length_singleton, List.length_cons, List.length_nil]; omega)) rfl rfl)) ?_)
              refine wl_op (k := 4) (k' := 5) rfl rfl rfl (wo_run rfl rfl (run_move rfl rfl) ?_)
              refine wl_op (k := 5) (k' := 6) rfl rfl rfl (wo_run rfl rfl (run_eql rfl rfl rfl) ?_)
              refine wl_end rfl ?_
              refine nm_sub [(4, _), (32, _), (33, _), (34, _), (8, _), (9, _), (61, _), (62, _), (10, _), (70, _)] ⟨rfl, rfl, rfl, rfl, rfl, rfl, rfl, rfl, rfl, rfl, trivial⟩ ?_
              refine nm_thn ?_
              refine ws_condN Passes_n58 Passes_n59 rfl rfl rfl rfl (fun hb70 => ?_) (fun hb70 => ?_)
              · have hb70 := of_decide_eq_true hb70
                refine ws_region rfl ?_
                refine wl_op (k := 0) (k' := 1) rfl rfl rfl (wo_run rfl rfl (run_move rfl rfl) ?_)
                refine wl_op (k := 1) (k' := 2) rfl rfl rfl (wo_run rfl rfl (run_move rfl rfl) ?_)
                refine wl_op (k := 2) (k' := 3) rfl rfl rfl (wo_run rfl rfl (run_move rfl rfl) ?_)
                refine wl_op (k := 3) (k' := 4) rfl rfl rfl (wo_run rfl rfl (run_indexR (C := cdInt) (i := 0) a rfl rfl rfl sl44 S33 rfl (by first | rfl | omega) (by first | omega | (simp only [List.length_set, List.length_append, List.length_replicate, List.length_singleton, List.length_cons, List.length_nil]; omega))) ?_)
                refine wl_op (k := 4) (k' := 5) rfl rfl rfl (wo_storeR (C := cdInt) (i := 0) (e := a) (j := 0) (us := [_]) (H' := [_]) (toC d cl k) rfl rfl S33 rfl (by first | omega | (simp only [List.length_set, List.length_append, List.length_replicate, List.length_singleton, List.length_cons, List.length_nil]; omega)) rfl rfl rfl sz3 rfl rfl rfl rfl ?_)
                intro w34 S34; clear S33
                refine wl_end rfl ?_
                refine nm_blk ?_
                refine nm_sub [(4, _), (32, _), (33, _), (34, _), (8, _), (9, _), (61, _), (62, _)] ⟨rfl, rfl, rfl, rfl, rfl, rfl, rfl, rfl, trivial⟩ ?_
                refine nm_thn ?_
                refine ws_region rfl ?_
                refine wl_op (k := 0) (k' := 1) rfl rfl rfl (wo_run rfl rfl (run_add rfl rfl rfl (by first | omega | (simp only [List.length_set, List.length_append, List.length_replicate, List.length_singleton, List.length_cons, List.length_nil]; omega))) ?_)
                refine wl_op (k := 1) (k' := 2) rfl rfl rfl (wo_run rfl rfl (run_move rfl rfl) ?_)
                refine wl_end rfl ?_
                refine nm_lp ?_
                intro ax_ hax_
                refine ⟨_, ?hq5m, ⟨a + 1, _, _, rfl, hax_.sub ⟨rfl, rfl, rfl, rfl, rfl, rfl, rfl, rfl, trivial⟩, S34.pick [0] [_] (by decide) ⟨rfl, trivial⟩, ?hq5f0, ?hq5f1⟩⟩
                case hq5f0 => omega
                case hq5f1 => (rw [relN, ← hc2]; first | rw [if_pos hb70] | rw [if_neg hb70])
                case hq5m => omega
              · have hb70 := of_decide_eq_false hb70
                refine ws_skip rfl ?_
                refine nm_blk ?_
                refine nm_sub [(4, _), (32, _), (33, _), (34, _), (8, _), (9, _), (61, _), (62, _)] ⟨rfl, rfl, rfl, rfl, rfl, rfl, rfl, rfl, trivial⟩ ?_
                refine nm_thn ?_
                refine ws_region rfl ?_
                refine wl_op (k := 0) (k' := 1) rfl rfl rfl (wo_run rfl rfl (run_add rfl rfl rfl (by first | omega | (simp only [List.length_set, List.length_append, List.length_replicate, List.length_singleton, List.length_cons, List.length_nil]; omega))) ?_)
                refine wl_op (k := 1) (k' := 2) rfl rfl rfl (wo_run rfl rfl (run_move rfl rfl) ?_)
                refine wl_end rfl ?_
                refine nm_lp ?_
                intro ax_ hax_
                refine ⟨_, ?hq6m, ⟨a + 1, _, _, rfl, hax_.sub ⟨rfl, rfl, rfl, rfl, rfl, rfl, rfl, rfl, trivial⟩, S33.pick [0] [_] (by decide) ⟨rfl, trivial⟩, ?hq6f0, ?hq6f1⟩⟩
                case hq6f0 => omega
                case hq6f1 => (rw [relN, ← hc2]; first | rw [if_pos hb70] | rw [if_neg hb70])
                case hq6m => omega
            · have hb63 := of_decide_eq_false hb63
              refine ws_exit rfl rfl ?_
              refine nm_blk ?_
              refine nm_sub [(4, _), (32, _), (33, _), (34, _)] ⟨rfl, rfl, rfl, rfl, trivial⟩ ?_
              refine nm_thn ?_
              refine ws_region rfl ?_
              refine wl_op (k := 0) (k' := 1) rfl rfl rfl (wo_run rfl rfl (run_add rfl rfl rfl (by first | omega | (simp only [List.length_set, List.length_append, List.length_replicate, List.length_singleton, List.length_cons, List.length_nil]; omega))) ?_)
              refine wl_op (k := 1) (k' := 2) rfl rfl rfl (wo_run rfl rfl (run_move rfl rfl) ?_)
              refine wl_end rfl ?_
              refine nm_lp ?_
              intro ax_ hax_
              refine ⟨_, ?hq7m, ⟨k + 1, _, _, rfl, hax_.sub ⟨rfl, rfl, rfl, rfl, trivial⟩, S33.pick [0] [_] (by decide) ⟨rfl, trivial⟩, ?hq7f0, ?hq7f1⟩⟩
              case hq7f0 => omega
              case hq7f1 => (obtain rfl : a = 2 * d.crs.length + 1 := (by omega); rw [hc2, hcl]; rfl)
              case hq7m => omega
        · have hb35 := of_decide_eq_false hb35
          refine ws_exit rfl rfl ?_
          refine nm_sub [(4, _)] ⟨rfl, trivial⟩ ?_
          refine nm_thn ?_
          refine ws_seqN Passes_n60 Passes_n61 rfl rfl rfl ?_
          obtain rfl : k = d.crs.length := by omega
          have hcL : cl = clsL d := hcl
          have hok : ∀ x, x < 2 * d.crs.length + 1 → 0 ≤ ga cl x ∧ ga cl x ≤ x ∧ ga cl (ga cl x).toNat = ga cl x := by rw [hcL]; exact (clsN_ok hab _ (Nat.le_refl _)).2
          have hok0 := hok 0 (by omega)
          refine ws_region rfl ?_
          refine wl_op (k := 0) (k' := 1) rfl rfl rfl (wo_run rfl rfl (run_move rfl rfl) ?_)
          refine wl_op (k := 1) (k' := 2) rfl rfl rfl (wo_run rfl rfl (run_lenR (C := cdInt) (i := 0) rfl rfl rfl rfl rfl rfl sl44 S5 rfl) ?_)
          refine wl_op (k := 2) (k' := 3) rfl rfl rfl (wo_make (C := cdInt) cl.length rfl rfl rfl rfl rfl sl44 (by first | rfl | omega) (by show _ * 8 ≤ _; first | omega | (simp only [List.length_set, List.length_append, List.length_replicate, List.length_singleton, List.length_cons, List.length_nil]; omega)) S5 ?_)
          intro vr2 w35 S35; clear S5
          refine wl_op (k := 3) (k' := 4) rfl rfl rfl (wo_run rfl rfl (run_assign rfl rfl) ?_)
          refine wl_op (k := 4) (k' := 5) rfl rfl rfl (wo_run rfl rfl (run_assign rfl rfl) ?_)
          refine wl_end rfl ?_
          refine nm_sub [(4, _), (11, _), (12, _)] ⟨rfl, rfl, rfl, trivial⟩ ?_
          refine nm_thn ?_
          refine ws_seqN Passes_n62 Passes_n63 rfl rfl rfl ?_
          refine ws_seqN Passes_n64 Passes_n65 rfl rfl rfl ?_
          refine ws_eq 12 (.int .i64 (rk d 1)) rfl (int_eq (rk_one d).symm) ?_
          refine ws_region rfl ?_
          refine wl_op (k := 0) (k' := 1) rfl rfl rfl (wo_run rfl rfl (run_assign rfl rfl) ?_)
          refine wl_end rfl ?_
          refine nm_sub [(4, _), (11, _), (12, _), (13, _)] ⟨rfl, rfl, rfl, rfl, trivial⟩ ?_
          refine nm_thn ?_
          refine ws_blockN Passes_n66 6 rfl rfl rfl ?_
          refine ws_loopE (fun mx_ ax_ wx_ => ∃ (a : Nat) (oc : List Int) (vro : Value), mx_ = 2 * d.crs.length + 1 - a ∧ Env 110 [(4, vrc), (11, vro), (12, .int .i64 (rk d a)), (13, .int .i64 (a : Int))] ax_ ∧ SH wx_ M X [Rs.row cdInt vro oc, Rs.row cdInt vrc cl] ∧ (1 ≤ a ∧ a ≤ 2 * d.crs.length + 1) ∧ oc.length = 2 * d.crs.length + 1 ∧ (∀ x, x < a → ga oc x = ovA d x)) rfl ?_ ?_
          · intro ax_ hax_
            refine ⟨_, ⟨1, _, _, rfl, hax_.sub ⟨rfl, rfl, rfl, rfl, trivial⟩, S35.pick [0, 1] [_, _] (by decide) ⟨rfl, rfl, trivial⟩, ?hq8f0, ?hq8f1, ?hq8f2⟩⟩
            case hq8f0 => omega
            case hq8f1 => (rw [List.length_replicate, hll])
            case hq8f2 => (intro x hx; obtain rfl : x = 0 := (by omega); rw [ga_rep _ _ _ (by omega)]; unfold ovA; rw [show (ga (clsL d) 0).toNat = 0 by rw [← hcL]; omega]; rfl)
          · rintro m4 a4 w36 ⟨a, oc, vro, rfl, he4, S36, ha, hol, hov⟩
            clear S35
            refine ws_in he4 (c := Passes_n67) rfl ?_
            clear he4 a4
            refine ws_seqN Passes_n68 Passes_n69 rfl rfl rfl ?_
            refine ws_seqN Passes_n70 Passes_n71 rfl rfl rfl ?_
            refine ws_region rfl ?_
            refine wl_op (k := 0) (k' := 1) rfl rfl rfl (wo_run rfl rfl (run_move rfl rfl) ?_)
            refine wl_op (k := 1) (k' := 2) rfl rfl rfl (wo_run rfl rfl (run_move rfl rfl) ?_)
            refine wl_op (k := 2) (k' := 3) rfl rfl rfl (wo_run rfl rfl (run_lenR (C := cdInt) (i := 1) rfl rfl rfl rfl rfl rfl sl44 S36 rfl) ?_)
            refine wl_op (k := 3) (k' := 4) rfl rfl rfl (wo_run rfl rfl (run_lss rfl rfl rfl) ?_)
            refine wl_end rfl ?_
            refine nm_sub [(4, _), (11, _), (12, _), (13, _), (83, _)] ⟨rfl, rfl, rfl, rfl, rfl, trivial⟩ ?_
            refine nm_thn ?_
            refine ws_condN Passes_n72 Passes_n73 rfl rfl rfl rfl (fun hb83 => ?_) (fun hb83 => ?_)
            · have hb83 := of_decide_eq_true hb83
              obtain ⟨o1, o2, o3⟩ := hok a (by omega)
              have hrk := rk_bd d a
              refine ws_skip rfl ?_
              refine nm_sub [(4, _), (11, _), (12, _), (13, _)] ⟨rfl, rfl, rfl, rfl, trivial⟩ ?_
              refine nm_thn ?_
              refine ws_seqN Passes_n74 Passes_n75 rfl rfl rfl ?_
              refine ws_blockN Passes_n76 7 rfl rfl rfl ?_
              refine ws_seqN Passes_n77 Passes_n78 rfl rfl rfl ?_
              refine ws_region rfl ?_
              refine wl_op (k := 0) (k' := 1) rfl rfl rfl (wo_run rfl rfl (run_move rfl rfl) ?_)
              refine wl_op (k := 1) (k' := 2) rfl rfl rfl (wo_run rfl rfl (run_move rfl rfl) ?_)
              refine wl_op (k := 2) (k' := 3) rfl rfl rfl (wo_run rfl rfl (run_indexR (C := cdInt) (i := 1) a rfl rfl rfl sl44 S36 rfl (by first | rfl | omega) (by first | omega | (simp only [List.length_set, List.length_append, List.length_replicate, List.length_singleton, List.length_cons, List.length_nil]; omega))) ?_)
              refine wl_op (k := 3) (k' := 4) rfl rfl rfl (wo_run rfl rfl (run_load1 rfl rfl Try.underlying3 rfl (S36.rowc (i := 1) (e := a) (j := 0) rfl (by first | omega | (simp only [List.length_set, List.length_append, List.length_replicate, List.length_singleton, List.length_cons, List.length_nil]; omega)) rfl rfl)) ?_)
              refine wl_op (k := 4) (k' := 5) rfl rfl rfl (wo_run rfl rfl (run_move rfl rfl) ?_)
              refine wl_op (k := 5) (k' := 6) rfl rfl rfl (wo_run rfl rfl (run_eql rfl rfl rfl) ?_)
              refine wl_end rfl ?_
              refine nm_sub [(4, _), (11, _), (12, _), (13, _), (91, _)] ⟨rfl, rfl, rfl, rfl, rfl, trivial⟩ ?_
              refine nm_thn ?_
              refine ws_condN Passes_n79 Passes_n80 rfl rfl rfl rfl (fun hb91 => ?_) (fun hb91 => ?_)
              · have hb91 := of_decide_eq_true hb91
                refine ws_seqN Passes_n81 Passes_n82 rfl rfl rfl ?_
                refine ws_region rfl ?_
                refine wl_op (k := 0) (k' := 1) rfl rfl rfl (wo_run rfl rfl (run_move rfl rfl) ?_)
                refine wl_op (k := 1) (k' := 2) rfl rfl rfl (wo_run rfl rfl (run_move rfl rfl) ?_)
                refine wl_op (k := 2) (k' := 3) rfl rfl rfl (wo_run rfl rfl (run_move rfl rfl) ?_)
                refine wl_op (k := 3) (k' := 4) rfl rfl rfl (wo_run rfl rfl (run_indexR (C := cdInt) (i := 0) a rfl rfl rfl sl44 S36 rfl (by first | rfl | omega) (by first | omega | (simp only [List.length_set, List.length_append, List.length_replicate, List.length_singleton, List.length_cons, List.length_nil]; omega))) ?_)
                refine wl_op (k := 4) (k' := 5) rfl rfl rfl (wo_storeR (C := cdInt) (i := 0) (e := a) (j := 0) (us := [_]) (H' := [_, _]) (rk d a) rfl rfl S36 rfl (by first | omega | (simp only [List.length_set, List.length_append, List.length_replicate, List.length_singleton, List.length_cons, List.length_nil]; omega)) rfl rfl rfl sz3 rfl rfl rfl rfl ?_)
                intro w37 S37; clear S36
                refine wl_end rfl ?_
                refine nm_sub [(4, _), (11, _), (12, _), (13, _)] ⟨rfl, rfl, rfl, rfl, trivial⟩ ?_
                refine nm_thn ?_
                refine ws_region rfl ?_
                refine wl_op (k := 0) (k' := 1) rfl rfl rfl (wo_run rfl rfl (run_move rfl rfl) ?_)
                refine wl_op (k := 1) (k' := 2) rfl rfl rfl (wo_run rfl rfl (run_add rfl rfl rfl (by first | omega | (simp only [List.length_set, List.length_append, List.length_replicate, List.length_singleton, List.length_cons, List.length_nil]; omega))) ?_)
                refine wl_op (k := 2) (k' := 3) rfl rfl rfl (wo_run rfl rfl (run_assign rfl rfl) ?_)
                refine wl_end rfl ?_
                refine nm_blk ?_
                refine nm_sub [(4, _), (11, _), (12, _), (13, _)] ⟨rfl, rfl, rfl, rfl, trivial⟩ ?_
                refine nm_thn ?_
                refine ws_eq 12 (.int .i64 (rk d (a + 1))) rfl (int_eq (by rw [rk_root ha.1 (by rw [← hcL]; exact hb91)])) ?_
                refine ws_region rfl ?_
                refine wl_op (k := 0) (k' := 1) rfl rfl rfl (wo_run rfl rfl (run_move rfl rfl) ?_)
                refine wl_op (k := 1) (k' := 2) rfl rfl rfl (wo_run rfl rfl (run_add rfl rfl rfl (by first | omega | (simp only [List.length_set, List.length_append, List.length_replicate, List.length_singleton, List.length_cons, List.length_nil]; omega))) ?_)
                refine wl_op (k := 2) (k' := 3) rfl rfl rfl (wo_run rfl rfl (run_assign rfl rfl) ?_)
                refine wl_end rfl ?_
                refine nm_lp ?_
                intro ax_ hax_
                refine ⟨_, ?hq9m, ⟨a + 1, _, _, rfl, hax_.sub ⟨rfl, rfl, rfl, rfl, trivial⟩, S37.pick [0, 1] [_, _] (by decide) ⟨rfl, rfl, trivial⟩, ?hq9f0, ?hq9f1, ?hq9f2⟩⟩
                case hq9f0 => omega
                case hq9f1 => simpa using hol
                case hq9f2 => (intro x hx; rw [ga_set _ _ _ _ (by omega)]; split; (rename_i e9; subst e9; unfold ovA; rw [← hcL]; first | exact congrArg (rk d) (by omega) | (rw [hov _ (by omega)]; unfold ovA; rw [← hcL, o3])); exact hov x (by omega))
                case hq9m => omega
              · have hb91 := of_decide_eq_false hb91
                refine ws_region rfl ?_
                refine wl_op (k := 0) (k' := 1) rfl rfl rfl (wo_run rfl rfl (run_move rfl rfl) ?_)
                refine wl_op (k := 1) (k' := 2) rfl rfl rfl (wo_run rfl rfl (run_move rfl rfl) ?_)
                refine wl_op (k := 2) (k' := 3) rfl rfl rfl (wo_run rfl rfl (run_move rfl rfl) ?_)
                refine wl_op (k := 3) (k' := 4) rfl rfl rfl (wo_run rfl rfl (run_move rfl rfl) ?_)
                refine wl_op (k := 4) (k' := 5) rfl rfl rfl (wo_run rfl rfl (run_move rfl rfl) ?_)
                refine wl_op (k := 5) (k' := 6) rfl rfl rfl (wo_run rfl rfl (run_indexR (C := cdInt) (i := 1) a rfl rfl rfl sl44 S36 rfl (by first | rfl | omega) (by first | omega | (simp only [List.length_set, List.length_append, List.length_replicate, List.length_singleton, List.length_cons, List.length_nil]; omega))) ?_)
                refine wl_op (k := 6) (k' := 7) rfl rfl rfl (wo_run rfl rfl (run_load1 rfl rfl Try.underlying3 rfl (S36.rowc (i := 1) (e := a) (j := 0) rfl (by first | omega | (simp only [List.length_set, List.length_append, List.length_replicate, List.length_singleton, List.length_cons, List.length_nil]; omega)) rfl rfl)) ?_)
                refine wl_op (k := 7) (k' := 8) rfl rfl rfl (wo_run rfl rfl (run_indexR (C := cdInt) (i := 0) ((ga cl a).toNat) rfl rfl rfl sl44 S36 rfl (by first | rfl | omega) (by first | omega | (simp only [List.length_set, List.length_append, List.length_replicate, List.length_singleton, List.length_cons, List.length_nil]; omega))) ?_)
                refine wl_op (k := 8) (k' := 9) rfl rfl rfl (wo_run rfl rfl (run_load1 rfl rfl Try.underlying3 rfl (S36.rowc (i := 0) (e := (ga cl a).toNat) (j := 0) rfl (by first | omega | (simp only [List.length_set, List.length_append, List.length_replicate, List.length_singleton, List.length_cons, List.length_nil]; omega)) rfl rfl)) ?_)
                refine wl_op (k := 9) (k' := 10) rfl rfl rfl (wo_run rfl rfl (run_indexR (C := cdInt) (i := 0) a rfl rfl rfl sl44 S36 rfl (by first | rfl | omega) (by first | omega | (simp only [List.length_set, List.length_append, List.length_replicate, List.length_singleton, List.length_cons, List.length_nil]; omega))) ?_)
                refine wl_op (k := 10) (k' := 11) rfl rfl rfl (wo_storeR (C := cdInt) (i := 0) (e := a) (j := 0) (us := [_]) (H' := [_, _]) (ga oc ((ga cl a).toNat)) rfl rfl S36 rfl (by first | omega | (simp only [List.length_set, List.length_append, List.length_replicate, List.length_singleton, List.length_cons, List.length_nil]; omega)) rfl rfl rfl sz3 rfl rfl rfl rfl ?_)
                intro w38 S38; clear S36
                refine wl_end rfl ?_
                refine nm_blk ?_
                refine nm_sub [(4, _), (11, _), (12, _), (13, _)] ⟨rfl, rfl, rfl, rfl, trivial⟩ ?_
                refine nm_thn ?_
                refine ws_eq 12 (.int .i64 (rk d (a + 1))) rfl (int_eq (by rw [rk_skip (by rw [← hcL]; exact hb91)])) ?_
                refine ws_region rfl ?_
                refine wl_op (k := 0) (k' := 1) rfl rfl rfl (wo_run rfl rfl (run_move rfl rfl) ?_)
                refine wl_op (k := 1) (k' := 2) rfl rfl rfl (wo_run rfl rfl (run_add rfl rfl rfl (by first | omega | (simp only [List.length_set, List.length_append, List.length_replicate, List.length_singleton, List.length_cons, List.length_nil]; omega))) ?_)
                refine wl_op (k := 2) (k' := 3) rfl rfl rfl (wo_run rfl rfl (run_assign rfl rfl) ?_)
                refine wl_end rfl ?_
                refine nm_lp ?_
                intro ax_ hax_
                refine ⟨_, ?hq10m, ⟨a + 1, _, _, rfl, hax_.sub ⟨rfl, rfl, rfl, rfl, trivial⟩, S38.pick [0, 1] [_, _] (by decide) ⟨rfl, rfl, trivial⟩, ?hq10f0, ?hq10f1, ?hq10f2⟩⟩
                case hq10f0 => omega
                case hq10f1 => simpa using hol
                case hq10f2 => (intro x hx; rw [ga_set _ _ _ _ (by omega)]; split; (rename_i e9; subst e9; unfold ovA; rw [← hcL]; first | exact congrArg (rk d) (by omega) | (rw [hov _ (by omega)]; unfold ovA; rw [← hcL, o3])); exact hov x (by omega))
                case hq10m => omega
            · have hb83 := of_decide_eq_false hb83
              refine ws_exit rfl rfl ?_
              refine nm_sub [(11, _), (12, _)] ⟨rfl, rfl, trivial⟩ ?_
              refine nm_thn ?_
              refine ws_seqN Passes_n83 Passes_n84 rfl rfl rfl ?_
              refine ws_region rfl ?_
              refine wl_op (k := 0) (k' := 1) rfl rfl rfl (wo_run rfl rfl (run_move rfl rfl) ?_)
              refine wl_op (k := 1) (k' := 2) rfl rfl rfl (wo_run rfl rfl (run_move rfl rfl) ?_)
              refine wl_op (k := 2) (k' := 3) rfl rfl rfl (wo_run rfl rfl (run_assign rfl rfl) ?_)
              refine wl_op (k := 3) (k' := 4) rfl rfl rfl (wo_run rfl rfl (run_assign rfl rfl) ?_)
              refine wl_end rfl ?_
              refine nm_sub [(2, _), (3, _)] ⟨rfl, rfl, trivial⟩ ?_
              refine nm_thn ?_
              obtain ⟨M25, hle29, S39, ⟨A1, c1, e1, hr1⟩⟩ := S36.pubrow (i := 0) (H' := [_, _]) rfl rfl (by show _ * 8 ≤ _; first | omega | (simp only [List.length_set, List.length_append, List.length_replicate, List.length_singleton, List.length_cons, List.length_nil]; omega))
              clear S36; subst e1
              replace hsb := hsb.mono (Hp.un_mono hle29 S39.mx)
              replace hsc := hsc.mono (Hp.un_mono hle29 S39.mx)
              replace hsi := hsi.mono (Hp.un_mono hle29 S39.mx)
              replace hso := hso.mono (Hp.un_mono hle29 S39.mx)
              refine ws_ret hC [_, _] rfl rfl ⟨rfl, rfl, trivial⟩ ?_
              refine ⟨_, rfl, _, hle29, (S39.pick [] [] (by decide) trivial), ?_⟩
              obtain rfl : a = 2 * d.crs.length + 1 := by omega
              have e2 : oversL d = oc := ga_ext (by rw [oversL_len, hol]) fun x hx => by rw [oversL_len] at hx; rw [oversL_ga d hx, hov x hx]
              rw [e2]
              exact ⟨_, _, rfl, hr1⟩


def ovTail (d : Dg) : List Int := (List.range (2 * d.crs.length)).map fun q => ovA d (q + 1)
theorem ovTail_eq (d : Dg) : (oversL d).drop 1 = ovTail d := by
  apply List.ext_getElem (by simp [oversL, ovTail])
  intro i h1 h2
  simp [oversL, ovTail, Nat.add_comm]
def oversR (d : Dg) : List Int := if errO d = 0 then ovTail d else []

noncomputable def OversOf_n0 : Code := Try.f40.body.getD .skip
noncomputable def OversOf_n1 : Code := cL OversOf_n0
noncomputable def OversOf_n2 : Code := cR OversOf_n0
noncomputable def OversOf_n3 : Code := cL OversOf_n2
noncomputable def OversOf_n4 : Code := cR OversOf_n2
noncomputable def OversOf_n5 : Code := cL OversOf_n4
noncomputable def OversOf_n6 : Code := cR OversOf_n4
noncomputable def OversOf_n7 : Code := cL OversOf_n6
noncomputable def OversOf_n8 : Code := cR OversOf_n6
noncomputable def OversOf_n9 : Code := cL OversOf_n7
noncomputable def OversOf_n10 : Code := cR OversOf_n7
noncomputable def OversOf_n11 : Code := cL OversOf_n10
noncomputable def OversOf_n12 : Code := cL OversOf_n11
noncomputable def OversOf_n13 : Code := cL OversOf_n12
noncomputable def OversOf_n14 : Code := cR OversOf_n12
noncomputable def OversOf_n15 : Code := cL OversOf_n13
noncomputable def OversOf_n16 : Code := cR OversOf_n13
noncomputable def OversOf_n17 : Code := cL OversOf_n16
noncomputable def OversOf_n18 : Code := cR OversOf_n16
noncomputable def OversOf_n19 : Code := cL OversOf_n14
noncomputable def OversOf_n20 : Code := cR OversOf_n14
noncomputable def OversOf_n21 : Code := cL OversOf_n19
noncomputable def OversOf_n22 : Code := cL OversOf_n8
noncomputable def OversOf_n23 : Code := cR OversOf_n8
noncomputable def OversOf_n24 : Code := cL OversOf_n22
noncomputable def OversOf_n25 : Code := cR OversOf_n22
noncomputable def OversOf_n26 : Code := cL OversOf_n25
noncomputable def OversOf_n27 : Code := cL OversOf_n26
noncomputable def OversOf_n28 : Code := cL OversOf_n27
noncomputable def OversOf_n29 : Code := cR OversOf_n27
noncomputable def OversOf_n30 : Code := cL OversOf_n28
noncomputable def OversOf_n31 : Code := cR OversOf_n28
noncomputable def OversOf_n32 : Code := cL OversOf_n31
noncomputable def OversOf_n33 : Code := cR OversOf_n31
noncomputable def OversOf_n34 : Code := cL OversOf_n29
noncomputable def OversOf_n35 : Code := cR OversOf_n29
noncomputable def OversOf_n36 : Code := cL OversOf_n34
noncomputable def OversOf_n37 : Code := cL OversOf_n36
noncomputable def OversOf_n38 : Code := cR OversOf_n36
noncomputable def OversOf_n39 : Code := cL OversOf_n38
noncomputable def OversOf_n40 : Code := cL OversOf_n39
noncomputable def OversOf_n41 : Code := cL OversOf_n40
noncomputable def OversOf_n42 : Code := cR OversOf_n40
noncomputable def OversOf_n43 : Code := cL OversOf_n41
noncomputable def OversOf_n44 : Code := cR OversOf_n41
noncomputable def OversOf_n45 : Code := cL OversOf_n44
noncomputable def OversOf_n46 : Code := cR OversOf_n44
noncomputable def OversOf_n47 : Code := cL OversOf_n42
noncomputable def OversOf_n48 : Code := cR OversOf_n42
noncomputable def OversOf_n49 : Code := cL OversOf_n47
noncomputable def OversOf_n50 : Code := cL OversOf_n23
noncomputable def OversOf_n51 : Code := cR OversOf_n23
noncomputable def OversOf_n52 : Code := cL OversOf_n51
noncomputable def OversOf_n53 : Code := cR OversOf_n51
noncomputable def OversOf_n54 : Code := cL OversOf_n53
noncomputable def OversOf_n55 : Code := cR OversOf_n53
noncomputable def OversOf_n56 : Code := cL OversOf_n55
noncomputable def OversOf_n57 : Code := cR OversOf_n55
noncomputable def OversOf_n58 : Code := cL OversOf_n56
noncomputable def OversOf_n59 : Code := cR OversOf_n56
noncomputable def OversOf_n60 : Code := cL OversOf_n59
noncomputable def OversOf_n61 : Code := cL OversOf_n60
noncomputable def OversOf_n62 : Code := cL OversOf_n61
noncomputable def OversOf_n63 : Code := cR OversOf_n61
noncomputable def OversOf_n64 : Code := cL OversOf_n62
noncomputable def OversOf_n65 : Code := cR OversOf_n62
noncomputable def OversOf_n66 : Code := cL OversOf_n65
noncomputable def OversOf_n67 : Code := cR OversOf_n65
noncomputable def OversOf_n68 : Code := cL OversOf_n63
noncomputable def OversOf_n69 : Code := cR OversOf_n63
noncomputable def OversOf_n70 : Code := cL OversOf_n68
noncomputable def OversOf_n71 : Code := cL OversOf_n70
noncomputable def OversOf_n72 : Code := cR OversOf_n70
noncomputable def OversOf_n73 : Code := cL OversOf_n71
noncomputable def OversOf_n74 : Code := cR OversOf_n71
noncomputable def OversOf_n75 : Code := cL OversOf_n74
noncomputable def OversOf_n76 : Code := cR OversOf_n74
noncomputable def OversOf_n77 : Code := cL OversOf_n75
noncomputable def OversOf_n78 : Code := cR OversOf_n75
noncomputable def OversOf_n79 : Code := cL OversOf_n57
noncomputable def OversOf_n80 : Code := cR OversOf_n57
set_option maxHeartbeats 1000000 in
set_option maxRecDepth 10000 in
theorem OversOf_t {w : World} {M : Hp} {X : Fr} (d : Dg) {dcrsA : Option Addr} {dcrsc : Nat} (hdcrs : RdA cdCr (M.un X.h) dcrsA dcrsc d.crs) (hn : d.crs.length ≤ 16) (hab : arcsB d = true) (S : SH w M X []) : Ct Try.prog 40 [.agg [.slice dcrsA d.crs.length dcrsc, .int .i64 d.loops].toArray] w M X (fun u N => ∃ A c, u = .slice A (ovTail d).length c ∧ RdA cdInt N A c (ovTail d)) := by
  unfold Ct
  have rmhdcrs : d.crs.length * 40 ≤ 140737488355328 := hdcrs.room
  refine calls_in (b := OversOf_n0) Try.func40 rfl Try.ntmps40 rfl (fun C hC => ?_)
  refine ws_sub [(0, _)] ⟨rfl, trivial⟩ ?_
  refine ws_seqN OversOf_n1 OversOf_n2 rfl rfl rfl ?_
  refine ws_region rfl ?_
  refine wl_op (k := 0) (k' := 1) rfl rfl rfl (wo_box (l := [_, _]) rfl rfl rfl rfl rfl S ?_)
  intro gb1 w1 S1; clear S
  refine wl_op (k := 1) (k' := 2) rfl rfl rfl (wo_run rfl rfl (run_assign rfl rfl) ?_)
  refine wl_end rfl ?_
  refine nm_sub [(1, _)] ⟨rfl, trivial⟩ ?_
  refine nm_thn ?_
  refine ws_seqN OversOf_n3 OversOf_n4 rfl rfl rfl ?_
  refine ws_region rfl ?_
  refine wl_op (k := 0) (k' := 1) rfl rfl rfl (wo_run rfl rfl (run_fieldAddr rfl rfl Try.underlying27 rfl (ce25) (nf25)) ?_)
  refine wl_op (k := 1) (k' := 2) rfl rfl rfl (wo_run rfl rfl (run_load1 rfl rfl Try.underlying25 rfl (S1.boxc (i := 0) rfl rfl)) ?_)
  refine wl_op (k := 2) (k' := 3) rfl rfl rfl (wo_run rfl rfl (run_len rfl rfl rfl rfl rfl rfl Try.underlying25) ?_)
  refine wl_op (k := 3) (k' := 4) rfl rfl rfl (wo_run rfl rfl (run_mul rfl rfl rfl (by first | omega | (simp only [List.length_set, List.length_append, List.length_replicate, List.length_singleton, List.length_cons, List.length_nil]; omega))) ?_)
  refine wl_op (k := 4) (k' := 5) rfl rfl rfl (wo_run rfl rfl (run_assign rfl rfl) ?_)
  refine wl_end rfl ?_
  refine nm_sub [(1, _), (3, _)] ⟨rfl, rfl, trivial⟩ ?_
  refine nm_thn ?_
  refine ws_seqN OversOf_n5 OversOf_n6 rfl rfl rfl ?_
  refine ws_region rfl ?_
  refine wl_op (k := 0) (k' := 1) rfl rfl rfl (wo_run rfl rfl (run_move rfl rfl) ?_)
  refine wl_op (k := 1) (k' := 2) rfl rfl rfl (wo_run rfl rfl (run_add rfl rfl rfl (by first | omega | (simp only [List.length_set, List.length_append, List.length_replicate, List.length_singleton, List.length_cons, List.length_nil]; omega))) ?_)
  refine wl_op (k := 2) (k' := 3) rfl rfl rfl (wo_make (C := cdInt) ((2 * (d.crs.length : Int)).toNat + 1) rfl rfl rfl rfl rfl sl44 (by first | rfl | omega) (by show _ * 8 ≤ _; first | omega | (simp only [List.length_set, List.length_append, List.length_replicate, List.length_singleton, List.length_cons, List.length_nil]; omega)) S1 ?_)
  intro vr1 w2 S2; clear S1
  refine wl_op (k := 3) (k' := 4) rfl rfl rfl (wo_run rfl rfl (run_assign rfl rfl) ?_)
  refine wl_end rfl ?_
  refine nm_sub [(1, _), (3, _), (4, _)] ⟨rfl, rfl, rfl, trivial⟩ ?_
  refine nm_thn ?_
  refine ws_seqN OversOf_n7 OversOf_n8 rfl rfl rfl ?_
  refine ws_seqN OversOf_n9 OversOf_n10 rfl rfl rfl ?_
  refine ws_region rfl ?_
  refine wl_op (k := 0) (k' := 1) rfl rfl rfl (wo_run rfl rfl (run_assign rfl rfl) ?_)
  refine wl_end rfl ?_
  refine nm_thn ?_
  refine ws_blockN OversOf_n11 0 rfl rfl rfl ?_
  refine ws_loopE (fun mx_ ax_ wx_ => ∃ (i : Nat) (ws : List Int) (vrw : Value), mx_ = 2 * d.crs.length + 1 - i ∧ Env 85 [(1, .pointer (some ⟨gb1, 0, none⟩)), (3, .int .i64 (2 * (d.crs.length : Int))), (4, vrw), (5, .int .i64 (i : Int))] ax_ ∧ SH wx_ M X [Rs.row cdInt vrw ws, Rs.box gb1 27 [.slice dcrsA d.crs.length dcrsc, .int .i64 d.loops]] ∧ i ≤ 2 * d.crs.length + 1 ∧ ws = iniW (2 * d.crs.length + 1) i) rfl ?_ ?_
  · intro ax_ hax_
    refine ⟨_, ⟨0, _, _, rfl, hax_.sub ⟨rfl, rfl, rfl, rfl, trivial⟩, S2.pick [0, 1] [_, _] (by decide) ⟨rfl, rfl, trivial⟩, ?hq1f0, ?hq1f1⟩⟩
    case hq1f0 => omega
    case hq1f1 => rfl
  · rintro m1 a1 w3 ⟨i, ws, vrw, rfl, he1, S3, hi, hw⟩
    clear S2
    refine ws_in he1 (c := OversOf_n12) rfl ?_
    clear he1 a1
    have hwl : ws.length = 2 * d.crs.length + 1 := by rw [hw, iniW_len]
    refine ws_seqN OversOf_n13 OversOf_n14 rfl rfl rfl ?_
    refine ws_seqN OversOf_n15 OversOf_n16 rfl rfl rfl ?_
    refine ws_region rfl ?_
    refine wl_op (k := 0) (k' := 1) rfl rfl rfl (wo_run rfl rfl (run_move rfl rfl) ?_)
    refine wl_op (k := 1) (k' := 2) rfl rfl rfl (wo_run rfl rfl (run_move rfl rfl) ?_)
    refine wl_op (k := 2) (k' := 3) rfl rfl rfl (wo_run rfl rfl (run_leq rfl rfl rfl) ?_)
    refine wl_end rfl ?_
    refine nm_sub [(1, _), (3, _), (4, _), (5, _), (21, _)] ⟨rfl, rfl, rfl, rfl, rfl, trivial⟩ ?_
    refine nm_thn ?_
    refine ws_condN OversOf_n17 OversOf_n18 rfl rfl rfl rfl (fun hb21 => ?_) (fun hb21 => ?_)
    · have hb21 := of_decide_eq_true hb21
      refine ws_skip rfl ?_
      refine nm_sub [(1, _), (3, _), (4, _), (5, _)] ⟨rfl, rfl, rfl, rfl, trivial⟩ ?_
      refine nm_thn ?_
      refine ws_seqN OversOf_n19 OversOf_n20 rfl rfl rfl ?_
      refine ws_blockN OversOf_n21 1 rfl rfl rfl ?_
      refine ws_region rfl ?_
      refine wl_op (k := 0) (k' := 1) rfl rfl rfl (wo_run rfl rfl (run_move rfl rfl) ?_)
      refine wl_op (k := 1) (k' := 2) rfl rfl rfl (wo_run rfl rfl (run_move rfl rfl) ?_)
      refine wl_op (k := 2) (k' := 3) rfl rfl rfl (wo_run rfl rfl (run_move rfl rfl) ?_)
      refine wl_op (k := 3) (k' := 4) rfl rfl rfl (wo_run rfl rfl (run_indexR (C := cdInt) (i := 0) i rfl rfl rfl sl44 S3 rfl (by first | rfl | omega) (by first | omega | (simp only [List.length_set, List.length_append, List.length_replicate, List.length_singleton, List.length_cons, List.length_nil]; omega))) ?_)
      refine wl_op (k := 4) (k' := 5) rfl rfl rfl (wo_storeR (C := cdInt) (i := 0) (e := i) (j := 0) (us := [_]) (H' := [_, _]) (i : Int) rfl rfl S3 rfl (by first | omega | (simp only [List.length_set, List.length_append, List.length_replicate, List.length_singleton, List.length_cons, List.length_nil]; omega)) rfl rfl rfl sz3 rfl rfl rfl rfl ?_)
      intro w4 S4; clear S3
      refine wl_end rfl ?_
      refine nm_blk ?_
      refine nm_sub [(1, _), (3, _), (4, _), (5, _)] ⟨rfl, rfl, rfl, rfl, trivial⟩ ?_
      refine nm_thn ?_
      refine ws_region rfl ?_
      refine wl_op (k := 0) (k' := 1) rfl rfl rfl (wo_run rfl rfl (run_move rfl rfl) ?_)
      refine wl_op (k := 1) (k' := 2) rfl rfl rfl (wo_run rfl rfl (run_add rfl rfl rfl (by first | omega | (simp only [List.length_set, List.length_append, List.length_replicate, List.length_singleton, List.length_cons, List.length_nil]; omega))) ?_)
      refine wl_op (k := 2) (k' := 3) rfl rfl rfl (wo_run rfl rfl (run_assign rfl rfl) ?_)
      refine wl_end rfl ?_
      refine nm_lp ?_
      intro ax_ hax_
      refine ⟨_, ?hq2m, ⟨i + 1, _, _, rfl, hax_.sub ⟨rfl, rfl, rfl, rfl, trivial⟩, S4.pick [0, 1] [_, _] (by decide) ⟨rfl, rfl, trivial⟩, ?hq2f0, ?hq2f1⟩⟩
      case hq2f0 => omega
      case hq2f1 => (rw [hw]; rfl)
      case hq2m => omega
    · have hb21 := of_decide_eq_false hb21
      refine ws_exit rfl rfl ?_
      refine nm_sub [(1, _), (3, _), (4, _)] ⟨rfl, rfl, rfl, trivial⟩ ?_
      refine nm_thn ?_
      refine ws_seqN OversOf_n22 OversOf_n23 rfl rfl rfl ?_
      refine ws_seqN OversOf_n24 OversOf_n25 rfl rfl rfl ?_
      refine ws_region rfl ?_
      refine wl_op (k := 0) (k' := 1) rfl rfl rfl (wo_run rfl rfl (run_assign rfl rfl) ?_)
      refine wl_end rfl ?_
      refine nm_thn ?_
      refine ws_blockN OversOf_n26 2 rfl rfl rfl ?_
      refine ws_loopE (fun mx_ ax_ wx_ => ∃ (j : Nat) (ws2 : List Int) (vrw2 : Value), mx_ = 2 * d.crs.length + 1 - j ∧ Env 85 [(1, .pointer (some ⟨gb1, 0, none⟩)), (3, .int .i64 (2 * (d.crs.length : Int))), (4, vrw2), (6, .int .i64 (j : Int))] ax_ ∧ SH wx_ M X [Rs.row cdInt vrw2 ws2, Rs.box gb1 27 [.slice dcrsA d.crs.length dcrsc, .int .i64 d.loops]] ∧ j ≤ 2 * d.crs.length + 1 ∧ ws2 = ovRd d j) rfl ?_ ?_
      · intro ax_ hax_
        refine ⟨_, ⟨0, _, _, rfl, hax_.sub ⟨rfl, rfl, rfl, rfl, trivial⟩, S3.pick [0, 1] [_, _] (by decide) ⟨rfl, rfl, trivial⟩, ?hq3f0, ?hq3f1⟩⟩
        case hq3f0 => omega
        case hq3f1 => (obtain rfl : i = 2 * d.crs.length + 1 := (by omega); exact hw)
      · rintro m2 a2 w5 ⟨j, ws2, vrw2, rfl, he2, S5, hj, hw2⟩
        clear S3
        refine ws_in he2 (c := OversOf_n27) rfl ?_
        clear he2 a2
        have hl2 : ws2.length = 2 * d.crs.length + 1 := by rw [hw2, ovRd_len]
        refine ws_seqN OversOf_n28 OversOf_n29 rfl rfl rfl ?_
        refine ws_seqN OversOf_n30 OversOf_n31 rfl rfl rfl ?_
        refine ws_region rfl ?_
        refine wl_op (k := 0) (k' := 1) rfl rfl rfl (wo_run rfl rfl (run_move rfl rfl) ?_)
        refine wl_op (k := 1) (k' := 2) rfl rfl rfl (wo_run rfl rfl (run_move rfl rfl) ?_)
        refine wl_op (k := 2) (k' := 3) rfl rfl rfl (wo_run rfl rfl (run_leq rfl rfl rfl) ?_)
        refine wl_end rfl ?_
        refine nm_sub [(1, _), (3, _), (4, _), (6, _), (30, _)] ⟨rfl, rfl, rfl, rfl, rfl, trivial⟩ ?_
        refine nm_thn ?_
        refine ws_condN OversOf_n32 OversOf_n33 rfl rfl rfl rfl (fun hb30 => ?_) (fun hb30 => ?_)
        · have hb30 := of_decide_eq_true hb30
          refine ws_skip rfl ?_
          refine nm_sub [(1, _), (3, _), (4, _), (6, _)] ⟨rfl, rfl, rfl, rfl, trivial⟩ ?_
          refine nm_thn ?_
          refine ws_seqN OversOf_n34 OversOf_n35 rfl rfl rfl ?_
          refine ws_blockN OversOf_n36 3 rfl rfl rfl ?_
          refine ws_seqN OversOf_n37 OversOf_n38 rfl rfl rfl ?_
          refine ws_region rfl ?_
          refine wl_op (k := 0) (k' := 1) rfl rfl rfl (wo_run rfl rfl (run_assign rfl rfl) ?_)
          refine wl_end rfl ?_
          refine nm_thn ?_
          refine ws_blockN OversOf_n39 4 rfl rfl rfl ?_
          refine ws_loopE (fun mx_ ax_ wx_ => ∃ (k : Nat) (ws3 : List Int) (vrw3 : Value), mx_ = d.crs.length - k ∧ Env 85 [(1, .pointer (some ⟨gb1, 0, none⟩)), (3, .int .i64 (2 * (d.crs.length : Int))), (4, vrw3), (6, .int .i64 (j : Int)), (7, .int .i64 (k : Int))] ax_ ∧ SH wx_ M X [Rs.row cdInt vrw3 ws3, Rs.box gb1 27 [.slice dcrsA d.crs.length dcrsc, .int .i64 d.loops]] ∧ k ≤ d.crs.length ∧ ws3 = roundG (eB d) (eD d) ws2 k) rfl ?_ ?_
          · intro ax_ hax_
            refine ⟨_, ⟨0, _, _, rfl, hax_.sub ⟨rfl, rfl, rfl, rfl, rfl, trivial⟩, S5.pick [0, 1] [_, _] (by decide) ⟨rfl, rfl, trivial⟩, ?hq4f0, ?hq4f1⟩⟩
            case hq4f0 => omega
            case hq4f1 => rfl
          · rintro m3 a3 w6 ⟨k, ws3, vrw3, rfl, he3, S6, hk, hw3⟩
            clear S5
            refine ws_in he3 (c := OversOf_n40) rfl ?_
            clear he3 a3
            have hl3 : ws3.length = 2 * d.crs.length + 1 := by rw [hw3, roundG_len, hl2]
            have hebd := fun h => cls_bd hab (k := k) h
            refine ws_seqN OversOf_n41 OversOf_n42 rfl rfl rfl ?_
            refine ws_seqN OversOf_n43 OversOf_n44 rfl rfl rfl ?_
            refine ws_region rfl ?_
            refine wl_op (k := 0) (k' := 1) rfl rfl rfl (wo_run rfl rfl (run_move rfl rfl) ?_)
            refine wl_op (k := 1) (k' := 2) rfl rfl rfl (wo_run rfl rfl (run_fieldAddr rfl rfl Try.underlying27 rfl (ce25) (nf25)) ?_)
            refine wl_op (k := 2) (k' := 3) rfl rfl rfl (wo_run rfl rfl (run_load1 rfl rfl Try.underlying25 rfl (S6.boxc (i := 1) rfl rfl)) ?_)
            refine wl_op (k := 3) (k' := 4) rfl rfl rfl (wo_run rfl rfl (run_len rfl rfl rfl rfl rfl rfl Try.underlying25) ?_)
            refine wl_op (k := 4) (k' := 5) rfl rfl rfl (wo_run rfl rfl (run_lss rfl rfl rfl) ?_)
            refine wl_end rfl ?_
            refine nm_sub [(1, _), (3, _), (4, _), (6, _), (7, _), (37, _)] ⟨rfl, rfl, rfl, rfl, rfl, rfl, trivial⟩ ?_
            refine nm_thn ?_
            refine ws_condN OversOf_n45 OversOf_n46 rfl rfl rfl rfl (fun hb37 => ?_) (fun hb37 => ?_)
            · have hb37 := of_decide_eq_true hb37
              obtain ⟨⟨b1, b2⟩, ⟨b3, b4⟩⟩ := hebd (by omega)
              unfold eB at b1 b2
              unfold eD at b3 b4
              refine ws_skip rfl ?_
              refine nm_sub [(1, _), (3, _), (4, _), (6, _), (7, _)] ⟨rfl, rfl, rfl, rfl, rfl, trivial⟩ ?_
              refine nm_thn ?_
              refine ws_seqN OversOf_n47 OversOf_n48 rfl rfl rfl ?_
              refine ws_blockN OversOf_n49 5 rfl rfl rfl ?_
              refine ws_draw rfl (by kernel_rfl) S6 14 rfl ?_
              clear S6
              refine wa_takeP (i := 0) (d := 40) 13 rfl (by kernel_rfl) (by kernel_rfl) (by kernel_rfl) rfl rfl rfl (fun w7 => run_move rfl rfl) ?_
              refine wa_takeP (i := 1) (d := 41) 12 rfl (by kernel_rfl) (by kernel_rfl) (by kernel_rfl) rfl rfl rfl (fun w8 => run_fieldAddr rfl rfl Try.underlying27 rfl (ce25) (nf25)) ?_
              refine wa_take (i := 2) (d := 42) 11 rfl (by kernel_rfl) (by kernel_rfl) (by kernel_rfl) rfl rfl rfl (fun M3 N3 w9 hle6 S9 => .inl (run_load1 rfl rfl Try.underlying25 rfl (S9.suf.boxc (i := 1) rfl rfl))) ?_
              refine wa_takeP (i := 3) (d := 43) 10 rfl (by kernel_rfl) (by kernel_rfl) (by kernel_rfl) rfl rfl rfl (fun w10 => run_move rfl rfl) ?_
              refine wa_take (i := 4) (d := 44) 9 rfl (by kernel_rfl) (by kernel_rfl) (by kernel_rfl) rfl rfl rfl (fun M5 N5 w11 hle8 S11 => .inl (run_indexM (C := cdCr) k rfl rfl rfl sl25 (by first | rfl | omega) (hdcrs.mono (Hp.un_mono hle8 S11.mx)) (by first | omega | (simp only [List.length_set, List.length_append, List.length_replicate, List.length_singleton, List.length_cons, List.length_nil]; omega)))) ?_
              refine wa_takeP (i := 5) (d := 45) 8 rfl (by kernel_rfl) (by kernel_rfl) (by kernel_rfl) rfl rfl rfl (fun w12 => run_fieldAddr rfl rfl Try.underlying73 rfl (ce3) (nf3)) ?_
              refine wa_take (i := 6) (d := 46) 7 rfl (by kernel_rfl) (by kernel_rfl) (by kernel_rfl) rfl rfl rfl (fun M7 N7 w13 hle10 S13 => .inl (run_load1 rfl rfl Try.underlying3 rfl ((hdcrs.mono (Hp.un_mono hle10 S13.mx)).cell S13.um (i := k) (by first | omega | (simp only [List.length_set, List.length_append, List.length_replicate, List.length_singleton, List.length_cons, List.length_nil]; omega)) 1 rfl rfl))) ?_
              refine wa_takeP (i := 7) (d := 47) 6 rfl (by kernel_rfl) (by kernel_rfl) (by kernel_rfl) rfl rfl rfl (fun w14 => run_fieldAddr rfl rfl Try.underlying27 rfl (ce25) (nf25)) ?_
              refine wa_take (i := 8) (d := 48) 5 rfl (by kernel_rfl) (by kernel_rfl) (by kernel_rfl) rfl rfl rfl (fun M9 N9 w15 hle12 S15 => .inl (run_load1 rfl rfl Try.underlying25 rfl (S15.suf.boxc (i := 1) rfl rfl))) ?_
              refine wa_takeP (i := 9) (d := 49) 4 rfl (by kernel_rfl) (by kernel_rfl) (by kernel_rfl) rfl rfl rfl (fun w16 => run_move rfl rfl) ?_
              refine wa_take (i := 10) (d := 50) 3 rfl (by kernel_rfl) (by kernel_rfl) (by kernel_rfl) rfl rfl rfl (fun M11 N11 w17 hle14 S17 => .inl (run_indexM (C := cdCr) k rfl rfl rfl sl25 (by first | rfl | omega) (hdcrs.mono (Hp.un_mono hle14 S17.mx)) (by first | omega | (simp only [List.length_set, List.length_append, List.length_replicate, List.length_singleton, List.length_cons, List.length_nil]; omega)))) ?_
              refine wa_takeP (i := 11) (d := 51) 2 rfl (by kernel_rfl) (by kernel_rfl) (by kernel_rfl) rfl rfl rfl (fun w18 => run_fieldAddr rfl rfl Try.underlying73 rfl (ce3) (nf3)) ?_
              refine wa_take (i := 12) (d := 52) 1 rfl (by kernel_rfl) (by kernel_rfl) (by kernel_rfl) rfl rfl rfl (fun M13 N13 w19 hle16 S19 => .inl (run_load1 rfl rfl Try.underlying3 rfl ((hdcrs.mono (Hp.un_mono hle16 S19.mx)).cell S19.um (i := k) (by first | omega | (simp only [List.length_set, List.length_append, List.length_replicate, List.length_singleton, List.length_cons, List.length_nil]; omega)) 3 rfl rfl))) ?_
              refine wa_only (i := 13) 0 rfl (by kernel_rfl) rfl rfl (fun w21 S21 => ?_)
              refine (wo_c1 rfl rfl rfl rfl rfl rfl rfl cf74 S21 (i := 0) rfl (level_w vrw3 _ ((ga d.crs k).b) ((ga d.crs k).d) (by omega) (by omega) (S21.lend1 (i := 0) rfl)) ?_)
              rintro vw22 w22 _ _ - S22 ⟨rfl, rfl, rfl⟩; clear S21
              change SH _ _ _ [_, _] at S22
              refine LeftW.turn (by kernel_rfl) S22 ?_; clear S22
              change WA _ _ _ _ _ _ _ _ _ _ _ _ [_, _]
              refine wa_end (by kernel_rfl) (fun w23 S23 => ?_)
              refine nm_blk ?_
              refine nm_sub [(1, _), (3, _), (4, _), (6, _), (7, _)] ⟨rfl, rfl, rfl, rfl, rfl, trivial⟩ ?_
              refine nm_thn ?_
              refine ws_region rfl ?_
              refine wl_op (k := 0) (k' := 1) rfl rfl rfl (wo_run rfl rfl (run_move rfl rfl) ?_)
              refine wl_op (k := 1) (k' := 2) rfl rfl rfl (wo_run rfl rfl (run_add rfl rfl rfl (by first | omega | (simp only [List.length_set, List.length_append, List.length_replicate, List.length_singleton, List.length_cons, List.length_nil]; omega))) ?_)
              refine wl_op (k := 2) (k' := 3) rfl rfl rfl (wo_run rfl rfl (run_assign rfl rfl) ?_)
              refine wl_end rfl ?_
              refine nm_lp ?_
              intro ax_ hax_
              refine ⟨_, ?hq5m, ⟨k + 1, _, _, rfl, hax_.sub ⟨rfl, rfl, rfl, rfl, rfl, trivial⟩, S23.pick [0, 1] [_, _] (by decide) ⟨rfl, rfl, trivial⟩, ?hq5f0, ?hq5f1⟩⟩
              case hq5f0 => omega
              case hq5f1 => (rw [hw3]; rfl)
              case hq5m => omega
            · have hb37 := of_decide_eq_false hb37
              refine ws_exit rfl rfl ?_
              refine nm_blk ?_
              refine nm_sub [(1, _), (3, _), (4, _), (6, _)] ⟨rfl, rfl, rfl, rfl, trivial⟩ ?_
              refine nm_thn ?_
              refine ws_region rfl ?_
              refine wl_op (k := 0) (k' := 1) rfl rfl rfl (wo_run rfl rfl (run_move rfl rfl) ?_)
              refine wl_op (k := 1) (k' := 2) rfl rfl rfl (wo_run rfl rfl (run_add rfl rfl rfl (by first | omega | (simp only [List.length_set, List.length_append, List.length_replicate, List.length_singleton, List.length_cons, List.length_nil]; omega))) ?_)
              refine wl_op (k := 2) (k' := 3) rfl rfl rfl (wo_run rfl rfl (run_assign rfl rfl) ?_)
              refine wl_end rfl ?_
              refine nm_lp ?_
              intro ax_ hax_
              refine ⟨_, ?hq6m, ⟨j + 1, _, _, rfl, hax_.sub ⟨rfl, rfl, rfl, rfl, trivial⟩, S6.pick [0, 1] [_, _] (by decide) ⟨rfl, rfl, trivial⟩, ?hq6f0, ?hq6f1⟩⟩
              case hq6f0 => omega
              case hq6f1 => (obtain rfl : k = d.crs.length := (by omega); rw [hw3, hw2]; rfl)
              case hq6m => omega
        · have hb30 := of_decide_eq_false hb30
          refine ws_exit rfl rfl ?_
          refine nm_sub [(3, _), (4, _)] ⟨rfl, rfl, trivial⟩ ?_
          refine nm_thn ?_
          refine ws_seqN OversOf_n50 OversOf_n51 rfl rfl rfl ?_
          obtain rfl : j = 2 * d.crs.length + 1 := by omega
          have hcL : ws2 = clsL d := by rw [hw2, over_law hab]
          have hok : ∀ x, x < 2 * d.crs.length + 1 → 0 ≤ ga ws2 x ∧ ga ws2 x ≤ x ∧ ga ws2 (ga ws2 x).toNat = ga ws2 x := by rw [hcL]; exact (clsN_ok hab _ (Nat.le_refl _)).2
          refine ws_region rfl ?_
          refine wl_op (k := 0) (k' := 1) rfl rfl rfl (wo_run rfl rfl (run_assign rfl rfl) ?_)
          refine wl_end rfl ?_
          refine nm_thn ?_
          refine ws_seqN OversOf_n52 OversOf_n53 rfl rfl rfl ?_
          refine ws_region rfl ?_
          refine wl_op (k := 0) (k' := 1) rfl rfl rfl (wo_run rfl rfl (run_assign rfl rfl) ?_)
          refine wl_end rfl ?_
          refine nm_thn ?_
          refine ws_seqN OversOf_n54 OversOf_n55 rfl rfl rfl ?_
          refine ws_eq 9 (.int .i64 (rk d (0 + 1))) rfl (int_eq (rk_one d).symm) ?_
          refine ws_region rfl ?_
          refine wl_op (k := 0) (k' := 1) rfl rfl rfl (wo_run rfl rfl (run_move rfl rfl) ?_)
          refine wl_op (k := 1) (k' := 2) rfl rfl rfl (wo_run rfl rfl (run_add rfl rfl rfl (by first | omega | (simp only [List.length_set, List.length_append, List.length_replicate, List.length_singleton, List.length_cons, List.length_nil]; omega))) ?_)
          refine wl_op (k := 2) (k' := 3) rfl rfl rfl (wo_make (C := cdInt) ((2 * (d.crs.length : Int)).toNat + 1) rfl rfl rfl rfl rfl sl44 (by first | rfl | omega) (by show _ * 8 ≤ _; first | omega | (simp only [List.length_set, List.length_append, List.length_replicate, List.length_singleton, List.length_cons, List.length_nil]; omega)) S5 ?_)
          intro vr2 w24 S24; clear S5
          refine wl_op (k := 3) (k' := 4) rfl rfl rfl (wo_run rfl rfl (run_assign rfl rfl) ?_)
          refine wl_end rfl ?_
          refine nm_sub [(3, _), (4, _), (8, _), (9, _), (10, _)] ⟨rfl, rfl, rfl, rfl, rfl, trivial⟩ ?_
          refine nm_thn ?_
          refine ws_seqN OversOf_n56 OversOf_n57 rfl rfl rfl ?_
          refine ws_seqN OversOf_n58 OversOf_n59 rfl rfl rfl ?_
          refine ws_region rfl ?_
          refine wl_op (k := 0) (k' := 1) rfl rfl rfl (wo_run rfl rfl (run_assign rfl rfl) ?_)
          refine wl_end rfl ?_
          refine nm_thn ?_
          refine ws_blockN OversOf_n60 6 rfl rfl rfl ?_
          have S25 := S24.nilrow cdInt; clear S24
          refine ws_loopE (fun mx_ ax_ wx_ => ∃ (a : Nat) (acc : List Int) (nb : List Int) (vra : Value) (vrn : Value), mx_ = 2 * d.crs.length - a ∧ Env 85 [(3, .int .i64 (2 * (d.crs.length : Int))), (4, vrw2), (8, vra), (9, .int .i64 (rk d (a + 1))), (10, vrn), (11, .int .i64 ((a + 1 : Nat) : Int))] ax_ ∧ SH wx_ M X [Rs.row cdInt vra acc, Rs.row cdInt vrn nb, Rs.row cdInt vrw2 ws2] ∧ a ≤ 2 * d.crs.length ∧ nb.length = 2 * d.crs.length + 1 ∧ acc = (List.range a).map (fun q => ovA d (q + 1)) ∧ (∀ x, x < a + 1 → ga (clsL d) x = (x : Int) → ga nb x = rk d x)) rfl ?_ ?_
          · intro ax_ hax_
            refine ⟨_, ⟨0, _, _, _, _, rfl, hax_.sub ⟨rfl, rfl, rfl, rfl, rfl, rfl, trivial⟩, S25.pick [0, 1, 2] [_, _, _] (by decide) ⟨rfl, rfl, rfl, trivial⟩, ?hq7f0, ?hq7f1, ?hq7f2, ?hq7f3⟩⟩
            case hq7f0 => omega
            case hq7f1 => (rw [List.length_replicate]; omega)
            case hq7f2 => rfl
            case hq7f3 => (intro x hx _; obtain rfl : x = 0 := (by omega); rw [ga_rep _ _ _ (by omega)]; rfl)
          · rintro m4 a4 w25 ⟨a, acc, nb, vra, vrn, rfl, he4, S26, ha, hnl, hac, hnb⟩
            clear S25
            refine ws_in he4 (c := OversOf_n61) rfl ?_
            clear he4 a4
            have hal : acc.length = a := by rw [hac]; simp
            refine ws_seqN OversOf_n62 OversOf_n63 rfl rfl rfl ?_
            refine ws_seqN OversOf_n64 OversOf_n65 rfl rfl rfl ?_
            refine ws_region rfl ?_
            refine wl_op (k := 0) (k' := 1) rfl rfl rfl (wo_run rfl rfl (run_move rfl rfl) ?_)
            refine wl_op (k := 1) (k' := 2) rfl rfl rfl (wo_run rfl rfl (run_move rfl rfl) ?_)
            refine wl_op (k := 2) (k' := 3) rfl rfl rfl (wo_run rfl rfl (run_leq rfl rfl rfl) ?_)
            refine wl_end rfl ?_
            refine nm_sub [(3, _), (4, _), (8, _), (9, _), (10, _), (11, _), (59, _)] ⟨rfl, rfl, rfl, rfl, rfl, rfl, rfl, trivial⟩ ?_
            refine nm_thn ?_
            refine ws_condN OversOf_n66 OversOf_n67 rfl rfl rfl rfl (fun hb59 => ?_) (fun hb59 => ?_)
            · have hb59 := of_decide_eq_true hb59
              obtain ⟨o1, o2, o3⟩ := hok (a + 1) (by omega)
              have hrk := rk_bd d (a + 1)
              refine ws_skip rfl ?_
              refine nm_sub [(3, _), (4, _), (8, _), (9, _), (10, _), (11, _)] ⟨rfl, rfl, rfl, rfl, rfl, rfl, trivial⟩ ?_
              refine nm_thn ?_
              refine ws_seqN OversOf_n68 OversOf_n69 rfl rfl rfl ?_
              refine ws_blockN OversOf_n70 7 rfl rfl rfl ?_
              refine ws_seqN OversOf_n71 OversOf_n72 rfl rfl rfl ?_
              refine ws_seqN OversOf_n73 OversOf_n74 rfl rfl rfl ?_
              refine ws_region rfl ?_
              refine wl_op (k := 0) (k' := 1) rfl rfl rfl (wo_run rfl rfl (run_move rfl rfl) ?_)
              refine wl_op (k := 1) (k' := 2) rfl rfl rfl (wo_run rfl rfl (run_move rfl rfl) ?_)
              refine wl_op (k := 2) (k' := 3) rfl rfl rfl (wo_run rfl rfl (run_indexR (C := cdInt) (i := 2) (a + 1) rfl rfl rfl sl44 S26 rfl (by first | rfl | omega) (by first | omega | (simp only [List.length_set, List.length_append, List.length_replicate, List.length_singleton, List.length_cons, List.length_nil]; omega))) ?_)
              refine wl_op (k := 3) (k' := 4) rfl rfl rfl (wo_run rfl rfl (run_load1 rfl rfl Try.underlying3 rfl (S26.rowc (i := 2) (e := a + 1) (j := 0) rfl (by first | omega | (simp only [List.length_set, List.length_append, List.length_replicate, List.length_singleton, List.length_cons, List.length_nil]; omega)) rfl rfl)) ?_)
              refine wl_op (k := 4) (k' := 5) rfl rfl rfl (wo_run rfl rfl (run_move rfl rfl) ?_)
              refine wl_op (k := 5) (k' := 6) rfl rfl rfl (wo_run rfl rfl (run_eql rfl rfl rfl) ?_)
              refine wl_end rfl ?_
              refine nm_sub [(3, _), (4, _), (8, _), (9, _), (10, _), (11, _), (67, _)] ⟨rfl, rfl, rfl, rfl, rfl, rfl, rfl, trivial⟩ ?_
              refine nm_thn ?_
              refine ws_condN OversOf_n75 OversOf_n76 rfl rfl rfl rfl (fun hb67 => ?_) (fun hb67 => ?_)
              · have hb67 := of_decide_eq_true hb67
                refine ws_seqN OversOf_n77 OversOf_n78 rfl rfl rfl ?_
                refine ws_region rfl ?_
                refine wl_op (k := 0) (k' := 1) rfl rfl rfl (wo_run rfl rfl (run_move rfl rfl) ?_)
                refine wl_op (k := 1) (k' := 2) rfl rfl rfl (wo_run rfl rfl (run_move rfl rfl) ?_)
                refine wl_op (k := 2) (k' := 3) rfl rfl rfl (wo_run rfl rfl (run_move rfl rfl) ?_)
                refine wl_op (k := 3) (k' := 4) rfl rfl rfl (wo_run rfl rfl (run_indexR (C := cdInt) (i := 1) (a + 1) rfl rfl rfl sl44 S26 rfl (by first | rfl | omega) (by first | omega | (simp only [List.length_set, List.length_append, List.length_replicate, List.length_singleton, List.length_cons, List.length_nil]; omega))) ?_)
                refine wl_op (k := 4) (k' := 5) rfl rfl rfl (wo_storeR (C := cdInt) (i := 1) (e := a + 1) (j := 0) (us := [_]) (H' := [_, _, _]) (rk d (a + 1)) rfl rfl S26 rfl (by first | omega | (simp only [List.length_set, List.length_append, List.length_replicate, List.length_singleton, List.length_cons, List.length_nil]; omega)) rfl rfl rfl sz3 rfl rfl rfl rfl ?_)
                intro w26 S27; clear S26
                refine wl_end rfl ?_
                refine nm_sub [(3, _), (4, _), (8, _), (9, _), (10, _), (11, _)] ⟨rfl, rfl, rfl, rfl, rfl, rfl, trivial⟩ ?_
                refine nm_thn ?_
                refine ws_region rfl ?_
                refine wl_op (k := 0) (k' := 1) rfl rfl rfl (wo_run rfl rfl (run_move rfl rfl) ?_)
                refine wl_op (k := 1) (k' := 2) rfl rfl rfl (wo_run rfl rfl (run_add rfl rfl rfl (by first | omega | (simp only [List.length_set, List.length_append, List.length_replicate, List.length_singleton, List.length_cons, List.length_nil]; omega))) ?_)
                refine wl_op (k := 2) (k' := 3) rfl rfl rfl (wo_run rfl rfl (run_assign rfl rfl) ?_)
                refine wl_end rfl ?_
                refine nm_sub [(3, _), (4, _), (8, _), (9, _), (10, _), (11, _)] ⟨rfl, rfl, rfl, rfl, rfl, rfl, trivial⟩ ?_
                refine nm_thn ?_
                refine ws_region rfl ?_
                refine wl_op (k := 0) (k' := 1) rfl rfl rfl (wo_run rfl rfl (run_move rfl rfl) ?_)
                refine wl_op (k := 1) (k' := 2) rfl rfl rfl (wo_run rfl rfl (run_move rfl rfl) ?_)
                refine wl_op (k := 2) (k' := 3) rfl rfl rfl (wo_run rfl rfl (run_move rfl rfl) ?_)
                refine wl_op (k := 3) (k' := 4) rfl rfl rfl (wo_run rfl rfl (run_move rfl rfl) ?_)
                refine wl_op (k := 4) (k' := 5) rfl rfl rfl (wo_run rfl rfl (run_indexR (C := cdInt) (i := 2) (a + 1) rfl rfl rfl sl44 S27 rfl (by first | rfl | omega) (by first | omega | (simp only [List.length_set, List.length_append, List.length_replicate, List.length_singleton, List.length_cons, List.length_nil]; omega))) ?_)
                refine wl_op (k := 5) (k' := 6) rfl rfl rfl (wo_run rfl rfl (run_load1 rfl rfl Try.underlying3 rfl (S27.rowc (i := 2) (e := a + 1) (j := 0) rfl (by first | omega | (simp only [List.length_set, List.length_append, List.length_replicate, List.length_singleton, List.length_cons, List.length_nil]; omega)) rfl rfl)) ?_)
                refine wl_op (k := 6) (k' := 7) rfl rfl rfl (wo_run rfl rfl (run_indexR (C := cdInt) (i := 1) ((ga ws2 (a + 1)).toNat) rfl rfl rfl sl44 S27 rfl (by first | rfl | omega) (by first | omega | (simp only [List.length_set, List.length_append, List.length_replicate, List.length_singleton, List.length_cons, List.length_nil]; omega))) ?_)
                refine wl_op (k := 7) (k' := 8) rfl rfl rfl (wo_run rfl rfl (run_load1 rfl rfl Try.underlying3 rfl (S27.rowc (i := 1) (e := (ga ws2 (a + 1)).toNat) (j := 0) rfl (by first | omega | (simp only [List.length_set, List.length_append, List.length_replicate, List.length_singleton, List.length_cons, List.length_nil]; omega)) rfl rfl)) ?_)
                refine wl_op (k := 8) (k' := 9) rfl rfl rfl (wo_buildSlice1 (C := cdInt) (l := [_]) rfl rfl rfl rfl sl44 rfl rfl rfl rfl S27 ?_)
                intro gb2 w27 S28; clear S27
                refine wl_op (k := 9) (k' := 10) rfl rfl rfl (wo_append1 (C := cdInt) (i := 1) (q := 0) (ga (nb.set (a + 1) (rk d (a + 1))) ((ga ws2 (a + 1)).toNat)) rfl rfl rfl rfl rfl rfl rfl rfl sl44 S28 rfl rfl rfl (by show (_ + 1) * 8 ≤ _; first | omega | (simp only [List.length_set, List.length_append, List.length_replicate, List.length_singleton, List.length_cons, List.length_nil]; omega)) ?_)
                intro vra1 w28 S29; clear S28
                have S30 := S29.pick [1, 2, 3] [_, _, _] (by decide) ⟨rfl, rfl, rfl, trivial⟩; clear S29
                refine wl_op (k := 10) (k' := 11) rfl rfl rfl (wo_run rfl rfl (run_assign rfl rfl) ?_)
                refine wl_end rfl ?_
                refine nm_blk ?_
                refine nm_sub [(3, _), (4, _), (8, _), (9, _), (10, _), (11, _)] ⟨rfl, rfl, rfl, rfl, rfl, rfl, trivial⟩ ?_
                refine nm_thn ?_
                refine ws_eq 9 (.int .i64 (rk d (a + 1 + 1))) rfl (int_eq (by exact (rk_root (a := a + 1) (by omega) (by rw [← hcL]; exact hb67)).symm)) ?_
                refine ws_region rfl ?_
                refine wl_op (k := 0) (k' := 1) rfl rfl rfl (wo_run rfl rfl (run_move rfl rfl) ?_)
                refine wl_op (k := 1) (k' := 2) rfl rfl rfl (wo_run rfl rfl (run_add rfl rfl rfl (by first | omega | (simp only [List.length_set, List.length_append, List.length_replicate, List.length_singleton, List.length_cons, List.length_nil]; omega))) ?_)
                refine wl_op (k := 2) (k' := 3) rfl rfl rfl (wo_run rfl rfl (run_assign rfl rfl) ?_)
                refine wl_end rfl ?_
                refine nm_lp ?_
                have hv : ga (nb.set (a + 1) (rk d (a + 1))) (ga ws2 (a + 1)).toNat = ovA d (a + 1) := by (have e9 : (ga ws2 (a + 1)).toNat = a + 1 := by omega); unfold ovA; rw [← hcL, e9, ga_set _ _ _ _ (by omega), if_pos rfl]
                intro ax_ hax_
                refine ⟨_, ?hq8m, ⟨a + 1, _, _, _, _, rfl, hax_.sub ⟨rfl, rfl, rfl, rfl, rfl, rfl, trivial⟩, S30.pick [0, 1, 2] [_, _, _] (by decide) ⟨rfl, rfl, rfl, trivial⟩, ?hq8f0, ?hq8f1, ?hq8f2, ?hq8f3⟩⟩
                case hq8f0 => omega
                case hq8f1 => first | assumption | simpa using hnl
                case hq8f2 => (rw [hv, hac, List.range_succ, List.map_append]; rfl)
                case hq8f3 => first | (intro x hx hr; rw [ga_set _ _ _ _ (by omega)]; split; (rename_i e9; rw [← e9]); exact hnb x (by omega) hr) | (intro x hx hr; exact hnb x (by rcases Nat.lt_or_ge x (a + 1) with h8 | h8; (· exact h8); (· obtain rfl : x = a + 1 := (by omega); rw [← hcL] at hr; exact absurd hr hb67)) hr)
                case hq8m => omega
              · have hb67 := of_decide_eq_false hb67
                refine ws_skip rfl ?_
                refine nm_sub [(3, _), (4, _), (8, _), (9, _), (10, _), (11, _)] ⟨rfl, rfl, rfl, rfl, rfl, rfl, trivial⟩ ?_
                refine nm_thn ?_
                refine ws_region rfl ?_
                refine wl_op (k := 0) (k' := 1) rfl rfl rfl (wo_run rfl rfl (run_move rfl rfl) ?_)
                refine wl_op (k := 1) (k' := 2) rfl rfl rfl (wo_run rfl rfl (run_move rfl rfl) ?_)
                refine wl_op (k := 2) (k' := 3) rfl rfl rfl (wo_run rfl rfl (run_move rfl rfl) ?_)
                refine wl_op (k := 3) (k' := 4) rfl rfl rfl (wo_run rfl rfl (run_move rfl rfl) ?_)
                refine wl_op (k := 4) (k' := 5) rfl rfl rfl (wo_run rfl rfl (run_indexR (C := cdInt) (i := 2) (a + 1) rfl rfl rfl sl44 S26 rfl (by first | rfl | omega) (by first | omega | (simp only [List.length_set, List.length_append, List.length_replicate, List.length_singleton, List.length_cons, List.length_nil]; omega))) ?_)
                refine wl_op (k := 5) (k' := 6) rfl rfl rfl (wo_run rfl rfl (run_load1 rfl rfl Try.underlying3 rfl (S26.rowc (i := 2) (e := a + 1) (j := 0) rfl (by first | omega | (simp only [List.length_set, List.length_append, List.length_replicate, List.length_singleton, List.length_cons, List.length_nil]; omega)) rfl rfl)) ?_)
                refine wl_op (k := 6) (k' := 7) rfl rfl rfl (wo_run rfl rfl (run_indexR (C := cdInt) (i := 1) ((ga ws2 (a + 1)).toNat) rfl rfl rfl sl44 S26 rfl (by first | rfl | omega) (by first | omega | (simp only [List.length_set, List.length_append, List.length_replicate, List.length_singleton, List.length_cons, List.length_nil]; omega))) ?_)
                refine wl_op (k := 7) (k' := 8) rfl rfl rfl (wo_run rfl rfl (run_load1 rfl rfl Try.underlying3 rfl (S26.rowc (i := 1) (e := (ga ws2 (a + 1)).toNat) (j := 0) rfl (by first | omega | (simp only [List.length_set, List.length_append, List.length_replicate, List.length_singleton, List.length_cons, List.length_nil]; omega)) rfl rfl)) ?_)
                refine wl_op (k := 8) (k' := 9) rfl rfl rfl (wo_buildSlice1 (C := cdInt) (l := [_]) rfl rfl rfl rfl sl44 rfl rfl rfl rfl S26 ?_)
                intro gb3 w29 S31; clear S26
                refine wl_op (k := 9) (k' := 10) rfl rfl rfl (wo_append1 (C := cdInt) (i := 1) (q := 0) (ga nb ((ga ws2 (a + 1)).toNat)) rfl rfl rfl rfl rfl rfl rfl rfl sl44 S31 rfl rfl rfl (by show (_ + 1) * 8 ≤ _; first | omega | (simp only [List.length_set, List.length_append, List.length_replicate, List.length_singleton, List.length_cons, List.length_nil]; omega)) ?_)
                intro vra2 w30 S32; clear S31
                have S33 := S32.pick [1, 2, 3] [_, _, _] (by decide) ⟨rfl, rfl, rfl, trivial⟩; clear S32
                refine wl_op (k := 10) (k' := 11) rfl rfl rfl (wo_run rfl rfl (run_assign rfl rfl) ?_)
                refine wl_end rfl ?_
                refine nm_blk ?_
                refine nm_sub [(3, _), (4, _), (8, _), (9, _), (10, _), (11, _)] ⟨rfl, rfl, rfl, rfl, rfl, rfl, trivial⟩ ?_
                refine nm_thn ?_
                refine ws_eq 9 (.int .i64 (rk d (a + 1 + 1))) rfl (int_eq (by exact (rk_skip (a := a + 1) (by rw [← hcL]; exact hb67)).symm)) ?_
                refine ws_region rfl ?_
                refine wl_op (k := 0) (k' := 1) rfl rfl rfl (wo_run rfl rfl (run_move rfl rfl) ?_)
                refine wl_op (k := 1) (k' := 2) rfl rfl rfl (wo_run rfl rfl (run_add rfl rfl rfl (by first | omega | (simp only [List.length_set, List.length_append, List.length_replicate, List.length_singleton, List.length_cons, List.length_nil]; omega))) ?_)
                refine wl_op (k := 2) (k' := 3) rfl rfl rfl (wo_run rfl rfl (run_assign rfl rfl) ?_)
                refine wl_end rfl ?_
                refine nm_lp ?_
                have hv : ga nb (ga ws2 (a + 1)).toNat = ovA d (a + 1) := by unfold ovA; rw [← hcL]; exact hnb _ (by omega) (by rw [← hcL, o3]; omega)
                intro ax_ hax_
                refine ⟨_, ?hq9m, ⟨a + 1, _, _, _, _, rfl, hax_.sub ⟨rfl, rfl, rfl, rfl, rfl, rfl, trivial⟩, S33.pick [0, 1, 2] [_, _, _] (by decide) ⟨rfl, rfl, rfl, trivial⟩, ?hq9f0, ?hq9f1, ?hq9f2, ?hq9f3⟩⟩
                case hq9f0 => omega
                case hq9f1 => first | assumption | simpa using hnl
                case hq9f2 => (rw [hv, hac, List.range_succ, List.map_append]; rfl)
                case hq9f3 => first | (intro x hx hr; rw [ga_set _ _ _ _ (by omega)]; split; (rename_i e9; rw [← e9]); exact hnb x (by omega) hr) | (intro x hx hr; exact hnb x (by rcases Nat.lt_or_ge x (a + 1) with h8 | h8; (· exact h8); (· obtain rfl : x = a + 1 := (by omega); rw [← hcL] at hr; exact absurd hr hb67)) hr)
                case hq9m => omega
            · have hb59 := of_decide_eq_false hb59
              refine ws_exit rfl rfl ?_
              refine nm_sub [(8, _)] ⟨rfl, trivial⟩ ?_
              refine nm_thn ?_
              refine ws_seqN OversOf_n79 OversOf_n80 rfl rfl rfl ?_
              refine ws_region rfl ?_
              refine wl_op (k := 0) (k' := 1) rfl rfl rfl (wo_run rfl rfl (run_move rfl rfl) ?_)
              refine wl_op (k := 1) (k' := 2) rfl rfl rfl (wo_run rfl rfl (run_assign rfl rfl) ?_)
              refine wl_end rfl ?_
              refine nm_sub [(2, _)] ⟨rfl, trivial⟩ ?_
              refine nm_thn ?_
              obtain ⟨M15, hle19, S34, ⟨A1, c1, e1, hr1⟩⟩ := S26.pubrow (i := 0) (H' := [_, _, _]) rfl rfl (by show _ * 8 ≤ _; first | omega | (simp only [List.length_set, List.length_append, List.length_replicate, List.length_singleton, List.length_cons, List.length_nil]; omega))
              clear S26; subst e1
              replace hdcrs := hdcrs.mono (Hp.un_mono hle19 S34.mx)
              refine ws_ret hC [_] rfl rfl ⟨rfl, trivial⟩ ?_
              refine ⟨_, rfl, _, hle19, (S34.pick [] [] (by decide) trivial), ?_⟩
              obtain rfl : a = 2 * d.crs.length := by omega
              have e2 : ovTail d = acc := hac.symm
              rw [e2]
              exact ⟨_, _, rfl, hr1⟩

noncomputable def CloneI_n0 : Code := Try.f73.body.getD .skip
noncomputable def CloneI_n1 : Code := cL CloneI_n0
noncomputable def CloneI_n2 : Code := cR CloneI_n0
noncomputable def CloneI_n3 : Code := cL CloneI_n2
noncomputable def CloneI_n4 : Code := cR CloneI_n2
noncomputable def CloneI_n5 : Code := cL CloneI_n3
noncomputable def CloneI_n6 : Code := cR CloneI_n3
noncomputable def CloneI_n7 : Code := cL CloneI_n6
noncomputable def CloneI_n8 : Code := cR CloneI_n6
noncomputable def CloneI_n9 : Code := cL CloneI_n7
noncomputable def CloneI_n10 : Code := cR CloneI_n7
noncomputable def CloneI_n11 : Code := cL CloneI_n4
noncomputable def CloneI_n12 : Code := cR CloneI_n4
set_option maxRecDepth 10000 in
theorem CloneI_t {w : World} {M : Hp} {X : Fr} (s : List Int) {sA : Option Addr} {sc : Nat} (hs : RdA cdInt (M.un X.h) sA sc s) (S : SH w M X []) : Ct Try.prog 73 [.slice sA s.length sc] w M X (fun u N => ∃ A c, u = .slice A s.length c ∧ RdA cdInt N A c s) := by
  unfold Ct
  have rmhs : s.length * 8 ≤ 140737488355328 := hs.room
  refine calls_in (b := CloneI_n0) Try.func73 rfl Try.ntmps73 rfl (fun C hC => ?_)
  refine ws_sub [(0, _)] ⟨rfl, trivial⟩ ?_
  refine ws_seqN CloneI_n1 CloneI_n2 rfl rfl rfl ?_
  refine ws_region rfl ?_
  refine wl_op (k := 0) (k' := 1) rfl rfl rfl (wo_run rfl rfl (run_assign rfl rfl) ?_)
  refine wl_end rfl ?_
  refine nm_sub [(0, _)] ⟨rfl, trivial⟩ ?_
  refine nm_thn ?_
  refine ws_seqN CloneI_n3 CloneI_n4 rfl rfl rfl ?_
  refine ws_seqN CloneI_n5 CloneI_n6 rfl rfl rfl ?_
  refine ws_region rfl ?_
  refine wl_op (k := 0) (k' := 1) rfl rfl rfl (wo_run rfl rfl (run_move rfl rfl) ?_)
  refine wl_op (k := 1) (k' := 2) rfl rfl rfl (wo_run rfl rfl (run_eqlNil rfl rfl rfl Try.underlying44) ?_)
  refine wl_end rfl ?_
  refine nm_sub [(0, _), (4, _)] ⟨rfl, rfl, trivial⟩ ?_
  refine nm_thn ?_
  refine ws_condN CloneI_n7 CloneI_n8 rfl rfl rfl rfl (fun hb4 => ?_) (fun hb4 => ?_)
  · refine ws_seqN CloneI_n9 CloneI_n10 rfl rfl rfl ?_
    refine ws_region rfl ?_
    refine wl_op (k := 0) (k' := 1) rfl rfl rfl (wo_run rfl rfl (run_assign rfl rfl) ?_)
    refine wl_end rfl ?_
    refine nm_sub [(2, _)] ⟨rfl, trivial⟩ ?_
    refine nm_thn ?_
    refine ws_ret hC [_] rfl rfl ⟨rfl, trivial⟩ ?_
    refine ⟨_, rfl, _, Hp.le_refl _, (S.pick [] [] (by decide) trivial), ?_⟩
    obtain rfl : s = [] := nil_of_none hs hb4
    exact ⟨_, _, rfl, RdA.nil_⟩
  · refine ws_skip rfl ?_
    refine nm_sub [(0, _)] ⟨rfl, trivial⟩ ?_
    refine nm_thn ?_
    refine ws_seqN CloneI_n11 CloneI_n12 rfl rfl rfl ?_
    refine ws_region rfl ?_
    refine wl_op (k := 0) (k' := 1) rfl rfl rfl (wo_buildSlice0 (C := cdInt) rfl rfl rfl rfl sl44 S ?_)
    intro vr1 w1 S1; clear S
    refine wl_op (k := 1) (k' := 2) rfl rfl rfl (wo_run rfl rfl (run_move rfl rfl) ?_)
    refine wl_op (k := 2) (k' := 3) rfl rfl rfl (wo_appendM (C := cdInt) (i := 0) rfl rfl rfl rfl rfl rfl rfl rfl sl44 S1 rfl hs S1.um (by have h : _ * 8 ≤ _ := hs.room; show (0 + _) * 8 ≤ _; first | omega | (simp only [List.length_set, List.length_append, List.length_replicate, List.length_singleton, List.length_cons, List.length_nil]; omega)) ?_)
    intro vr2 w2 S2; clear S1
    change SH _ _ _ [Rs.row cdInt vr2 s] at S2
    refine wl_op (k := 3) (k' := 4) rfl rfl rfl (wo_run rfl rfl (run_assign rfl rfl) ?_)
    refine wl_end rfl ?_
    refine nm_sub [(2, _)] ⟨rfl, trivial⟩ ?_
    refine nm_thn ?_
    obtain ⟨M1, hle1, S3, ⟨A1, c1, e1, hr1⟩⟩ := S2.pubrow (i := 0) (H' := [_]) rfl rfl (by show _ * 8 ≤ _; first | omega | (simp only [List.length_set, List.length_append, List.length_replicate, List.length_singleton, List.length_cons, List.length_nil]; omega))
    clear S2; subst e1
    replace hs := hs.mono (Hp.un_mono hle1 S3.mx)
    refine ws_ret hC [_] rfl rfl ⟨rfl, trivial⟩ ?_
    refine ⟨_, rfl, _, hle1, (S3.pick [] [] (by decide) trivial), ?_⟩
    exact ⟨_, _, rfl, hr1⟩

noncomputable def Overs_n0 : Code := Try.f38.body.getD .skip
noncomputable def Overs_n1 : Code := cL Overs_n0
noncomputable def Overs_n2 : Code := cR Overs_n0
noncomputable def Overs_n3 : Code := cL Overs_n2
noncomputable def Overs_n4 : Code := cR Overs_n2
noncomputable def Overs_n5 : Code := cL Overs_n4
noncomputable def Overs_n6 : Code := cR Overs_n4
noncomputable def Overs_n7 : Code := cL Overs_n5
noncomputable def Overs_n8 : Code := cR Overs_n5
noncomputable def Overs_n9 : Code := cL Overs_n8
noncomputable def Overs_n10 : Code := cR Overs_n8
noncomputable def Overs_n11 : Code := cL Overs_n9
noncomputable def Overs_n12 : Code := cR Overs_n9
noncomputable def Overs_n13 : Code := cL Overs_n6
noncomputable def Overs_n14 : Code := cR Overs_n6
noncomputable def Overs_n15 : Code := cL Overs_n14
noncomputable def Overs_n16 : Code := cR Overs_n14
set_option maxRecDepth 10000 in
theorem Overs_t {w : World} {M : Hp} {X : Fr} (d : Dg) {dcrsA : Option Addr} {dcrsc : Nat} (hdcrs : RdA cdCr (M.un X.h) dcrsA dcrsc d.crs) (S : SH w M X []) : Ct Try.prog 38 [.agg [.slice dcrsA d.crs.length dcrsc, .int .i64 d.loops].toArray] w M X (fun u N => ∃ A c, u = .tuple [.slice A (oversR d).length c, .int .i64 (errO d)].toArray ∧ RdA cdInt N A c (oversR d)) := by
  unfold Ct
  have rmhdcrs : d.crs.length * 40 ≤ 140737488355328 := hdcrs.room
  refine calls_in (b := Overs_n0) Try.func38 rfl Try.ntmps38 rfl (fun C hC => ?_)
  refine ws_sub [(0, _)] ⟨rfl, trivial⟩ ?_
  refine ws_seqN Overs_n1 Overs_n2 rfl rfl rfl ?_
  refine ws_region rfl ?_
  refine wl_op (k := 0) (k' := 1) rfl rfl rfl (wo_box (l := [_, _]) rfl rfl rfl rfl rfl S ?_)
  intro gb1 w1 S1; clear S
  refine wl_op (k := 1) (k' := 2) rfl rfl rfl (wo_run rfl rfl (run_assign rfl rfl) ?_)
  refine wl_op (k := 2) (k' := 3) rfl rfl rfl (wo_run rfl rfl (run_assign rfl rfl) ?_)
  refine wl_end rfl ?_
  refine nm_sub [(1, _)] ⟨rfl, trivial⟩ ?_
  refine nm_thn ?_
  refine ws_seqN Overs_n3 Overs_n4 rfl rfl rfl ?_
  refine ws_region rfl ?_
  refine wl_op (k := 0) (k' := 1) rfl rfl rfl (wo_run rfl rfl (run_loadN (us := [_, _]) rfl rfl Try.underlying27 rfl sz27 (S1.boxcs (i := 0) rfl ⟨rfl, rfl, trivial⟩)) ?_)
  refine wl_op (k := 1) (k' := 2) rfl rfl rfl (wo_ct rfl rfl rfl rfl rfl rfl rfl cf71 S1 (Open_t d (hdcrs.mono S1.un_XH) S1.lend) ?_)
  intro vw2 w2 M1 hle1 S2 hRw2; clear S1
  replace hdcrs := hdcrs.mono (Hp.un_mono hle1 S2.mx)
  rcases hRw2 with ⟨hopn10, rfl⟩ | ⟨hopn10, g1, cA10, iA10, oA10, cc10, ic10, oc10, rfl, hsb10, hsc10, hsi10, hso10⟩
  · refine wl_op (k := 2) (k' := 3) rfl rfl rfl (wo_run rfl rfl (run_move rfl rfl) ?_)
    refine wl_op (k := 3) (k' := 4) rfl rfl rfl (wo_run rfl rfl (run_extract rfl rfl rfl) ?_)
    refine wl_op (k := 4) (k' := 5) rfl rfl rfl (wo_run rfl rfl (run_extract rfl rfl rfl) ?_)
    refine wl_op (k := 5) (k' := 6) rfl rfl rfl (wo_run rfl rfl (run_assign rfl rfl) ?_)
    refine wl_op (k := 6) (k' := 7) rfl rfl rfl (wo_run rfl rfl (run_assign rfl rfl) ?_)
    refine wl_end rfl ?_
    refine nm_sub [(4, _), (5, _)] ⟨rfl, rfl, trivial⟩ ?_
    refine nm_thn ?_
    refine ws_seqN Overs_n5 Overs_n6 rfl rfl rfl ?_
    refine ws_seqN Overs_n7 Overs_n8 rfl rfl rfl ?_
    refine ws_region rfl ?_
    refine wl_op (k := 0) (k' := 1) rfl rfl rfl (wo_run rfl rfl (run_move rfl rfl) ?_)
    refine wl_op (k := 1) (k' := 2) rfl rfl rfl (wo_run rfl rfl (run_neq rfl rfl rfl) ?_)
    refine wl_end rfl ?_
    refine nm_sub [(4, _), (5, _), (14, _)] ⟨rfl, rfl, rfl, trivial⟩ ?_
    refine nm_thn ?_
    refine ws_condN Overs_n9 Overs_n10 rfl rfl rfl rfl (fun hb14 => ?_) (fun hb14 => ?_)
    · have hb14 := of_decide_eq_true hb14
      refine ws_seqN Overs_n11 Overs_n12 rfl rfl rfl ?_
      refine ws_region rfl ?_
      refine wl_op (k := 0) (k' := 1) rfl rfl rfl (wo_run rfl rfl (run_move rfl rfl) ?_)
      refine wl_op (k := 1) (k' := 2) rfl rfl rfl (wo_run rfl rfl (run_assign rfl rfl) ?_)
      refine wl_op (k := 2) (k' := 3) rfl rfl rfl (wo_run rfl rfl (run_assign rfl rfl) ?_)
      refine wl_end rfl ?_
      refine nm_sub [(2, _), (3, _)] ⟨rfl, rfl, trivial⟩ ?_
      refine nm_thn ?_
      refine ws_ret hC [_, _] rfl rfl ⟨rfl, rfl, trivial⟩ ?_
      refine ⟨_, rfl, _, hle1, (S2.pick [] [] (by decide) trivial), ?_⟩
      have e1 : oversR d = [] := by unfold oversR; rw [if_neg hopn10]
      rw [e1]
      exact ⟨none, 0, rfl, RdA.nil_⟩
    · have hb14 := of_decide_eq_false hb14
      exfalso; omega
  · obtain ⟨hmo, hpl⟩ := errO_ok hopn10
    obtain ⟨hn, hab, hlo0, hlo1⟩ := mayO hmo
    refine wl_op (k := 2) (k' := 3) rfl rfl rfl (wo_run rfl rfl (run_move rfl rfl) ?_)
    refine wl_op (k := 3) (k' := 4) rfl rfl rfl (wo_run rfl rfl (run_extract rfl rfl rfl) ?_)
    refine wl_op (k := 4) (k' := 5) rfl rfl rfl (wo_run rfl rfl (run_extract rfl rfl rfl) ?_)
    refine wl_op (k := 5) (k' := 6) rfl rfl rfl (wo_run rfl rfl (run_assign rfl rfl) ?_)
    refine wl_op (k := 6) (k' := 7) rfl rfl rfl (wo_run rfl rfl (run_assign rfl rfl) ?_)
    refine wl_end rfl ?_
    refine nm_sub [(4, _), (5, _)] ⟨rfl, rfl, trivial⟩ ?_
    refine nm_thn ?_
    refine ws_seqN Overs_n5 Overs_n6 rfl rfl rfl ?_
    refine ws_seqN Overs_n7 Overs_n8 rfl rfl rfl ?_
    refine ws_region rfl ?_
    refine wl_op (k := 0) (k' := 1) rfl rfl rfl (wo_run rfl rfl (run_move rfl rfl) ?_)
    refine wl_op (k := 1) (k' := 2) rfl rfl rfl (wo_run rfl rfl (run_neq rfl rfl rfl) ?_)
    refine wl_end rfl ?_
    refine nm_sub [(4, _), (5, _), (14, _)] ⟨rfl, rfl, rfl, trivial⟩ ?_
    refine nm_thn ?_
    refine ws_condN Overs_n9 Overs_n10 rfl rfl rfl rfl (fun hb14 => ?_) (fun hb14 => ?_)
    · have hb14 := of_decide_eq_true hb14
      exfalso; omega
    · have hb14 := of_decide_eq_false hb14
      refine ws_skip rfl ?_
      refine nm_sub [(4, _)] ⟨rfl, trivial⟩ ?_
      refine nm_thn ?_
      refine ws_seqN Overs_n13 Overs_n14 rfl rfl rfl ?_
      refine ws_region rfl ?_
      refine wl_op (k := 0) (k' := 1) rfl rfl rfl (wo_run rfl rfl (run_move rfl rfl) ?_)
      refine wl_op (k := 1) (k' := 2) rfl rfl rfl (wo_ct rfl rfl rfl rfl rfl rfl rfl cf72 S2 (Passes_t d (hsb10.mono (Hp.le_un _ _)) (hsc10.mono (Hp.le_un _ _)) (hsi10.mono (Hp.le_un _ _)) (hso10.mono (Hp.le_un _ _)) hn hab S2.lend) ?_)
      intro vw3 w3 M2 hle2 S3 hRw3; clear S2
      replace hdcrs := hdcrs.mono (Hp.un_mono hle2 S3.mx)
      replace hsb10 := hsb10.mono hle2
      replace hsc10 := hsc10.mono hle2
      replace hsi10 := hsi10.mono hle2
      replace hso10 := hso10.mono hle2
      obtain ⟨A1, c1, rfl, hr1⟩ := hRw3
      have hovl := oversL_len d
      refine wl_op (k := 2) (k' := 3) rfl rfl rfl (wo_run rfl rfl (run_move rfl rfl) ?_)
      refine wl_op (k := 3) (k' := 4) rfl rfl rfl (wo_run rfl rfl (run_extract rfl rfl rfl) ?_)
      refine wl_op (k := 4) (k' := 5) rfl rfl rfl (wo_run rfl rfl (run_extract rfl rfl rfl) ?_)
      refine wl_op (k := 5) (k' := 6) rfl rfl rfl (wo_run rfl rfl (run_assign rfl rfl) ?_)
      refine wl_op (k := 6) (k' := 7) rfl rfl rfl (wo_run rfl rfl (run_assign rfl rfl) ?_)
      refine wl_end rfl ?_
      refine nm_sub [(6, _)] ⟨rfl, trivial⟩ ?_
      refine nm_thn ?_
      refine ws_seqN Overs_n15 Overs_n16 rfl rfl rfl ?_
      refine ws_region rfl ?_
      refine wl_op (k := 0) (k' := 1) rfl rfl rfl (wo_run rfl rfl (run_move rfl rfl) ?_)
      refine wl_op (k := 1) (k' := 2) rfl rfl rfl (wo_sliceD (C := cdInt) 1 rfl rfl rfl rfl rfl sl44 (by first | rfl | omega) (by first | omega | (simp only [List.length_set, List.length_append, List.length_replicate, List.length_singleton, List.length_cons, List.length_nil]; omega)) hr1 ?_)
      intro A2 c2 hr2
      refine wl_op (k := 2) (k' := 3) rfl rfl rfl (wo_ct rfl rfl rfl rfl rfl rfl rfl cf73 S3 (CloneI_t ((oversL d).drop 1) (hr2.mono (Hp.le_un _ _)) S3.lend) ?_)
      intro vw4 w4 M3 hle3 S4 hRw4; clear S3
      replace hdcrs := hdcrs.mono (Hp.un_mono hle3 S4.mx)
      replace hsb10 := hsb10.mono hle3
      replace hsc10 := hsc10.mono hle3
      replace hsi10 := hsi10.mono hle3
      replace hso10 := hso10.mono hle3
      replace hr1 := hr1.mono hle3
      replace hr2 := hr2.mono hle3
      obtain ⟨A3, c3, rfl, hr3⟩ := hRw4
      refine wl_op (k := 3) (k' := 4) rfl rfl rfl (wo_run rfl rfl (run_assign rfl rfl) ?_)
      refine wl_op (k := 4) (k' := 5) rfl rfl rfl (wo_run rfl rfl (run_assign rfl rfl) ?_)
      refine wl_end rfl ?_
      refine nm_sub [(2, _), (3, _)] ⟨rfl, rfl, trivial⟩ ?_
      refine nm_thn ?_
      refine ws_ret hC [_, _] rfl rfl ⟨rfl, rfl, trivial⟩ ?_
      refine ⟨_, rfl, _, (hle1.trans hle2).trans hle3, (S4.pick [] [] (by decide) trivial), ?_⟩
      have e1 : oversR d = (oversL d).drop 1 := by unfold oversR; rw [if_pos hopn10, ovTail_eq]
      rw [e1, hopn10]
      exact ⟨_, _, rfl, hr3⟩


noncomputable def sameInts_n0 : Code := Try.f22.body.getD .skip
noncomputable def sameInts_n1 : Code := cL sameInts_n0
noncomputable def sameInts_n2 : Code := cR sameInts_n0
noncomputable def sameInts_n3 : Code := cL sameInts_n2
noncomputable def sameInts_n4 : Code := cR sameInts_n2
noncomputable def sameInts_n5 : Code := cL sameInts_n3
noncomputable def sameInts_n6 : Code := cR sameInts_n3
noncomputable def sameInts_n7 : Code := cL sameInts_n6
noncomputable def sameInts_n8 : Code := cR sameInts_n6
noncomputable def sameInts_n9 : Code := cL sameInts_n4
noncomputable def sameInts_n10 : Code := cR sameInts_n4
noncomputable def sameInts_n11 : Code := cL sameInts_n9
noncomputable def sameInts_n12 : Code := cR sameInts_n9
noncomputable def sameInts_n13 : Code := cL sameInts_n12
noncomputable def sameInts_n14 : Code := cL sameInts_n13
noncomputable def sameInts_n15 : Code := cL sameInts_n14
noncomputable def sameInts_n16 : Code := cR sameInts_n14
noncomputable def sameInts_n17 : Code := cL sameInts_n15
noncomputable def sameInts_n18 : Code := cR sameInts_n15
noncomputable def sameInts_n19 : Code := cL sameInts_n18
noncomputable def sameInts_n20 : Code := cR sameInts_n18
noncomputable def sameInts_n21 : Code := cL sameInts_n16
noncomputable def sameInts_n22 : Code := cR sameInts_n16
noncomputable def sameInts_n23 : Code := cL sameInts_n21
noncomputable def sameInts_n24 : Code := cL sameInts_n23
noncomputable def sameInts_n25 : Code := cR sameInts_n23
noncomputable def sameInts_n26 : Code := cL sameInts_n25
noncomputable def sameInts_n27 : Code := cR sameInts_n25
noncomputable def sameInts_n28 : Code := cL sameInts_n10
noncomputable def sameInts_n29 : Code := cR sameInts_n10
set_option maxRecDepth 10000 in
theorem sameInts_q {w : World} {M : Hp} {X : Fr} (p : List Int) {pA : Option Addr} {pc : Nat} (q : List Int) {qA : Option Addr} {qc : Nat} (hp : RdA cdInt (M.un X.h) pA pc p) (hq : RdA cdInt (M.un X.h) qA qc q) (he : p = q) (S : SH w M X []) : Cq Try.prog 22 [.slice pA p.length pc, .slice qA q.length qc] w M X (fun u => u = .bool true) := by
  unfold Cq
  have rmhp : p.length * 8 ≤ 140737488355328 := hp.room
  have rmhq : q.length * 8 ≤ 140737488355328 := hq.room
  have hle : p.length = q.length := by rw [he]
  refine calls_in (b := sameInts_n0) Try.func22 rfl Try.ntmps22 rfl (fun C hC => ?_)
  refine ws_sub [(0, _), (1, _)] ⟨rfl, rfl, trivial⟩ ?_
  refine ws_seqN sameInts_n1 sameInts_n2 rfl rfl rfl ?_
  refine ws_region rfl ?_
  refine wl_op (k := 0) (k' := 1) rfl rfl rfl (wo_run rfl rfl (run_assign rfl rfl) ?_)
  refine wl_end rfl ?_
  refine nm_sub [(0, _), (1, _)] ⟨rfl, rfl, trivial⟩ ?_
  refine nm_thn ?_
  refine ws_seqN sameInts_n3 sameInts_n4 rfl rfl rfl ?_
  refine ws_seqN sameInts_n5 sameInts_n6 rfl rfl rfl ?_
  refine ws_region rfl ?_
  refine wl_op (k := 0) (k' := 1) rfl rfl rfl (wo_run rfl rfl (run_move rfl rfl) ?_)
  refine wl_op (k := 1) (k' := 2) rfl rfl rfl (wo_run rfl rfl (run_len rfl rfl rfl rfl rfl rfl Try.underlying44) ?_)
  refine wl_op (k := 2) (k' := 3) rfl rfl rfl (wo_run rfl rfl (run_move rfl rfl) ?_)
  refine wl_op (k := 3) (k' := 4) rfl rfl rfl (wo_run rfl rfl (run_len rfl rfl rfl rfl rfl rfl Try.underlying44) ?_)
  refine wl_op (k := 4) (k' := 5) rfl rfl rfl (wo_run rfl rfl (run_neq rfl rfl rfl) ?_)
  refine wl_end rfl ?_
  refine nm_sub [(0, _), (1, _), (10, _)] ⟨rfl, rfl, rfl, trivial⟩ ?_
  refine nm_thn ?_
  refine ws_condN sameInts_n7 sameInts_n8 rfl rfl rfl rfl (fun hb10 => ?_) (fun hb10 => ?_)
  · have hb10 := of_decide_eq_true hb10
    exfalso; omega
  · have hb10 := of_decide_eq_false hb10
    refine ws_skip rfl ?_
    refine nm_sub [(0, _), (1, _)] ⟨rfl, rfl, trivial⟩ ?_
    refine nm_thn ?_
    refine ws_seqN sameInts_n9 sameInts_n10 rfl rfl rfl ?_
    refine ws_seqN sameInts_n11 sameInts_n12 rfl rfl rfl ?_
    refine ws_region rfl ?_
    refine wl_op (k := 0) (k' := 1) rfl rfl rfl (wo_run rfl rfl (run_assign rfl rfl) ?_)
    refine wl_end rfl ?_
    refine nm_thn ?_
    refine ws_blockN sameInts_n13 0 rfl rfl rfl ?_
    refine ws_loopE (fun mx_ ax_ wx_ => ∃ (k : Nat), mx_ = p.length - k ∧ Env 26 [(0, .slice pA p.length pc), (1, .slice qA q.length qc), (5, .int .i64 (k : Int))] ax_ ∧ SH wx_ M X [] ∧ k ≤ p.length) rfl ?_ ?_
    · intro ax_ hax_
      refine ⟨_, ⟨0, rfl, hax_.sub ⟨rfl, rfl, rfl, trivial⟩, S.pick [] [] (by decide) trivial, ?hq1f0⟩⟩
      case hq1f0 => omega
    · rintro m1 a1 w1 ⟨k, rfl, he1, S1, hk⟩
      clear S
      refine ws_in he1 (c := sameInts_n14) rfl ?_
      clear he1 a1
      refine ws_seqN sameInts_n15 sameInts_n16 rfl rfl rfl ?_
      refine ws_seqN sameInts_n17 sameInts_n18 rfl rfl rfl ?_
      refine ws_region rfl ?_
      refine wl_op (k := 0) (k' := 1) rfl rfl rfl (wo_run rfl rfl (run_move rfl rfl) ?_)
      refine wl_op (k := 1) (k' := 2) rfl rfl rfl (wo_run rfl rfl (run_move rfl rfl) ?_)
      refine wl_op (k := 2) (k' := 3) rfl rfl rfl (wo_run rfl rfl (run_len rfl rfl rfl rfl rfl rfl Try.underlying44) ?_)
      refine wl_op (k := 3) (k' := 4) rfl rfl rfl (wo_run rfl rfl (run_lss rfl rfl rfl) ?_)
      refine wl_end rfl ?_
      refine nm_sub [(0, _), (1, _), (5, _), (14, _)] ⟨rfl, rfl, rfl, rfl, trivial⟩ ?_
      refine nm_thn ?_
      refine ws_condN sameInts_n19 sameInts_n20 rfl rfl rfl rfl (fun hb14 => ?_) (fun hb14 => ?_)
      · have hb14 := of_decide_eq_true hb14
        refine ws_skip rfl ?_
        refine nm_sub [(0, _), (1, _), (5, _)] ⟨rfl, rfl, rfl, trivial⟩ ?_
        refine nm_thn ?_
        refine ws_seqN sameInts_n21 sameInts_n22 rfl rfl rfl ?_
        refine ws_blockN sameInts_n23 1 rfl rfl rfl ?_
        refine ws_seqN sameInts_n24 sameInts_n25 rfl rfl rfl ?_
        refine ws_draw rfl (by kernel_rfl) S1 9 rfl ?_
        clear S1
        refine wa_takeP (i := 0) (d := 17) 8 rfl (by kernel_rfl) (by kernel_rfl) (by kernel_rfl) rfl rfl rfl (fun w2 => run_move rfl rfl) ?_
        refine wa_takeP (i := 1) (d := 18) 7 rfl (by kernel_rfl) (by kernel_rfl) (by kernel_rfl) rfl rfl rfl (fun w3 => run_move rfl rfl) ?_
        refine wa_take (i := 2) (d := 19) 6 rfl (by kernel_rfl) (by kernel_rfl) (by kernel_rfl) rfl rfl rfl (fun M3 N3 w4 hle4 S4 => .inl (run_indexM (C := cdInt) k rfl rfl rfl sl44 (by first | rfl | omega) (hp.mono (Hp.un_mono hle4 S4.mx)) (by first | omega | (simp only [List.length_set, List.length_append, List.length_replicate, List.length_singleton, List.length_cons, List.length_nil]; omega)))) ?_
        refine wa_take (i := 3) (d := 20) 5 rfl (by kernel_rfl) (by kernel_rfl) (by kernel_rfl) rfl rfl rfl (fun M4 N4 w5 hle5 S5 => .inl (run_load1 rfl rfl Try.underlying3 rfl ((hp.mono (Hp.un_mono hle5 S5.mx)).cell S5.um (i := k) (by first | omega | (simp only [List.length_set, List.length_append, List.length_replicate, List.length_singleton, List.length_cons, List.length_nil]; omega)) 0 rfl rfl))) ?_
        refine wa_takeP (i := 4) (d := 21) 4 rfl (by kernel_rfl) (by kernel_rfl) (by kernel_rfl) rfl rfl rfl (fun w6 => run_move rfl rfl) ?_
        refine wa_takeP (i := 5) (d := 22) 3 rfl (by kernel_rfl) (by kernel_rfl) (by kernel_rfl) rfl rfl rfl (fun w7 => run_move rfl rfl) ?_
        refine wa_take (i := 6) (d := 23) 2 rfl (by kernel_rfl) (by kernel_rfl) (by kernel_rfl) rfl rfl rfl (fun M7 N7 w8 hle8 S8 => .inl (run_indexM (C := cdInt) k rfl rfl rfl sl44 (by first | rfl | omega) (hq.mono (Hp.un_mono hle8 S8.mx)) (by first | omega | (simp only [List.length_set, List.length_append, List.length_replicate, List.length_singleton, List.length_cons, List.length_nil]; omega)))) ?_
        refine wa_take (i := 7) (d := 24) 1 rfl (by kernel_rfl) (by kernel_rfl) (by kernel_rfl) rfl rfl rfl (fun M8 N8 w9 hle9 S9 => .inl (run_load1 rfl rfl Try.underlying3 rfl ((hq.mono (Hp.un_mono hle9 S9.mx)).cell S9.um (i := k) (by first | omega | (simp only [List.length_set, List.length_append, List.length_replicate, List.length_singleton, List.length_cons, List.length_nil]; omega)) 0 rfl rfl))) ?_
        refine wa_takeP (i := 8) (d := 25) 0 rfl (by kernel_rfl) (by kernel_rfl) (by kernel_rfl) rfl rfl rfl (fun w10 => run_neq rfl rfl rfl) ?_
        refine wa_end (by kernel_rfl) (fun w11 S11 => ?_)
        refine nm_sub [(0, _), (1, _), (5, _), (25, _)] ⟨rfl, rfl, rfl, rfl, trivial⟩ ?_
        refine nm_thn ?_
        refine ws_condN sameInts_n26 sameInts_n27 rfl rfl rfl rfl (fun hb25 => ?_) (fun hb25 => ?_)
        · have hb25 := of_decide_eq_true hb25
          exfalso; exact hb25 (by rw [he])
        · have hb25 := of_decide_eq_false hb25
          refine ws_skip rfl ?_
          refine nm_blk ?_
          refine nm_sub [(0, _), (1, _), (5, _)] ⟨rfl, rfl, rfl, trivial⟩ ?_
          refine nm_thn ?_
          refine ws_region rfl ?_
          refine wl_op (k := 0) (k' := 1) rfl rfl rfl (wo_run rfl rfl (run_move rfl rfl) ?_)
          refine wl_op (k := 1) (k' := 2) rfl rfl rfl (wo_run rfl rfl (run_add rfl rfl rfl (by first | omega | (simp only [List.length_set, List.length_append, List.length_replicate, List.length_singleton, List.length_cons, List.length_nil]; omega))) ?_)
          refine wl_op (k := 2) (k' := 3) rfl rfl rfl (wo_run rfl rfl (run_assign rfl rfl) ?_)
          refine wl_end rfl ?_
          refine nm_lp ?_
          intro ax_ hax_
          refine ⟨_, ?hq2m, ⟨k + 1, rfl, hax_.sub ⟨rfl, rfl, rfl, trivial⟩, S11.pick [] [] (by decide) trivial, ?hq2f0⟩⟩
          case hq2f0 => omega
          case hq2m => omega
      · have hb14 := of_decide_eq_false hb14
        refine ws_exit rfl rfl ?_
        refine nm_sub [] trivial ?_
        refine nm_thn ?_
        refine ws_seqN sameInts_n28 sameInts_n29 rfl rfl rfl ?_
        refine ws_region rfl ?_
        refine wl_op (k := 0) (k' := 1) rfl rfl rfl (wo_run rfl rfl (run_assign rfl rfl) ?_)
        refine wl_end rfl ?_
        refine nm_thn ?_
        refine ws_ret hC [_] rfl rfl ⟨rfl, trivial⟩ ?_
        exact ⟨_, rfl, (S1.pick [] [] (by decide) trivial), rfl⟩

noncomputable def ColourOvers_n0 : Code := Try.f9.body.getD .skip
noncomputable def ColourOvers_n1 : Code := cL ColourOvers_n0
noncomputable def ColourOvers_n2 : Code := cR ColourOvers_n0
noncomputable def ColourOvers_n3 : Code := cL ColourOvers_n2
noncomputable def ColourOvers_n4 : Code := cR ColourOvers_n2
noncomputable def ColourOvers_n5 : Code := cL ColourOvers_n4
noncomputable def ColourOvers_n6 : Code := cR ColourOvers_n4
noncomputable def ColourOvers_n7 : Code := cL ColourOvers_n6
noncomputable def ColourOvers_n8 : Code := cR ColourOvers_n6
noncomputable def ColourOvers_n9 : Code := cL ColourOvers_n7
noncomputable def ColourOvers_n10 : Code := cR ColourOvers_n7
noncomputable def ColourOvers_n11 : Code := cL ColourOvers_n10
noncomputable def ColourOvers_n12 : Code := cR ColourOvers_n10
noncomputable def ColourOvers_n13 : Code := cL ColourOvers_n11
noncomputable def ColourOvers_n14 : Code := cR ColourOvers_n11
noncomputable def ColourOvers_n15 : Code := cL ColourOvers_n8
noncomputable def ColourOvers_n16 : Code := cR ColourOvers_n8
set_option maxRecDepth 10000 in
theorem ColourOvers_t {w : World} {M : Hp} {X : Fr} (d : Dg) {dcrsA : Option Addr} {dcrsc : Nat} (hdcrs : RdA cdCr M dcrsA dcrsc d.crs) (S : SH w M X []) : Ct Try.prog 9 [.agg [.slice dcrsA d.crs.length dcrsc, .int .i64 d.loops].toArray] w M X (fun u _ => u = .bool true) := by
  unfold Ct
  have rmhdcrs : d.crs.length * 40 ≤ 140737488355328 := hdcrs.room
  refine calls_in (b := ColourOvers_n0) Try.func9 rfl Try.ntmps9 rfl (fun C hC => ?_)
  refine ws_sub [(0, _)] ⟨rfl, trivial⟩ ?_
  refine ws_seqN ColourOvers_n1 ColourOvers_n2 rfl rfl rfl ?_
  refine ws_region rfl ?_
  refine wl_op (k := 0) (k' := 1) rfl rfl rfl (wo_box (l := [_, _]) rfl rfl rfl rfl rfl S ?_)
  intro gb1 w1 S1; clear S
  refine wl_op (k := 1) (k' := 2) rfl rfl rfl (wo_run rfl rfl (run_assign rfl rfl) ?_)
  refine wl_end rfl ?_
  refine nm_sub [(1, _)] ⟨rfl, trivial⟩ ?_
  refine nm_thn ?_
  refine ws_seqN ColourOvers_n3 ColourOvers_n4 rfl rfl rfl ?_
  refine ws_region rfl ?_
  refine wl_op (k := 0) (k' := 1) rfl rfl rfl (wo_run rfl rfl (run_loadN (us := [_, _]) rfl rfl Try.underlying27 rfl sz27 (S1.boxcs (i := 0) rfl ⟨rfl, rfl, trivial⟩)) ?_)
  refine wl_op (k := 1) (k' := 2) rfl rfl rfl (wo_ct rfl rfl rfl rfl rfl rfl rfl cf16 S1 (DiagramOf_t d (hdcrs.mono (Hp.le_un _ _)) S1.lend) ?_)
  intro vw2 w2 M1 hle1 S2 hRw2; clear S1
  replace hdcrs := hdcrs.mono hle1
  obtain ⟨A1, c1, rfl, hr1⟩ := hRw2
  refine wl_op (k := 2) (k' := 3) rfl rfl rfl (wo_ct rfl rfl rfl rfl rfl rfl rfl cf38 S2 (Overs_t d (hr1.mono (Hp.le_un _ _)) S2.lend) ?_)
  intro vw3 w3 M2 hle2 S3 hRw3; clear S2
  replace hdcrs := hdcrs.mono hle2
  replace hr1 := hr1.mono hle2
  obtain ⟨A2, c2, rfl, hr2⟩ := hRw3
  refine wl_op (k := 3) (k' := 4) rfl rfl rfl (wo_run rfl rfl (run_move rfl rfl) ?_)
  refine wl_op (k := 4) (k' := 5) rfl rfl rfl (wo_run rfl rfl (run_extract rfl rfl rfl) ?_)
  refine wl_op (k := 5) (k' := 6) rfl rfl rfl (wo_run rfl rfl (run_extract rfl rfl rfl) ?_)
  refine wl_op (k := 6) (k' := 7) rfl rfl rfl (wo_run rfl rfl (run_assign rfl rfl) ?_)
  refine wl_op (k := 7) (k' := 8) rfl rfl rfl (wo_run rfl rfl (run_assign rfl rfl) ?_)
  refine wl_end rfl ?_
  refine nm_sub [(1, _), (3, _), (4, _)] ⟨rfl, rfl, rfl, trivial⟩ ?_
  refine nm_thn ?_
  refine ws_seqN ColourOvers_n5 ColourOvers_n6 rfl rfl rfl ?_
  refine ws_region rfl ?_
  refine wl_op (k := 0) (k' := 1) rfl rfl rfl (wo_run rfl rfl (run_loadN (us := [_, _]) rfl rfl Try.underlying27 rfl sz27 (S3.boxcs (i := 0) rfl ⟨rfl, rfl, trivial⟩)) ?_)
  refine wl_op (k := 1) (k' := 2) rfl rfl rfl (wo_ct rfl rfl rfl rfl rfl rfl rfl cf39 S3 (PlanarMay_t d (hdcrs.mono (Hp.le_un _ _)) S3.lend) ?_)
  intro vw4 w4 M3 hle3 S4 hRw4; clear S3
  replace hdcrs := hdcrs.mono hle3
  replace hr1 := hr1.mono hle3
  replace hr2 := hr2.mono hle3
  obtain rfl := hRw4
  refine wl_op (k := 2) (k' := 3) rfl rfl rfl (wo_run rfl rfl (run_assign rfl rfl) ?_)
  refine wl_end rfl ?_
  refine nm_sub [(1, _), (3, _), (4, _), (5, _)] ⟨rfl, rfl, rfl, rfl, trivial⟩ ?_
  refine nm_thn ?_
  refine ws_seqN ColourOvers_n7 ColourOvers_n8 rfl rfl rfl ?_
  refine ws_seqN ColourOvers_n9 ColourOvers_n10 rfl rfl rfl ?_
  refine ws_region rfl ?_
  refine wl_op (k := 0) (k' := 1) rfl rfl rfl (wo_run rfl rfl (run_move rfl rfl) ?_)
  refine wl_op (k := 1) (k' := 2) rfl rfl rfl (wo_run rfl rfl (run_neq rfl rfl rfl) ?_)
  refine wl_end rfl ?_
  refine nm_sub [(1, _), (3, _), (4, _), (5, _), (15, _)] ⟨rfl, rfl, rfl, rfl, rfl, trivial⟩ ?_
  refine nm_thn ?_
  refine ws_condN ColourOvers_n11 ColourOvers_n12 rfl rfl rfl rfl (fun hb15 => ?_) (fun hb15 => ?_)
  · have hb15 := of_decide_eq_true hb15
    have e1 : oversR d = [] := by unfold oversR; rw [if_neg hb15]
    have e2 : (oversR d).length = 0 := by rw [e1]; rfl
    refine ws_seqN ColourOvers_n13 ColourOvers_n14 rfl rfl rfl ?_
    refine ws_region rfl ?_
    refine wl_op (k := 0) (k' := 1) rfl rfl rfl (wo_run rfl rfl (run_move rfl rfl) ?_)
    refine wl_op (k := 1) (k' := 2) rfl rfl rfl (wo_run rfl rfl (run_move rfl rfl) ?_)
    refine wl_op (k := 2) (k' := 3) rfl rfl rfl (wo_run rfl rfl (run_eql rfl rfl rfl) ?_)
    refine wl_op (k := 3) (k' := 4) rfl rfl rfl (wo_run rfl rfl (run_move rfl rfl) ?_)
    refine wl_split (t := 19) rfl (fun hg19 => ?_) (fun hg19 => ?_)
    · have hg19 := of_decide_eq_true hg19
      refine wl_opG (k := 4) (k' := 5) rfl rfl ⟨_, _, _, rfl, rfl, rfl, rfl⟩ rfl (wo_run rfl rfl (run_move rfl rfl) ?_)
      refine wl_opG (k := 5) (k' := 6) rfl rfl ⟨_, _, _, rfl, rfl, rfl, rfl⟩ rfl (wo_run rfl rfl (run_len rfl rfl rfl rfl rfl rfl Try.underlying44) ?_)
      refine wl_opG (k := 6) (k' := 7) rfl rfl ⟨_, _, _, rfl, rfl, rfl, rfl⟩ rfl (wo_run rfl rfl (run_eql rfl rfl rfl) ?_)
      refine wl_op (k := 7) (k' := 8) rfl rfl rfl (wo_run rfl rfl (run_pickT rfl rfl rfl) ?_)
      refine wl_op (k := 8) (k' := 9) rfl rfl rfl (wo_run rfl rfl (run_assign rfl rfl) ?_)
      refine wl_end rfl ?_
      refine nm_sub [(2, _)] ⟨rfl, trivial⟩ ?_
      refine nm_thn ?_
      refine ws_ret hC [_] rfl rfl ⟨rfl, trivial⟩ ?_
      refine ⟨_, rfl, _, (hle1.trans hle2).trans hle3, (S4.pick [] [] (by decide) trivial), ?_⟩
      show Value.bool _ = _
      refine congrArg Value.bool ?_
      first | rfl | (rw [decide_eq_true_iff]; omega) | (simp_all; done)
    · have hg19 := of_decide_eq_false hg19
      exfalso; first | omega | (simp_all; done) | contradiction
  · have hb15 := of_decide_eq_false hb15
    have h0 : errO d = 0 := by omega
    have hov : oversR d = ovTail d := by unfold oversR; rw [if_pos h0]
    refine ws_skip rfl ?_
    refine nm_sub [(1, _), (3, _), (4, _)] ⟨rfl, rfl, rfl, trivial⟩ ?_
    refine nm_thn ?_
    refine ws_seqN ColourOvers_n15 ColourOvers_n16 rfl rfl rfl ?_
    refine ws_region rfl ?_
    refine wl_op (k := 0) (k' := 1) rfl rfl rfl (wo_run rfl rfl (run_move rfl rfl) ?_)
    refine wl_op (k := 1) (k' := 2) rfl rfl rfl (wo_run rfl rfl (run_eql rfl rfl rfl) ?_)
    refine wl_op (k := 2) (k' := 3) rfl rfl rfl (wo_run rfl rfl (run_move rfl rfl) ?_)
    refine wl_split (t := 26) rfl (fun hg26 => ?_) (fun hg26 => ?_)
    · have hg26 := of_decide_eq_true hg26
      refine wl_opG (k := 3) (k' := 4) rfl rfl ⟨_, _, _, rfl, rfl, rfl, rfl⟩ rfl (wo_run rfl rfl (run_move rfl rfl) ?_)
      refine wl_opG (k := 4) (k' := 5) rfl rfl ⟨_, _, _, rfl, rfl, rfl, rfl⟩ rfl (wo_run rfl rfl (run_loadN (us := [_, _]) rfl rfl Try.underlying27 rfl sz27 (S4.boxcs (i := 0) rfl ⟨rfl, rfl, trivial⟩)) ?_)
      refine wl_opG (k := 5) (k' := 6) rfl rfl ⟨_, _, _, rfl, rfl, rfl, rfl⟩ rfl (wo_ct rfl rfl rfl rfl rfl rfl rfl cf40 S4 (OversOf_t d (hdcrs.mono (Hp.le_un _ _)) ((mayO (errO_ok (by omega)).1).1) ((mayO (errO_ok (by omega)).1).2.1) S4.lend) ?_)
      intro vw5 w5 M4 hle4 S5 hRw5; clear S4
      replace hdcrs := hdcrs.mono hle4
      replace hr1 := hr1.mono hle4
      replace hr2 := hr2.mono hle4
      obtain ⟨A3, c3, rfl, hr3⟩ := hRw5
      refine wl_opG (k := 6) (k' := 7) rfl rfl ⟨_, _, _, rfl, rfl, rfl, rfl⟩ rfl (wo_cq rfl rfl rfl rfl rfl rfl rfl cf22 S5 (sameInts_q (oversR d) (ovTail d) (hr2.mono (Hp.le_un _ _)) (hr3.mono (Hp.le_un _ _)) (hov) S5.lend) ?_)
      rintro _ w6 S6 rfl; clear S5
      refine wl_op (k := 7) (k' := 8) rfl rfl rfl (wo_run rfl rfl (run_pickT rfl rfl rfl) ?_)
      refine wl_op (k := 8) (k' := 9) rfl rfl rfl (wo_run rfl rfl (run_assign rfl rfl) ?_)
      refine wl_end rfl ?_
      refine nm_sub [(2, _)] ⟨rfl, trivial⟩ ?_
      refine nm_thn ?_
      refine ws_ret hC [_] rfl rfl ⟨rfl, trivial⟩ ?_
      refine ⟨_, rfl, _, ((hle1.trans hle2).trans hle3).trans hle4, (S6.pick [] [] (by decide) trivial), ?_⟩
      show Value.bool _ = _
      refine congrArg Value.bool ?_
      first | rfl | (rw [decide_eq_true_iff]; omega) | (simp_all; done)
    · have hg26 := of_decide_eq_false hg26
      exfalso; first | omega | (simp_all; done) | contradiction


end Go.Proofs.Ytlbpgnimpcflaaa
