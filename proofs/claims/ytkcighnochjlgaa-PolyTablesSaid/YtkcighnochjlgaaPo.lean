/- Polynomials modulo 2^64: lists of exponents and coefficients, and their classes. Nothing of one program stands here. -/
import Derived.Test.YtkcighnochjlgaaE11
namespace Go.Proofs.Ytkcighnochjlgaa
open Go.ChangeShapes Go.WideShapes Go.ChangeAt Go.RowKit

def md (x : Int) : Int := x % 18446744073709551616
theorem wr_md {x y : Int} : wr x = wr y ↔ md x = md y := by unfold wr md; rw [IntKind.wrap_i64, IntKind.wrap_i64]; omega
theorem md_wr (x : Int) : md (wr x) = md x := by unfold wr md; rw [IntKind.wrap_i64]; omega
theorem wr_idem (x : Int) : wr (wr x) = wr x := wr_md.2 (md_wr x)
theorem md_add {a b c d : Int} (h : md a = md b) (k : md c = md d) : md (a + c) = md (b + d) := by
  unfold md at *; omega
theorem md_neg {a b : Int} (h : md a = md b) : md (-a) = md (-b) := by
  unfold md at *; omega
theorem md_mul {a b c d : Int} (h : md a = md b) (k : md c = md d) : md (a * c) = md (b * d) := by
  unfold md at *
  rw [Int.mul_emod, h, k, ← Int.mul_emod]
theorem md_range {x : Int} (h : wr x = x) (k : md x = 0) : x = 0 := by
  have h1 : wr x = wr 0 := wr_md.2 (by rw [k]; rfl)
  rw [h] at h1
  rw [h1]
  exact wr_id (by omega)
theorem wr_add2 (x y : Int) : wr (x + wr y) = wr (x + y) := wr_md.2 (md_add rfl (md_wr y))

abbrev Tms := List (Int × Int)
/-- The value of a test at a polynomial. -/
def ev : Tms → (Int → Int) → Int
  | [], _ => 0
  | p :: r, φ => p.2 * φ (wr p.1) + ev r φ
theorem ev_append (P Q : Tms) (φ : Int → Int) : ev (P ++ Q) φ = ev P φ + ev Q φ := by
  induction P with
  | nil => simp [ev]
  | cons p P ih => simp only [List.cons_append, ev, ih]; omega
theorem ev_add (P : Tms) (φ ψ : Int → Int) : ev P (fun x => φ x + ψ x) = ev P φ + ev P ψ := by
  induction P with
  | nil => rfl
  | cons p P ih => simp only [ev, ih, Int.mul_add]; omega
theorem ev_zero (P : Tms) : ev P (fun _ => 0) = 0 := by
  induction P with
  | nil => rfl
  | cons p P ih => simp only [ev, ih]; omega
theorem ev_mul (P : Tms) (c : Int) (φ : Int → Int) : ev P (fun x => c * φ x) = c * ev P φ := by
  induction P with
  | nil => simp [ev]
  | cons p P ih => simp only [ev, ih, Int.mul_add, Int.mul_left_comm]
theorem ev_swap (P Q : Tms) (ψ : Int → Int → Int) : ev P (fun x => ev Q (ψ x)) = ev Q (fun y => ev P (fun x => ψ x y)) := by
  induction P with
  | nil => simp only [ev]; rw [ev_zero]
  | cons p P ih => simp only [ev]; rw [ih, ev_add, ev_mul]
theorem ev_cong (P : Tms) {φ ψ : Int → Int} (h : ∀ x, md (φ x) = md (ψ x)) : md (ev P φ) = md (ev P ψ) := by
  induction P with
  | nil => rfl
  | cons p P ih => exact md_add (md_mul rfl (h _)) ih
theorem ev_map (P : Tms) (f : Int × Int → Int × Int) (c : Int) (g : Int → Int) (hf : ∀ p, (f p).2 = p.2 * c) (hg : ∀ p : Int × Int, wr (f p).1 = g (wr p.1)) (φ : Int → Int) : ev (P.map f) φ = c * ev P (fun x => φ (g x)) := by
  induction P with
  | nil => simp [ev]
  | cons p P ih => simp only [List.map_cons, ev, ih, hf, hg, Int.mul_add]; rw [Int.mul_comm p.2 c, Int.mul_assoc]
def cf (P : Tms) (k : Int) : Int := ev P (fun x => if x = k then 1 else 0)
theorem cf_nil (k : Int) : cf [] k = 0 := rfl
theorem cf_cons (p : Int × Int) (P : Tms) (k : Int) : cf (p :: P) k = (if wr p.1 = k then p.2 else 0) + cf P k := by
  unfold cf; simp only [ev]; split <;> simp
theorem cf_append (P Q : Tms) (k : Int) : cf (P ++ Q) k = cf P k + cf Q k := ev_append _ _ _
def eqv (P Q : Tms) : Prop := ∀ φ, md (ev P φ) = md (ev Q φ)
theorem eqv.refl (P : Tms) : eqv P P := fun _ => rfl
theorem eqv.symm {P Q : Tms} (h : eqv P Q) : eqv Q P := fun φ => (h φ).symm
theorem eqv.trans {P Q R : Tms} (h : eqv P Q) (k : eqv Q R) : eqv P R := fun φ => (h φ).trans (k φ)
/-- The exponents' coefficients say all. -/
theorem ev_filter (P : Tms) (x : Int) (φ : Int → Int) : ev P φ = cf P x * φ x + ev (P.filter fun p => !decide (wr p.1 = x)) φ := by
  induction P with
  | nil => simp [ev, cf]
  | cons p P ih =>
    rw [cf_cons]
    by_cases h : wr p.1 = x
    · rw [List.filter_cons_of_neg (by simp [h])]
      simp only [ev, if_pos h, Int.add_mul]
      rw [ih, h]; omega
    · rw [List.filter_cons_of_pos (by simp [h])]
      simp only [ev, if_neg h]
      rw [ih]
      rw [Int.zero_add]; omega
theorem cf_filter (P : Tms) (x k : Int) : cf (P.filter fun p => !decide (wr p.1 = x)) k = if k = x then 0 else cf P k := by
  induction P with
  | nil => simp [cf, ev]
  | cons p P ih =>
    by_cases h : wr p.1 = x
    · rw [List.filter_cons_of_neg (by simp [h]), ih]
      split
      · rfl
      · rename_i hk
        rw [cf_cons, if_neg (fun e => hk (e.symm.trans h))]; omega
    · rw [List.filter_cons_of_pos (by simp [h]), cf_cons, ih]
      by_cases hk : k = x
      · rw [if_pos hk, if_neg (fun e => h (e.trans hk)), if_pos hk]; omega
      · rw [if_neg hk, if_neg hk, cf_cons]
theorem ev_zero_of_cf : ∀ (n : Nat) (P : Tms), P.length ≤ n → (∀ k, md (cf P k) = 0) → ∀ φ, md (ev P φ) = 0
  | _, [], _, _, φ => rfl
  | 0, p :: P, h, _, _ => by simp at h
  | n + 1, p :: P, hl, h, φ => by
    have h1 := ev_filter (p :: P) (wr p.1) φ
    rw [h1]
    have h2 : md (ev ((p :: P).filter fun q => !decide (wr q.1 = wr p.1)) φ) = 0 := by
      refine ev_zero_of_cf n _ ?_ (fun k => ?_) φ
      · have := List.length_filter_lt_length_iff_exists (l := p :: P) (p := fun q => !decide (wr q.1 = wr p.1))
        have h3 := this.2 ⟨p, by simp, by simp⟩
        simp only [List.length_cons] at hl h3 ⊢
        omega
      · rw [cf_filter]
        split
        · rfl
        · exact h k
    have h4 : md (cf (p :: P) (wr p.1)) = md 0 := h (wr p.1)
    have h3 := md_add (md_mul h4 (rfl : md (φ (wr p.1)) = md (φ (wr p.1)))) (h2.trans (show (0 : Int) = md 0 from rfl))
    rw [h3, Int.zero_mul]; rfl
def negT (P : Tms) : Tms := P.map fun p => (p.1, -p.2)
theorem ev_negT (P : Tms) (φ : Int → Int) : ev (negT P) φ = - ev P φ := by
  have := ev_map P (fun p => (p.1, -p.2)) (-1) id (fun p => by simp only; omega) (fun p => rfl) φ
  unfold negT
  rw [this]
  show -1 * ev P φ = _
  omega
theorem eqv_of_cf {P Q : Tms} (h : ∀ k, md (cf P k) = md (cf Q k)) : eqv P Q := fun φ => by
  have h1 := ev_zero_of_cf _ (P ++ negT Q) (Nat.le_refl _) (fun k => by
    have := h k
    have e : cf (P ++ negT Q) k = cf P k + - cf Q k := by rw [cf_append]; unfold cf; rw [ev_negT]
    rw [e]
    unfold md at *; omega) φ
  rw [ev_append, ev_negT] at h1
  unfold md at *; omega
def prodT (P Q : Tms) : Tms := P.flatMap fun p => Q.map fun q => (p.1 + q.1, p.2 * q.2)
theorem ev_prodT (P Q : Tms) (φ : Int → Int) : ev (prodT P Q) φ = ev P (fun x => ev Q (fun y => φ (wr (x + y)))) := by
  induction P with
  | nil => rfl
  | cons p P ih =>
    have e : ∀ Q : Tms, ev (Q.map fun q => (p.1 + q.1, p.2 * q.2)) φ = p.2 * ev Q (fun y => φ (wr (wr p.1 + y))) := fun Q => by
      have := ev_map Q (fun q => (p.1 + q.1, p.2 * q.2)) p.2 (fun y => wr (wr p.1 + y)) (fun q => Int.mul_comm _ _) (fun q => by simp only; rw [wr_add2, wr_wr]) φ
      exact this
    show ev ((Q.map fun q => (p.1 + q.1, p.2 * q.2)) ++ prodT P Q) φ = _
    rw [ev_append, ih, e]
    rfl
theorem eqv_append {P P' Q Q' : Tms} (h : eqv P P') (k : eqv Q Q') : eqv (P ++ Q) (P' ++ Q') := fun φ => by
  rw [ev_append, ev_append]; exact md_add (h φ) (k φ)
theorem eqv_prod {P P' Q Q' : Tms} (h : eqv P P') (k : eqv Q Q') : eqv (prodT P Q) (prodT P' Q') := fun φ => by
  rw [ev_prodT, ev_prodT]
  exact (h _).trans (ev_cong _ fun x => k _)
theorem eqv_neg {P P' : Tms} (h : eqv P P') : eqv (negT P) (negT P') := fun φ => by
  rw [ev_negT, ev_negT]; exact md_neg (h φ)

/-! ### Classes -/
def polS : Setoid Tms := ⟨eqv, eqv.refl, eqv.symm, eqv.trans⟩
def Pol := Quotient polS
def mk (P : Tms) : Pol := Quotient.mk polS P
theorem mk_eq {P Q : Tms} (h : eqv P Q) : mk P = mk Q := Quotient.sound (s := polS) h
theorem mk_eqv {P Q : Tms} (h : mk P = mk Q) : eqv P Q := Quotient.exact (s := polS) h
theorem Pol.ind {p : Pol → Prop} (h : ∀ P, p (mk P)) (x : Pol) : p x := Quotient.ind (s := polS) h x
def Pol.add (x y : Pol) : Pol := Quotient.liftOn₂ (s₁ := polS) (s₂ := polS) x y (fun P Q => mk (P ++ Q)) fun _ _ _ _ h k => mk_eq (eqv_append h k)
def Pol.mul (x y : Pol) : Pol := Quotient.liftOn₂ (s₁ := polS) (s₂ := polS) x y (fun P Q => mk (prodT P Q)) fun _ _ _ _ h k => mk_eq (eqv_prod h k)
def Pol.neg (x : Pol) : Pol := Quotient.liftOn (s := polS) x (fun P => mk (negT P)) fun _ _ h => mk_eq (eqv_neg h)
instance : Add Pol := ⟨Pol.add⟩
instance : Mul Pol := ⟨Pol.mul⟩
instance : Neg Pol := ⟨Pol.neg⟩
def Pol.o : Pol := mk []
def Pol.i : Pol := mk [(0, 1)]
def mono (e c : Int) : Pol := mk [(e, c)]
theorem mk_append (P Q : Tms) : mk (P ++ Q) = mk P + mk Q := rfl
theorem mk_prod (P Q : Tms) : mk (prodT P Q) = mk P * mk Q := rfl
theorem mk_neg (P : Tms) : mk (negT P) = - mk P := rfl
theorem mk_nil : mk [] = Pol.o := rfl
theorem mk_cons (p : Int × Int) (P : Tms) : mk (p :: P) = mono p.1 p.2 + mk P := rfl
theorem Pol.add_comm (x y : Pol) : x + y = y + x := by
  induction x using Pol.ind with | _ P =>
  induction y using Pol.ind with | _ Q =>
  exact mk_eq fun φ => by rw [ev_append, ev_append, Int.add_comm]
theorem Pol.add_assoc (x y z : Pol) : x + y + z = x + (y + z) := by
  induction x using Pol.ind with | _ P =>
  induction y using Pol.ind with | _ Q =>
  induction z using Pol.ind with | _ R =>
  exact mk_eq fun φ => by simp only [ev_append, Int.add_assoc]
theorem Pol.add_zero (x : Pol) : x + Pol.o = x := by
  induction x using Pol.ind with | _ P =>
  exact mk_eq fun φ => by rw [List.append_nil]
theorem Pol.zero_add (x : Pol) : Pol.o + x = x := by rw [Pol.add_comm, Pol.add_zero]
theorem Pol.add_neg (x : Pol) : x + -x = Pol.o := by
  induction x using Pol.ind with | _ P =>
  exact mk_eq fun φ => by rw [ev_append, ev_negT]; simp only [ev]; congr 1; omega
theorem Pol.neg_neg (x : Pol) : - -x = x := by
  induction x using Pol.ind with | _ P =>
  exact mk_eq fun φ => by rw [ev_negT, ev_negT]; congr 1; omega
theorem Pol.neg_add (x y : Pol) : -(x + y) = -x + -y := by
  induction x using Pol.ind with | _ P =>
  induction y using Pol.ind with | _ Q =>
  exact mk_eq fun φ => by simp only [ev_negT, ev_append]; congr 1; omega
theorem Pol.neg_zero : -Pol.o = Pol.o := mk_eq fun φ => by rw [ev_negT]; rfl
theorem Pol.mul_comm (x y : Pol) : x * y = y * x := by
  induction x using Pol.ind with | _ P =>
  induction y using Pol.ind with | _ Q =>
  exact mk_eq fun φ => by rw [ev_prodT, ev_prodT, ev_swap]; simp only [Int.add_comm]
theorem Pol.mul_assoc (x y z : Pol) : x * y * z = x * (y * z) := by
  induction x using Pol.ind with | _ P =>
  induction y using Pol.ind with | _ Q =>
  induction z using Pol.ind with | _ R =>
  exact mk_eq fun φ => by simp only [ev_prodT, wr_wr, wr_add2, Int.add_assoc]
theorem Pol.mul_add (x y z : Pol) : x * (y + z) = x * y + x * z := by
  induction x using Pol.ind with | _ P =>
  induction y using Pol.ind with | _ Q =>
  induction z using Pol.ind with | _ R =>
  exact mk_eq fun φ => by simp only [ev_prodT, ev_append, ev_add]
theorem Pol.add_mul (x y z : Pol) : (x + y) * z = x * z + y * z := by rw [Pol.mul_comm, Pol.mul_add, Pol.mul_comm z x, Pol.mul_comm z y]
theorem Pol.mul_zero (x : Pol) : x * Pol.o = Pol.o := by
  induction x using Pol.ind with | _ P =>
  exact mk_eq fun φ => by rw [ev_prodT]; simp only [ev]; rw [ev_zero]
theorem Pol.zero_mul (x : Pol) : Pol.o * x = Pol.o := by rw [Pol.mul_comm, Pol.mul_zero]
theorem Pol.mul_neg (x y : Pol) : x * -y = -(x * y) := by
  induction x using Pol.ind with | _ P =>
  induction y using Pol.ind with | _ Q =>
  refine mk_eq fun φ => ?_
  rw [ev_negT, ev_prodT, ev_prodT]
  have e : (fun x => ev (negT Q) (fun y => φ (wr (x + y)))) = fun x => -1 * ev Q (fun y => φ (wr (x + y))) := by funext x; rw [ev_negT]; omega
  rw [e, ev_mul]; congr 1; omega
theorem Pol.neg_mul (x y : Pol) : -x * y = -(x * y) := by rw [Pol.mul_comm, Pol.mul_neg, Pol.mul_comm]
theorem Pol.mul_one (x : Pol) : x * Pol.i = x := by
  induction x using Pol.ind with | _ P =>
  refine mk_eq fun φ => ?_
  rw [ev_prodT]
  have e : ∀ Q : Tms, ev Q (fun x => ev [(0, 1)] (fun y => φ (wr (x + y)))) = ev Q φ := by
    intro Q
    induction Q with
    | nil => rfl
    | cons q Q ih =>
      have h0 : wr 0 = 0 := wr_id (by omega)
      show q.2 * (1 * φ (wr (wr q.1 + wr 0)) + 0) + _ = q.2 * φ (wr q.1) + _
      rw [h0, show wr (wr q.1 + 0) = wr q.1 from by rw [Int.add_zero, wr_idem], ih, Int.one_mul, Int.add_zero]
  rw [e]
theorem Pol.one_mul (x : Pol) : Pol.i * x = x := by rw [Pol.mul_comm, Pol.mul_one]
instance : Std.Associative (α := Pol) (· + ·) := ⟨Pol.add_assoc⟩
instance : Std.Commutative (α := Pol) (· + ·) := ⟨Pol.add_comm⟩
instance : Std.Associative (α := Pol) (· * ·) := ⟨Pol.mul_assoc⟩
instance : Std.Commutative (α := Pol) (· * ·) := ⟨Pol.mul_comm⟩
/-! Single terms. -/
theorem mono_congr {e e' c c' : Int} (he : wr e = wr e') (hc : md c = md c') : mono e c = mono e' c' := mk_eq fun φ => by
  show md (c * φ (wr e) + 0) = md (c' * φ (wr e') + 0)
  rw [he]
  exact md_add (md_mul hc rfl) rfl
theorem mono_wr (e c : Int) : mono (wr e) (wr c) = mono e c := mono_congr (wr_idem e) (md_wr c)
theorem mono_zero (e : Int) : mono e 0 = Pol.o := mk_eq fun φ => by simp [ev]
theorem mono_add (e c d : Int) : mono e (c + d) = mono e c + mono e d := mk_eq fun φ => by
  show md ((c + d) * φ (wr e) + 0) = md (c * φ (wr e) + (d * φ (wr e) + 0))
  rw [Int.add_mul]; congr 1; omega
theorem mono_mul (e c f d : Int) : mono e c * mono f d = mono (e + f) (c * d) := rfl
theorem mono_neg (e c : Int) : - mono e c = mono e (-c) := rfl
theorem mk_map_wr (P : Tms) : mk (P.map fun p => (wr p.1, wr p.2)) = mk P := by
  induction P with
  | nil => rfl
  | cons p P ih => rw [List.map_cons, mk_cons, mk_cons, ih]; simp only; rw [mono_wr]
/-- Multiplying by one term. -/
theorem mk_shift (P : Tms) (e c : Int) : mk (P.map fun p => (p.1 + e, p.2 * c)) = mk P * mono e c := by
  induction P with
  | nil => rw [List.map_nil, mk_nil, Pol.zero_mul]
  | cons p P ih => rw [List.map_cons, mk_cons, mk_cons, ih, Pol.add_mul, mono_mul]
theorem mk_perm {P Q : Tms} (h : P.Perm Q) : mk P = mk Q := by
  induction h with
  | nil => rfl
  | cons x _ ih => rw [mk_cons, mk_cons, ih]
  | swap x y l => simp only [mk_cons]; rw [← Pol.add_assoc, ← Pol.add_assoc, Pol.add_comm (mono y.1 y.2)]
  | trans _ _ h1 h2 => exact h1.trans h2

/-! ### Polynomials in form -/
structure Tm where
  e : Int
  c : Int
instance : Inhabited Tm := ⟨⟨0, 0⟩⟩
def pr (l : List Tm) : Tms := l.map fun t => (t.e, t.c)
def Can (l : List Tm) : Prop := l.Pairwise (fun s t => s.e < t.e) ∧ ∀ t ∈ l, t.c ≠ 0 ∧ wr t.c = t.c ∧ wr t.e = t.e
theorem Can.nil_ : Can [] := ⟨List.Pairwise.nil, by simp⟩
theorem Can.tail {t : Tm} {l : List Tm} (h : Can (t :: l)) : Can l := ⟨(List.pairwise_cons.1 h.1).2, fun s hs => h.2 s (by simp [hs])⟩
theorem cf_pr_zero {l : List Tm} (h : ∀ t ∈ l, wr t.e = t.e) {k : Int} (hk : ∀ t ∈ l, t.e ≠ k) : cf (pr l) k = 0 := by
  induction l with
  | nil => rfl
  | cons t l ih =>
    rw [show pr (t :: l) = (t.e, t.c) :: pr l from rfl, cf_cons, ih (fun s hs => h s (by simp [hs])) (fun s hs => hk s (by simp [hs]))]
    simp only [h t (by simp)]
    rw [if_neg (hk t (by simp))]; rfl
theorem can_cf {l : List Tm} (h : Can l) {t : Tm} (ht : t ∈ l) : cf (pr l) t.e = t.c := by
  induction l with
  | nil => simp at ht
  | cons s l ih =>
    rw [show pr (s :: l) = (s.e, s.c) :: pr l from rfl, cf_cons]
    simp only [(h.2 s (by simp)).2.2]
    have hs := (List.pairwise_cons.1 h.1).1
    rcases List.mem_cons.1 ht with rfl | ht
    · rw [if_pos rfl, cf_pr_zero (fun u hu => (h.2 u (by simp [hu])).2.2) (fun u hu e => by have := hs u hu; omega)]; omega
    · rw [if_neg (fun e => by have := hs t ht; omega), ih h.tail ht]; omega
theorem can_mem {l : List Tm} (h : Can l) {k : Int} (hk : cf (pr l) k ≠ 0) : (⟨k, cf (pr l) k⟩ : Tm) ∈ l := by
  by_cases he : ∃ t ∈ l, t.e = k
  · obtain ⟨t, ht, rfl⟩ := he
    rw [can_cf h ht]; exact ht
  · exact absurd (cf_pr_zero (fun u hu => (h.2 u hu).2.2) (fun t ht e => he ⟨t, ht, e⟩)) hk
theorem can_sub {a b : List Tm} (ha : Can a) (hb : Can b) (h : mk (pr a) = mk (pr b)) {t : Tm} (ht : t ∈ a) : t ∈ b := by
  have h1 := can_cf ha ht
  have h2 : md (cf (pr a) t.e) = md (cf (pr b) t.e) := mk_eqv h _
  obtain ⟨c1, c2, c3⟩ := ha.2 t ht
  rw [h1] at h2
  have hne : cf (pr b) t.e ≠ 0 := fun e0 => c1 (md_range c2 (by rw [h2, e0]; rfl))
  have hm := can_mem hb hne
  have h3 : cf (pr b) t.e = t.c := by
    have := (hb.2 _ hm).2.1
    have h4 : wr (cf (pr b) t.e) = wr t.c := wr_md.2 h2.symm
    exact this.symm.trans (h4.trans c2)
  rw [h3] at hm
  exact hm
theorem sorted_ext : ∀ {a b : List Tm}, a.Pairwise (fun s t => s.e < t.e) → b.Pairwise (fun s t => s.e < t.e) → (∀ t, t ∈ a ↔ t ∈ b) → a = b
  | [], [], _, _, _ => rfl
  | [], t :: b, _, _, h => by have := (h t).2 (by simp); simp at this
  | t :: a, [], _, _, h => by have := (h t).1 (by simp); simp at this
  | s :: a, t :: b, ha, hb, h => by
    obtain ⟨a1, a2⟩ := List.pairwise_cons.1 ha
    obtain ⟨b1, b2⟩ := List.pairwise_cons.1 hb
    have hst : s = t := by
      have h1 := (h s).1 (by simp)
      have h2 := (h t).2 (by simp)
      rcases List.mem_cons.1 h1 with e | h1
      · exact e
      · rcases List.mem_cons.1 h2 with e | h2
        · exact e.symm
        · have := a1 t h2; have := b1 s h1; omega
    subst hst
    refine congrArg _ (sorted_ext a2 b2 fun u => ⟨fun hu => ?_, fun hu => ?_⟩)
    · rcases List.mem_cons.1 ((h u).1 (by simp [hu])) with e | h1
      · subst e; have := a1 u hu; omega
      · exact h1
    · rcases List.mem_cons.1 ((h u).2 (by simp [hu])) with e | h1
      · subst e; have := b1 u hu; omega
      · exact h1
theorem can_ext {a b : List Tm} (ha : Can a) (hb : Can b) (h : mk (pr a) = mk (pr b)) : a = b :=
  sorted_ext ha.1 hb.1 fun _ => ⟨can_sub ha hb h, can_sub hb ha h.symm⟩
/-- A term put into a polynomial in form. -/
def put : List Tm → Int → Int → List Tm
  | [], e, c => if c = 0 then [] else [⟨e, c⟩]
  | t :: l, e, c => if c = 0 then t :: l else if t.e < e then t :: put l e c else if t.e = e then (if wr (t.c + c) = 0 then l else ⟨e, wr (t.c + c)⟩ :: l) else ⟨e, c⟩ :: t :: l
theorem put_zero (l : List Tm) (e : Int) : put l e 0 = l := by cases l <;> simp [put]
theorem mk_put (l : List Tm) (e c : Int) : mk (pr (put l e c)) = mk (pr l) + mono e c := by
  induction l with
  | nil =>
    unfold put
    split
    · rename_i h; subst h; rw [mono_zero, Pol.add_zero]
    · show mono e c + Pol.o = Pol.o + mono e c
      rw [Pol.add_comm]
  | cons t l ih =>
    unfold put
    split
    · rename_i h; subst h; rw [mono_zero, Pol.add_zero]
    · split
      · show mono t.e t.c + mk (pr (put l e c)) = mono t.e t.c + mk (pr l) + mono e c
        rw [ih, Pol.add_assoc]
      · split
        · rename_i he
          subst he
          have h1 : mono t.e (wr (t.c + c)) = mono t.e t.c + mono t.e c := by rw [← mono_add]; exact mono_congr rfl (md_wr _)
          split
          · rename_i h0
            show mk (pr l) = mono t.e t.c + mk (pr l) + mono t.e c
            rw [h0, mono_zero] at h1
            rw [Pol.add_assoc, Pol.add_comm (mk (pr l)), ← Pol.add_assoc, ← h1, Pol.zero_add]
          · show mono t.e (wr (t.c + c)) + mk (pr l) = mono t.e t.c + mk (pr l) + mono t.e c
            rw [h1, Pol.add_assoc, Pol.add_assoc, Pol.add_comm (mono t.e c)]
        · show mono e c + (mono t.e t.c + mk (pr l)) = mono t.e t.c + mk (pr l) + mono e c
          rw [Pol.add_comm]
theorem put_mem {l : List Tm} {e c : Int} {u : Tm} (hu : u ∈ put l e c) : u.e = e ∨ u ∈ l := by
  induction l with
  | nil =>
    unfold put at hu
    split at hu
    · simp at hu
    · simp at hu; subst hu; exact .inl rfl
  | cons t l ih =>
    unfold put at hu
    split at hu
    · exact .inr hu
    · split at hu
      · rcases List.mem_cons.1 hu with h | h
        · subst h; exact .inr (by simp)
        · rcases ih h with h | h
          · exact .inl h
          · exact .inr (by simp [h])
      · split at hu
        · split at hu
          · exact .inr (by simp [hu])
          · rcases List.mem_cons.1 hu with h | h
            · subst h; exact .inl rfl
            · exact .inr (by simp [h])
        · rcases List.mem_cons.1 hu with h | h
          · subst h; exact .inl rfl
          · exact .inr h
theorem put_can {l : List Tm} (h : Can l) {e c : Int} (he : wr e = e) (hc : wr c = c) : Can (put l e c) := by
  induction l with
  | nil =>
    unfold put
    split
    · exact Can.nil_
    · rename_i h0
      exact ⟨List.pairwise_singleton _ _, fun t ht => by simp at ht; subst ht; exact ⟨h0, hc, he⟩⟩
  | cons t l ih =>
    obtain ⟨h1, h2⟩ := List.pairwise_cons.1 h.1
    have ih := ih h.tail
    unfold put
    split
    · exact h
    · rename_i h0
      split
      · rename_i hlt
        refine ⟨List.pairwise_cons.2 ⟨fun u hu => ?_, ih.1⟩, fun u hu => ?_⟩
        · rcases put_mem hu with e' | h'
          · omega
          · exact h1 u h'
        · rcases List.mem_cons.1 hu with e' | h'
          · subst e'; exact h.2 _ (by simp)
          · exact ih.2 u h'
      · split
        · rename_i hle heq
          split
          · exact h.tail
          · rename_i hn
            refine ⟨List.pairwise_cons.2 ⟨fun u hu => ?_, h2⟩, fun u hu => ?_⟩
            · have := h1 u hu; show e < u.e; omega
            · rcases List.mem_cons.1 hu with e' | h'
              · subst e'; exact ⟨hn, wr_idem _, he⟩
              · exact h.2 u (by simp [h'])
        · rename_i hle hne
          refine ⟨List.pairwise_cons.2 ⟨fun u hu => ?_, h.1⟩, fun u hu => ?_⟩
          · show e < u.e
            rcases List.mem_cons.1 hu with e' | h'
            · subst e'; omega
            · have := h1 u h'; omega
          · rcases List.mem_cons.1 hu with e' | h'
            · subst e'; exact ⟨h0, hc, he⟩
            · exact h.2 u h'
end Go.Proofs.Ytkcighnochjlgaa
