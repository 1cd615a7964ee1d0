/- The walk's rules with names; elements of the common types. -/
import Derived.Test.YtkcighnochjlgaaE4
namespace Go.Proofs.Ytkcighnochjlgaa
open Go.ChangeShapes Go.WideShapes Go.ChangeAt Go.RowKit

section
variable {P : Program} {n : Nat} {C : Ctx} {c : Code} {s : List K} {L : List (Nat × Value)} {w : World} {M : Hp} {X : Fr} {H : List Rs}
theorem ws_seqN (a b : Code) (hk : kind c = 1) (ha : cL c = a) (hb : cR c = b) (h : WS P n C a (.thn b :: s) L w) : WS P n C c s L w := by subst ha; subst hb; exact ws_seq hk h
theorem ws_blockN (a : Code) (i : Nat) (hk : kind c = 3) (ha : cL c = a) (hi : cId c = i) (h : WS P n C a (.blk i :: s) L w) : WS P n C c s L w := by subst ha; subst hi; exact ws_block hk h
theorem ws_condN (x y : Code) {b : Bool} (hk : kind c = 2) (hb : oev L (cX c) = some (.bool b)) (hx : cL c = x) (hy : cR c = y) (ht : b = true → WS P n C x s L w) (hf : b = false → WS P n C y s L w) : WS P n C c s L w := by subst hx; subst hy; exact ws_cond hk hb ht hf
theorem ws_condTN (x : Code) (hk : kind c = 2) (hb : oev L (cX c) = some (.bool true)) (hx : cL c = x) (ht : WS P n C x s L w) : WS P n C c s L w := by subst hx; exact ws_condT hk hb ht
theorem ws_condFN (y : Code) (hk : kind c = 2) (hb : oev L (cX c) = some (.bool false)) (hy : cR c = y) (hf : WS P n C y s L w) : WS P n C c s L w := by subst hy; exact ws_condF hk hb hf
theorem ws_in {a : Act} {c' : Code} (ha : Env n L a) (hc : c' = c) (h : WS P n C c s L w) : c'.wp P (post P C s) a w := by subst hc; exact h a ha
/-- A loop: I k holds at its head, k the measure. -/
theorem ws_loopE (I : Nat → Act → World → Prop) (hk : kind c = 4) (h0 : ∀ a, Env n L a → ∃ k, I k a w)
    (round : ∀ k a w, I k a w → (cL c).wp P (post P C (.lp (fun a' w' => ∃ k', k' < k ∧ I k' a' w') :: s)) a w) : WS P n C c s L w := by
  intro a ha
  rw [kind_loop hk]
  have key : ∀ m k, k < m → ∀ a w, I k a w → Code.rounds P (cL c) (post P C s) m a w := by
    intro m
    induction m with
    | zero => intro k hk; omega
    | succ m ih =>
      intro k hk a w hi
      rw [rounds_succ]
      refine Code.wp_mono (fun e a w q => ?_) (round k a w hi)
      cases e with
      | normal =>
        obtain ⟨k', hlt, hi'⟩ := q
        exact ih k' (by omega) a w hi'
      | _ => exact q
  obtain ⟨k0, h1⟩ := h0 a ha
  exact wp_loop_rounds (k0 + 1) (key (k0 + 1) k0 (by omega) a w h1)
/-- What holds behind a piece of code, whatever way it went. -/
theorem ws_cut (J : Act → World → Prop) (h1 : WS P n C c (.lp J :: s) L w) (h2 : ∀ a w, J a w → post P C s .normal a w) : WS P n C c s L w := by
  intro a ha
  refine Code.wp_mono (fun e a w q => ?_) (h1 a ha)
  cases e with
  | normal => exact h2 a w q
  | _ => exact q
theorem nm_in {a : Act} (ha : Env n L a) (h : NM P n C s L w) : post P C s .normal a w := h a ha
theorem run_nilCheck {o : Oper} {x : Operand} {p : Addr} (ho : o.op = .nilCheck x) (hx : oev L x = some (.pointer (some p))) : Run P o L w (.pointer (some p)) w := by
  intro n c hc; unfold execOp; simp only [ho, hc.eval hx]; rfl
theorem ws_eq (t : Nat) {v : Value} (v' : Value) (hl : lk L t = some v) (e : v = v') (h : WS P n C c s ((t, v') :: L) w) : WS P n C c s L w := by
  subst e
  exact fun a ha => h a ⟨ha.sz, ha.df, fun u x hx => by
    rw [lk_cons] at hx
    split at hx
    · rename_i e; subst e; injection hx with hx; subst hx; exact ha.at_ _ _ hl
    · exact ha.at_ _ _ hx⟩
theorem wl_eq {k : Nat} (t : Nat) {v : Value} (v' : Value) (hl : lk L t = some v) (e : v = v') (h : WL P n C c k s ((t, v') :: L) w) : WL P n C c k s L w := by
  subst e
  exact fun a ha => h a ⟨ha.sz, ha.df, fun u x hx => by
    rw [lk_cons] at hx
    split at hx
    · rename_i e; subst e; injection hx with hx; subst hx; exact ha.at_ _ _ hl
    · exact ha.at_ _ _ hx⟩
theorem wa_split {Mb : Hp} {Hb : List Rs} {f : Nat} {l : Array Bool} {t : Nat} {b : Bool} (hl : lk L t = some (.bool b)) (ht : b = true → WA P n C c s X f l ((t, .bool true) :: L) Mb Hb M H) (hf : b = false → WA P n C c s X f l ((t, .bool false) :: L) Mb Hb M H) : WA P n C c s X f l L Mb Hb M H := by
  have key : ∀ b', b = b' → WA P n C c s X f l ((t, .bool b') :: L) Mb Hb M H → WA P n C c s X f l L Mb Hb M H := by
    intro b' e h hg a ha
    refine h hg a ⟨ha.sz, ha.df, fun u v hv => ?_⟩
    rw [lk_cons] at hv
    split at hv
    · rename_i e2; subst e2; injection hv with hv; subst hv; subst e; exact ha.at_ _ _ hl
    · exact ha.at_ _ _ hv
  cases b
  · exact key false rfl (hf rfl)
  · exact key true rfl (ht rfl)
/-- append of one element that lies in a box. -/
theorem wo_append1 {α : Type} {C : Cd α} {xs : List α} {o : Oper} {d g i q c : Nat} {t E : TypeId} {l : List Value} {Kt : List (Nat × Value) → World → Prop} (y : α) {ca : Call} {ops : List Operand} {ts : List TypeId} {rv : Value} (hop : o.op = .call ca) (hca : ca.callee = .builtin .append) (hxs : ca.args = ops.toArray) (hts : ca.argTypes = ts.toArray) (hd : o.dst = some d) (hn : Nat.blt d n = true)
    (hx : oevs L ops = some [rv, .slice (some ⟨g, 0, none⟩) 1 c]) (ht : ts = [t, t]) (hT : SlOf P t C) (S : SH w M X H) (hi : nth H i = some (Rs.row C rv xs)) (hq : nth H q = some (Rs.box g E l)) (hl : l = C.f y) (hr : (xs.length + 1) * C.u8 ≤ 140737488355328)
    (h : ∀ v' w', SH w' M X (H.set i (Rs.row C v' (xs ++ [y]))) → Kt ((d, v') :: L) w') : WO P n o L w Kt := by
  refine wo_append (ys := [y]) hop hca hxs hts hd hn hx ht hT S hi (.inr ⟨_, rfl, fun j u hu => ?_⟩) hr h
  rw [List.flatMap_cons, List.flatMap_nil, List.append_nil, ← hl] at hu
  have := S.boxc hq (o := j) (u := u) (by rw [nth_eq]; exact hu)
  unfold Addr.add
  split
  · rename_i e; subst e; exact this
  · simpa using this
end

theorem SH.one {α : Type} {D : Cd α} {v : Value} {xs : List α} {w : World} {M : Hp} {X : Fr} {H : List Rs} {i : Nat} (S : SH w M X H) (hi : nth H i = some (Rs.row D v xs)) : v.oneCell' = true := by
  obtain ⟨A, c, rfl, _⟩ := S.sl hi
  rfl
theorem SH.cells1 {α : Type} {D : Cd α} {v : Value} {xs : List α} {w : World} {M : Hp} {X : Fr} {H : List Rs} {i : Nat} (S : SH w M X H) (hi : nth H i = some (Rs.row D v xs)) : v.cells.toList = [v] := by
  obtain ⟨A, c, rfl, _⟩ := S.sl hi
  rfl
theorem ones_cons {u : Value} {us : List Value} (h : u.oneCell' = true) (hs : ones us = true) : ones (u :: us) = true := by
  simp [ones, h, hs]
def cdInt : Cd Int := ⟨fun x => [.int .i64 x], 1, 8, 3, 0, fun _ => rfl, by intro x u hu; simp at hu; subst hu; rfl⟩
def cdBool : Cd Bool := ⟨fun x => [.bool x], 1, 1, 4, false, fun _ => rfl, by intro x u hu; simp at hu; subst hu; rfl⟩
theorem int_eq {a b : Int} (h : a = b) : Value.int .i64 a = .int .i64 b := by rw [h]
structure SlV where
  A : Option Addr
  n : Nat
  c : Nat
instance : Inhabited SlV := ⟨⟨none, 0, 0⟩⟩
def cdV (E : TypeId) : Cd SlV := ⟨fun x => [.slice x.A x.n x.c], 1, 24, E, ⟨none, 0, 0⟩, fun _ => rfl, by intro x u hu; simp at hu; subst hu; rfl⟩
/-- The slices vs read as the lists xss. -/
def Rd2 {α : Type} (C : Cd α) (N : Hp) (vs : List SlV) (xss : List (List α)) : Prop :=
  vs.length = xss.length ∧ ∀ i, i < xss.length → (ga vs i).n = (ga xss i).length ∧ RdA C N (ga vs i).A (ga vs i).c (ga xss i)
section
variable {α : Type} {C : Cd α} {N N' : Hp} {vs : List SlV} {xss : List (List α)}
theorem Rd2.mono (h : Rd2 C N vs xss) (k : N.le N') : Rd2 C N' vs xss := ⟨h.1, fun i hi => ⟨(h.2 i hi).1, (h.2 i hi).2.mono k⟩⟩
theorem Rd2.nil_ : Rd2 C N [] ([] : List (List α)) := ⟨rfl, fun i hi => by simp at hi⟩
theorem Rd2.snoc (h : Rd2 C N vs xss) {A : Option Addr} {xs : List α} {c : Nat} (hx : RdA C N A c xs) : Rd2 C N (vs ++ [⟨A, xs.length, c⟩]) (xss ++ [xs]) := by
  refine ⟨by simp [h.1], fun i hi => ?_⟩
  rw [List.length_append, List.length_singleton] at hi
  by_cases h1 : i < xss.length
  · rw [ga_append_left _ _ _ (by rw [h.1]; exact h1), ga_append_left _ _ _ h1]
    exact h.2 i h1
  · obtain rfl : i = xss.length := by omega
    rw [ga_append_right _ _ _ (by rw [h.1]; exact Nat.le_refl _), ga_append_right _ _ _ (Nat.le_refl _), h.1, Nat.sub_self]
    exact ⟨rfl, hx⟩
end
end Go.Proofs.Ytkcighnochjlgaa
