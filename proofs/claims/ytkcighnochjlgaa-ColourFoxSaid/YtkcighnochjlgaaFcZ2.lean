/- Part 2 of the proof of the law ColourFox: the walks through its functions and the plain laws that they need. -/
import Derived.Test.YtkcighnochjlgaaFcZ1
import Derived.Test.YtkcighnochjlgaaRows
import Derived.WalkKit
import Derived.ProofKit
import Derived.OpenShut
import Derived.SizedLaws
import Derived.Outline
import Derived.BigQuiet
import Derived.Deep.QuietTactic
import Derived.Deep.Draws
import Derived.IntWalk
import Derived.Lib.Hide
import Derived.Maps.AppendAt
import Derived.Deep.AppendLies
import Derived.Deep.DeepCutAuto
import Derived.Deep.CutBlock
import Derived.Deep.RegionWith
import Derived.Deep.RegionHeld3
import Derived.WalkSpells
set_option linter.unusedSimpArgs false
set_option linter.unusedVariables false
noncomputable section
namespace Go.Proofs.Ytkcighnochjlgaa
open Go.ChangeShapes Go.WideShapes Go.ChangeAt Go.RowKit
theorem uT0 : type_of% Try.underlying0 := Try.underlying0
theorem uT3 : type_of% Try.underlying3 := Try.underlying3
theorem uT4 : type_of% Try.underlying4 := Try.underlying4
theorem uT5 : type_of% Try.underlying5 := Try.underlying5
theorem uT9 : type_of% Try.underlying9 := Try.underlying9
theorem uT36 : type_of% Try.underlying36 := Try.underlying36
theorem uT49 : type_of% Try.underlying49 := Try.underlying49
theorem uT51 : type_of% Try.underlying51 := Try.underlying51
theorem uT69 : type_of% Try.underlying69 := Try.underlying69
theorem uT86 : type_of% Try.underlying86 := Try.underlying86
theorem uT105 : type_of% Try.underlying105 := Try.underlying105
theorem uT111 : type_of% Try.underlying111 := Try.underlying111
theorem uT112 : type_of% Try.underlying112 := Try.underlying112
theorem uT114 : type_of% Try.underlying114 := Try.underlying114
theorem uT118 : type_of% Try.underlying118 := Try.underlying118
theorem uT126 : type_of% Try.underlying126 := Try.underlying126
theorem uT142 : type_of% Try.underlying142 := Try.underlying142
theorem uT155 : type_of% Try.underlying155 := Try.underlying155
theorem uT167 : type_of% Try.underlying167 := Try.underlying167
theorem uT168 : type_of% Try.underlying168 := Try.underlying168
theorem uT192 : type_of% Try.underlying192 := Try.underlying192
theorem uT194 : type_of% Try.underlying194 := Try.underlying194
theorem uT196 : type_of% Try.underlying196 := Try.underlying196
theorem uT200 : type_of% Try.underlying200 := Try.underlying200
theorem uT208 : type_of% Try.underlying208 := Try.underlying208
theorem uT211 : type_of% Try.underlying211 := Try.underlying211
theorem uT216 : type_of% Try.underlying216 := Try.underlying216
theorem uT217 : type_of% Try.underlying217 := Try.underlying217
theorem uT222 : type_of% Try.underlying222 := Try.underlying222
theorem uT224 : type_of% Try.underlying224 := Try.underlying224
theorem uT228 : type_of% Try.underlying228 := Try.underlying228
theorem uT230 : type_of% Try.underlying230 := Try.underlying230
theorem uT231 : type_of% Try.underlying231 := Try.underlying231
end Go.Proofs.Ytkcighnochjlgaa
namespace Go.Proofs.Ytkcighnochjlgaa
open Go.ChangeShapes Go.WideShapes Go.ChangeAt Go.RowKit
section
variable {P : Program} {n : Nat} {C : Ctx} {c : Code} {s : List K} {L : List (Nat × Value)} {w : World} {M : Hp} {X : Fr} {H : List Rs}
theorem Ul (a b : Code) (hk : kind c = 1) (ha : cL c = a) (hb : cR c = b) (h : WS P n C a (.thn b :: s) L w) : WS P n C c s L w := by subst ha; subst hb; exact ws_seq hk h
theorem U19 (a : Code) (i : Nat) (hk : kind c = 3) (ha : cL c = a) (hi : cId c = i) (h : WS P n C a (.blk i :: s) L w) : WS P n C c s L w := by subst ha; subst hi; exact ws_block hk h
theorem ws_condN (x y : Code) {b : Bool} (hk : kind c = 2) (hb : oev L (cX c) = some (.bool b)) (hx : cL c = x) (hy : cR c = y) (ht : b = true → WS P n C x s L w) (hf : b = false → WS P n C y s L w) : WS P n C c s L w := by subst hx; subst hy; exact ws_cond hk hb ht hf
theorem ws_condTN (x : Code) (hk : kind c = 2) (hb : oev L (cX c) = some (.bool true)) (hx : cL c = x) (ht : WS P n C x s L w) : WS P n C c s L w := by subst hx; exact ws_condT hk hb ht
theorem ws_condFN (y : Code) (hk : kind c = 2) (hb : oev L (cX c) = some (.bool false)) (hy : cR c = y) (hf : WS P n C y s L w) : WS P n C c s L w := by subst hy; exact ws_condF hk hb hf
theorem ws_in {a : Act} {c' : Code} (ha : Env n L a) (hc : c' = c) (h : WS P n C c s L w) : c'.wp P (post P C s) a w := by subst hc; exact h a ha
theorem U4 (I : Nat → Act → World → Prop) (hk : kind c = 4) (h0 : ∀ a, Env n L a → ∃ k, I k a w)
    (round : ∀ k a w, I k a w → (cL c).wp P (post P C (.lp (fun a' w' => ∃ k', k' < k ∧ I k' a' w') :: s)) a w) : WS P n C c s L w := by
  intro a ha
  rw [kind_loop hk]
  have key : ∀ m k, k < m → ∀ a w, I k a w → Code.rounds P (cL c) (post P C s) m a w := by
    intro m
    induction m with
    | zero => intro k hk; omega
    | succ m ih =>
      intro k hk a w hi
      rw [rounds_succ]
      refine Code.wp_mono (fun e a w q => ?_) (round k a w hi)
      cases e with
      | normal =>
        obtain ⟨k', hlt, hi'⟩ := q
        exact ih k' (by omega) a w hi'
      | _ => exact q
  obtain ⟨k0, h1⟩ := h0 a ha
  exact wp_loop_rounds (k0 + 1) (key (k0 + 1) k0 (by omega) a w h1)
theorem ws_cut (J : Act → World → Prop) (h1 : WS P n C c (.lp J :: s) L w) (h2 : ∀ a w, J a w → post P C s .normal a w) : WS P n C c s L w := by
  intro a ha
  refine Code.wp_mono (fun e a w q => ?_) (h1 a ha)
  cases e with
  | normal => exact h2 a w q
  | _ => exact q
theorem nm_in {a : Act} (ha : Env n L a) (h : NM P n C s L w) : post P C s .normal a w := h a ha
theorem run_nilCheck {o : Oper} {x : Operand} {p : Addr} (ho : o.op = .nilCheck x) (hx : oev L x = some (.pointer (some p))) : Run P o L w (.pointer (some p)) w := by
  intro n c hc; unfold execOp; simp only [ho, hc.eval hx]; rfl
theorem ws_eq (t : Nat) {v : Value} (v' : Value) (hl : lk L t = some v) (e : v = v') (h : WS P n C c s ((t, v') :: L) w) : WS P n C c s L w := by
  subst e
  exact fun a ha => h a ⟨ha.sz, ha.df, fun u x hx => by
    rw [lk_cons] at hx
    split at hx
    · rename_i e; subst e; injection hx with hx; subst hx; exact ha.at_ _ _ hl
    · exact ha.at_ _ _ hx⟩
theorem wl_eq {k : Nat} (t : Nat) {v : Value} (v' : Value) (hl : lk L t = some v) (e : v = v') (h : WL P n C c k s ((t, v') :: L) w) : WL P n C c k s L w := by
  subst e
  exact fun a ha => h a ⟨ha.sz, ha.df, fun u x hx => by
    rw [lk_cons] at hx
    split at hx
    · rename_i e; subst e; injection hx with hx; subst hx; exact ha.at_ _ _ hl
    · exact ha.at_ _ _ hx⟩
theorem wa_split {Mb : Hp} {Hb : List Rs} {f : Nat} {l : Array Bool} {t : Nat} {b : Bool} (hl : lk L t = some (.bool b)) (ht : b = true → WA P n C c s X f l ((t, .bool true) :: L) Mb Hb M H) (hf : b = false → WA P n C c s X f l ((t, .bool false) :: L) Mb Hb M H) : WA P n C c s X f l L Mb Hb M H := by
  have key : ∀ b', b = b' → WA P n C c s X f l ((t, .bool b') :: L) Mb Hb M H → WA P n C c s X f l L Mb Hb M H := by
    intro b' e h hg a ha
    refine h hg a ⟨ha.sz, ha.df, fun u v hv => ?_⟩
    rw [lk_cons] at hv
    split at hv
    · rename_i e2; subst e2; injection hv with hv; subst hv; subst e; exact ha.at_ _ _ hl
    · exact ha.at_ _ _ hv
  cases b
  · exact key false rfl (hf rfl)
  · exact key true rfl (ht rfl)
theorem Uy {α : Type} {C : Cd α} {xs : List α} {o : Oper} {d g i q c : Nat} {t E : TypeId} {l : List Value} {Kt : List (Nat × Value) → World → Prop} (y : α) {ca : Call} {ops : List Operand} {ts : List TypeId} {rv : Value} (hop : o.op = .call ca) (hca : ca.callee = .builtin .append) (hxs : ca.args = ops.toArray) (hts : ca.argTypes = ts.toArray) (hd : o.dst = some d) (hn : Nat.blt d n = true)
    (hx : oevs L ops = some [rv, .slice (some ⟨g, 0, none⟩) 1 c]) (ht : ts = [t, t]) (hT : SlOf P t C) (S : SH w M X H) (hi : nth H i = some (Rs.row C rv xs)) (hq : nth H q = some (Rs.box g E l)) (hl : l = C.f y) (hr : (xs.length + 1) * C.u8 ≤ 140737488355328)
    (h : ∀ v' w', SH w' M X (H.set i (Rs.row C v' (xs ++ [y]))) → Kt ((d, v') :: L) w') : WO P n o L w Kt := by
  refine wo_append (ys := [y]) hop hca hxs hts hd hn hx ht hT S hi (.inr ⟨_, rfl, fun j u hu => ?_⟩) hr h
  rw [List.flatMap_cons, List.flatMap_nil, List.append_nil, ← hl] at hu
  have := S.boxc hq (o := j) (u := u) (by rw [Up]; exact hu)
  unfold Addr.add
  split
  · rename_i e; subst e; exact this
  · simpa using this
end
theorem SH.one {α : Type} {D : Cd α} {v : Value} {xs : List α} {w : World} {M : Hp} {X : Fr} {H : List Rs} {i : Nat} (S : SH w M X H) (hi : nth H i = some (Rs.row D v xs)) : v.oneCell' = true := by
  obtain ⟨A, c, rfl, _⟩ := S.sl hi
  rfl
theorem SH.cells1 {α : Type} {D : Cd α} {v : Value} {xs : List α} {w : World} {M : Hp} {X : Fr} {H : List Rs} {i : Nat} (S : SH w M X H) (hi : nth H i = some (Rs.row D v xs)) : v.cells.toList = [v] := by
  obtain ⟨A, c, rfl, _⟩ := S.sl hi
  rfl
theorem ones_cons {u : Value} {us : List Value} (h : u.oneCell' = true) (hs : ones us = true) : ones (u :: us) = true := by
  simp [ones, h, hs]
def U2 : Cd Int := ⟨fun x => [.int .i64 x], 1, 8, 3, 0, fun _ => rfl, by intro x u hu; simp at hu; subst hu; rfl⟩
def U1g : Cd Bool := ⟨fun x => [.bool x], 1, 1, 4, false, fun _ => rfl, by intro x u hu; simp at hu; subst hu; rfl⟩
theorem int_eq {a b : Int} (h : a = b) : Value.int .i64 a = .int .i64 b := by rw [h]
structure SlV where
  A : Option Addr
  n : Nat
  c : Nat
instance : Inhabited SlV := ⟨⟨none, 0, 0⟩⟩
def cdV (E : TypeId) : Cd SlV := ⟨fun x => [.slice x.A x.n x.c], 1, 24, E, ⟨none, 0, 0⟩, fun _ => rfl, by intro x u hu; simp at hu; subst hu; rfl⟩
def Rd2 {α : Type} (C : Cd α) (N : Hp) (vs : List SlV) (xss : List (List α)) : Prop :=
  vs.length = xss.length ∧ ∀ i, i < xss.length → (ga vs i).n = (ga xss i).length ∧ RdA C N (ga vs i).A (ga vs i).c (ga xss i)
section
variable {α : Type} {C : Cd α} {N N' : Hp} {vs : List SlV} {xss : List (List α)}
theorem Rd2.mono (h : Rd2 C N vs xss) (k : N.le N') : Rd2 C N' vs xss := ⟨h.1, fun i hi => ⟨(h.2 i hi).1, (h.2 i hi).2.mono k⟩⟩
theorem Rd2.nil_ : Rd2 C N [] ([] : List (List α)) := ⟨rfl, fun i hi => by simp at hi⟩
theorem Rd2.snoc (h : Rd2 C N vs xss) {A : Option Addr} {xs : List α} {c : Nat} (hx : RdA C N A c xs) : Rd2 C N (vs ++ [⟨A, xs.length, c⟩]) (xss ++ [xs]) := by
  refine ⟨by simp [h.1], fun i hi => ?_⟩
  rw [List.length_append, List.length_singleton] at hi
  by_cases h1 : i < xss.length
  · rw [Ur _ _ _ (by rw [h.1]; exact h1), Ur _ _ _ h1]
    exact h.2 i h1
  · obtain rfl : i = xss.length := by omega
    rw [U11 _ _ _ (by rw [h.1]; exact Nat.le_refl _), U11 _ _ _ (Nat.le_refl _), h.1, Nat.sub_self]
    exact ⟨rfl, hx⟩
end
end Go.Proofs.Ytkcighnochjlgaa
namespace Go.Proofs.Ytkcighnochjlgaa
section
variable {P : Program} {n : Nat} {C : Ctx} {c : Code} {s : List K} {L : List (Nat × Value)} {w : World} {Mb M : Hp} {X : Fr} {Hb H : List Rs} {l : Array Bool}
theorem ws_condD (x y : Code) {p : Prop} [Decidable p] (hk : kind c = 2) (hb : oev L (cX c) = some (.bool (decide p))) (hx : cL c = x) (hy : cR c = y) (ht : p → WS P n C x s L w) (hf : ¬p → WS P n C y s L w) : WS P n C c s L w := ws_condN x y hk hb hx hy (fun h => ht (of_decide_eq_true h)) (fun h => hf (of_decide_eq_false h))
theorem Um {k t : Nat} {p : Prop} [Decidable p] (hl : lk L t = some (.bool (decide p))) (ht : p → WL P n C c k s ((t, .bool true) :: L) w) (hf : ¬p → WL P n C c k s ((t, .bool false) :: L) w) : WL P n C c k s L w := wl_split hl (fun h => ht (of_decide_eq_true h)) (fun h => hf (of_decide_eq_false h))
theorem wa_splitD {f t : Nat} {p : Prop} [Decidable p] (hl : lk L t = some (.bool (decide p))) (ht : p → WA P n C c s X f l ((t, .bool true) :: L) Mb Hb M H) (hf : ¬p → WA P n C c s X f l ((t, .bool false) :: L) Mb Hb M H) : WA P n C c s X f l L Mb Hb M H := wa_split hl (fun h => ht (of_decide_eq_true h)) (fun h => hf (of_decide_eq_false h))
def zzcmpV : BinOp → Int → Int → Option Value
  | .lss, a, b => some (.bool (decide (a < b)))
  | .leq, a, b => some (.bool (decide (a ≤ b)))
  | .gtr, a, b => some (.bool (decide (b < a)))
  | .geq, a, b => some (.bool (decide (b ≤ a)))
  | .eql, a, b => some (.bool (decide (a = b)))
  | .neq, a, b => some (.bool (decide (a ≠ b)))
  | _, _, _ => none
def stepV (L : List (Nat × Value)) : Op → Option Value
  | .move x => oev L x
  | .assign x => oev L x
  | .nilCheck x => match oev L x with
    | some (.pointer (some p)) => some (.pointer (some p))
    | _ => none
  | .unOp .not _ x => match oev L x with
    | some (.bool p) => some (.bool (!p))
    | _ => none
  | .extract x i => match oev L x with
    | some (.tuple vs) => nth vs.toList i
    | _ => none
  | .binOp q _ x y _ => match oev L x, oev L y with
    | some (.int .i64 a), some (.int .i64 b) => zzcmpV q a b
    | _, _ => none
  | .pick x a b => match oev L x with
    | some (.bool true) => oev L a
    | some (.bool false) => oev L b
    | _ => none
  | _ => none
def stepG (c : Code) (n : Nat) (L : List (Nat × Value)) : Option (Nat × Bool) → Option Bool
  | none => some true
  | some (j, b) => match op c j with
    | some o => match o.dst with
      | some t => match Nat.blt t n, lk L t with
        | true, some g => some (isG g b)
        | _, _ => none
      | none => none
    | none => none
def stepF (c : Code) (n k : Nat) (L : List (Nat × Value)) : Option (List (Nat × Value)) := match op c k with
  | some o => match o.dst with
    | some d => match Nat.blt d n, stepG c n L o.guard with
      | true, some true => match stepV L o.op with
        | some v => some ((d, v) :: L)
        | none => none
      | true, some false => some ((d, undef) :: L)
      | _, _ => none
    | none => none
  | none => none
theorem stepG_ok {o : Oper} {y : Bool} (h : stepG c n L o.guard = some y) : Wanted c L o.guard y ∧ gslot c o n = true := by
  unfold stepG at h
  unfold gslot
  cases hg : o.guard with
  | none => rw [hg] at h; injection h with h; exact ⟨h.symm, rfl⟩
  | some p =>
    obtain ⟨j, b⟩ := p
    rw [hg] at h
    simp only at h ⊢
    cases ho : op c j with
    | none => rw [ho] at h; cases h
    | some o2 =>
      rw [ho] at h
      simp only at h ⊢
      cases hd : o2.dst with
      | none => rw [hd] at h; cases h
      | some t =>
        rw [hd] at h
        simp only at h ⊢
        split at h
        · rename_i g h1 h2
          injection h with h
          exact ⟨⟨o2, t, g, ho, hd, h2, h⟩, h1⟩
        · cases h
theorem stepV_ok {o : Oper} {v : Value} (h : stepV L o.op = some v) : Run P o L w v w := by
  unfold stepV at h
  split at h
  · rename_i x e; exact run_move e h
  · rename_i x e; exact run_assign e h
  · rename_i x e
    split at h
    · rename_i p h1; cases h; exact run_nilCheck e h1
    · cases h
  · rename_i x e
    split at h
    · rename_i p h1; cases h; exact run_not e h1
    · cases h
  · rename_i x i e
    split at h
    · rename_i vs h1; exact run_extract (vs := vs.toList) e (by simpa using h1) h
    · cases h
  · rename_i q t x y t' e
    split at h
    · rename_i a b h1 h2
      unfold zzcmpV at h
      split at h
      · cases h; exact run_lss e h1 h2
      · cases h; exact run_leq e h1 h2
      · cases h; exact run_gtr e h1 h2
      · cases h; exact run_geq e h1 h2
      · cases h; exact run_eql e h1 h2
      · cases h; exact run_neq e h1 h2
      · cases h
    · cases h
  · rename_i x a b e
    split at h
    · rename_i h1; exact run_pickT e h1 h
    · rename_i h1; exact run_pickF e h1 h
    · cases h
  · cases h
theorem step_ok {k : Nat} {L2 : List (Nat × Value)} (h : stepF c n k L = some L2) (hw : WL P n C c k.succ s L2 w) : WL P n C c k s L w := by
  unfold stepF at h
  split at h
  · rename_i o ho
    split at h
    · rename_i d hd
      split at h
      · rename_i h1 h2
        obtain ⟨g1, g2⟩ := stepG_ok h2
        split at h
        · rename_i v hv
          injection h with h
          subst h
          exact wl_opG ho rfl g1 g2 (Ua hd h1 (stepV_ok hv) hw)
        · cases h
      · rename_i h1 h2
        obtain ⟨g1, g2⟩ := stepG_ok h2
        injection h with h
        subst h
        exact wl_no ho rfl g1 hd (by simp [h1, g2]) hw
      · cases h
    · cases h
  · cases h
def opG (c : Code) (k n : Nat) (L : List (Nat × Value)) : Option (Oper × Nat) := match op c k with
  | some o => match stepG c n L o.guard, o.dst with
    | some true, some d => match Nat.blt d n with
      | true => some (o, d)
      | false => none
    | _, _ => none
  | none => none
theorem opG_ok {k d : Nat} {o : Oper} (h : opG c k n L = some (o, d)) : op c k = some o ∧ Wanted c L o.guard true ∧ o.dst = some d ∧ (Nat.blt d n && gslot c o n) = true := by
  unfold opG at h
  split at h
  · rename_i o2 ho
    split at h
    · rename_i d2 hg hd
      split at h
      · rename_i hn
        simp only [Option.some.injEq, Prod.mk.injEq] at h
        obtain ⟨rfl, rfl⟩ := h
        obtain ⟨g1, g2⟩ := stepG_ok hg
        exact ⟨ho, g1, hd, by rw [hn, g2]; rfl⟩
      · cases h
    · cases h
  · cases h
theorem wat (i f : Nat) {d : Nat} {o : Oper} {v : Value} (hx : opG c i n L = some (o, d)) (hb : (Region.noSelect (rg c) && !pureOp (rg c) i && Region.free .any (rg c) l i && (Region.ready .any (rg c) l).contains i) = true)
    (hy : ∀ M2 N w, Mb.le M2 → SH w M2 X (N ++ Hb) → (Run P o L w v w ∨ ∃ fid vs, (∀ n a, Env n L a → (execOp a.eval o).run P w = .ok (.enter fid vs) w) ∧ Calls P fid vs w fun e w3 => e = .returned v ∧ SH w3 M2 X (N ++ Hb)))
    (h : WA P n C c s X f (l.setIfInBounds i true) ((d, v) :: L) Mb Hb M H) : WA P n C c s X (f + 1) l L Mb Hb M H := by
  obtain ⟨h1, h2, h3, h4⟩ := opG_ok hx
  simp only [Bool.and_eq_true] at hb
  exact wa_take f h1 (by rw [Bool.and_eq_true]; exact ⟨hb.1.1.1, hb.1.1.2⟩) hb.1.2 hb.2 h2 h3 h4 hy h
theorem wap (i f : Nat) {d : Nat} {o : Oper} {v : Value} (hx : opG c i n L = some (o, d)) (hb : (Region.noSelect (rg c) && Region.free .any (rg c) l i && (Region.ready .any (rg c) l).contains i) = true) (hy : ∀ w, Run P o L w v w)
    (h : WA P n C c s X f (l.setIfInBounds i true) ((d, v) :: L) Mb Hb M H) : WA P n C c s X (f + 1) l L Mb Hb M H := by
  obtain ⟨h1, h2, h3, h4⟩ := opG_ok hx
  simp only [Bool.and_eq_true] at hb
  exact wa_takeP f h1 hb.1.1 hb.1.2 hb.2 h2 h3 h4 hy h
def opD (c : Code) (k n : Nat) : Option (Oper × Nat) := match op c k with
  | some o => match o.guard, o.dst with
    | none, some d => match Nat.blt d n with
      | true => some (o, d)
      | false => none
    | _, _ => none
  | none => none
theorem wlr (k : Nat) {o : Oper} {d : Nat} {v : Value} {w' : World} (h : opD c k n = some (o, d)) (hr : Run P o L w v w') (hw : WL P n C c k.succ s ((d, v) :: L) w') : WL P n C c k s L w := by
  unfold opD at h
  split at h
  · rename_i o2 ho
    split at h
    · rename_i d2 hg hd
      split at h
      · rename_i hn
        simp only [Option.some.injEq, Prod.mk.injEq] at h
        obtain ⟨rfl, rfl⟩ := h
        exact Ud ho rfl hg (Ua hd hn hr hw)
      · cases h
    · cases h
  · cases h
def stepsF (c : Code) (n : Nat) : Nat → Nat → List (Nat × Value) → Option (List (Nat × Value))
  | 0, _, L => some L
  | j + 1, k, L => match stepF c n k L with
    | some L1 => stepsF c n j (k + 1) L1
    | none => none
theorem mvs (k j : Nat) {k' : Nat} {L2 : List (Nat × Value)} (hk : k' = k + j) (h : stepsF c n j k L = some L2) (hw : WL P n C c k' s L2 w) : WL P n C c k s L w := by
  subst hk
  induction j generalizing k L with
  | zero => injection h with h; subst h; exact hw
  | succ j ih =>
    unfold stepsF at h
    split at h
    · rename_i L1 h1
      refine step_ok h1 (ih (k + 1) h ?_)
      rw [show k + 1 + j = k + (j + 1) from by omega]
      exact hw
    · cases h
end
end Go.Proofs.Ytkcighnochjlgaa
namespace Go.Proofs.Ytkcighnochjlgaa
section
variable {P : Program} {n : Nat} {C : Ctx} {c d : Code} {s : List K} {L L2 : List (Nat × Value)} {w : World}
theorem zzsS (h : WS P n C (cL c) (.thn (cR c) :: s) L w) (hk : kind c = 1 := by kernel_rfl) : WS P n C c s L w := ws_seq hk h
theorem zzrG (h : WL P n C c 0 s L w) (hk : kind c = 7 := by kernel_rfl) : WS P n C c s L w := U9 hk h
theorem zzsR (h : WL P n C (cL c) 0 (.thn (cR c) :: s) L w) (hk : kind c = 1 := by kernel_rfl) (hr : kind (cL c) = 7 := by kernel_rfl) : WS P n C c s L w := ws_seq hk (U9 hr h)
theorem zzsK (h : NM P n C s L w) (hk : kind c = 9 := by kernel_rfl) : WS P n C c s L w := ws_skip hk h
theorem zzbK (h : WS P n C (cL c) (.blk (cId c) :: s) L w) (hk : kind c = 3 := by kernel_rfl) : WS P n C c s L w := ws_block hk h
theorem zztS (h : WS P n C (cL c) (.thn (cR c) :: s) L w) (hk : kind c = 1 := by kernel_rfl) : NM P n C (.thn c :: s) L w := U6 (ws_seq hk h)
theorem zztR (h : WL P n C (cL c) 0 (.thn (cR c) :: s) L w) (hk : kind c = 1 := by kernel_rfl) (hr : kind (cL c) = 7 := by kernel_rfl) : NM P n C (.thn c :: s) L w := U6 (zzsR h hk hr)
theorem zznN (ks : List Nat) (hs : pkL L ks = some L2) (h : NM P n C s L2 w) : NM P n C s L w := nmk ks hs h
theorem zznT (ks : List Nat) (hs : pkL L ks = some L2) (h : WS P n C c s L2 w) : NM P n C (.thn c :: s) L w := nmk ks hs (U6 h)
theorem zznS (ks : List Nat) (hs : pkL L ks = some L2) (h : WS P n C (cL c) (.thn (cR c) :: s) L2 w) (hk : kind c = 1 := by kernel_rfl) : NM P n C (.thn c :: s) L w := nmk ks hs (zztS h hk)
theorem zznR (ks : List Nat) (hs : pkL L ks = some L2) (h : WL P n C (cL c) 0 (.thn (cR c) :: s) L2 w) (hk : kind c = 1 := by kernel_rfl) (hr : kind (cL c) = 7 := by kernel_rfl) : NM P n C (.thn c :: s) L w := nmk ks hs (zztR h hk hr)
theorem zzeE {k : Nat} (h : NM P n C s L w) (hk : op c k = none := by kernel_rfl) : WL P n C c k s L w := Us hk h
theorem zzeN {k : Nat} (ks : List Nat) (hs : pkL L ks = some L2) (h : NM P n C s L2 w) (he : op c k = none := by kernel_rfl) : WL P n C c k s L w := Us he (nmk ks hs h)
theorem zzeT {k : Nat} (ks : List Nat) (hs : pkL L ks = some L2) (h : WS P n C d s L2 w) (he : op c k = none := by kernel_rfl) : WL P n C c k (.thn d :: s) L w := Us he (zznT ks hs h)
theorem zzeS {k : Nat} (ks : List Nat) (hs : pkL L ks = some L2) (h : WS P n C (cL d) (.thn (cR d) :: s) L2 w) (he : op c k = none := by kernel_rfl) (hk : kind d = 1 := by kernel_rfl) : WL P n C c k (.thn d :: s) L w := Us he (zznS ks hs h hk)
theorem zzeR {k : Nat} (ks : List Nat) (hs : pkL L ks = some L2) (h : WL P n C (cL d) 0 (.thn (cR d) :: s) L2 w) (he : op c k = none := by kernel_rfl) (hk : kind d = 1 := by kernel_rfl) (hr : kind (cL d) = 7 := by kernel_rfl) : WL P n C c k (.thn d :: s) L w := Us he (zznR ks hs h hk hr)
theorem zzxE {s' : List K} (hp : popTo (cId c) s = some s') (h : NM P n C s' L w) (hk : kind c = 5 := by kernel_rfl) : WS P n C c s L w := ws_exit hk hp h
theorem zzcN {b : Bool} (hb : oev L (cX c) = some (.bool b)) (ht : b = true → WS P n C (cL c) s L w) (hf : b = false → WS P n C (cR c) s L w) (hk : kind c = 2 := by kernel_rfl) : WS P n C c s L w := ws_cond hk hb ht hf
theorem zzcD {p : Prop} [Decidable p] (hb : oev L (cX c) = some (.bool (decide p))) (ht : p → WS P n C (cL c) s L w) (hf : ¬p → WS P n C (cR c) s L w) (hk : kind c = 2 := by kernel_rfl) : WS P n C c s L w := ws_cond hk hb (fun h => ht (of_decide_eq_true h)) (fun h => hf (of_decide_eq_false h))
theorem zzcT (h : WS P n C (cL c) s L w) (hk : kind c = 2 := by kernel_rfl) (hb : oev L (cX c) = some (.bool true) := by kernel_rfl) : WS P n C c s L w := ws_condT hk hb h
theorem zzcF (h : WS P n C (cR c) s L w) (hk : kind c = 2 := by kernel_rfl) (hb : oev L (cX c) = some (.bool false) := by kernel_rfl) : WS P n C c s L w := ws_condF hk hb h
theorem zziN {a : Act} (ha : Env n L a) (h : WS P n C c s L w) : c.wp P (post P C s) a w := h a ha
def zzresV (L : List (Nat × Value)) : List ResultVar → Option (List Value)
  | [] => some []
  | .tmp t :: r => match lk L t, zzresV L r with
    | some v, some vs => some (v :: vs)
    | _, _ => none
  | _ :: _ => none
theorem zzresV_ok : ∀ {rs : List ResultVar} {vs : List Value}, zzresV L rs = some vs → ResIs P L w rs vs
  | [], _, h => by cases h; exact trivial
  | .tmp t :: r, vs, h => by
    unfold zzresV at h
    split at h
    · rename_i v us h1 h2
      cases h
      exact ⟨h1, zzresV_ok h2⟩
    · cases h
  | .cell _ _ :: _, _, h => by cases h
theorem zzrT {fn : Func} {R : Ending → World → Prop} (hC : C = ⟨fn, R⟩) {vs : List Value} (h : zzresV L fn.results.toList = some vs) (hR : R (.returned (tup vs)) w) (hk : kind c = 6 := by kernel_rfl) : WS P n C c s L w :=
  ws_ret hC (rs := fn.results.toList) vs (by simp) hk (zzresV_ok h) hR
-- runs of steps
theorem zzmv {k : Nat} (j : Nat) (h : stepsF c n j k L = some L2) (hw : WL P n C c (k + j) s L2 w) : WL P n C c k s L w := mvs k j rfl h hw
def zzopU (c : Code) (k : Nat) : Option Oper := match op c k with
  | some o => match o.guard with
    | none => some o
    | some _ => none
  | none => none
theorem zzopU_ok {k : Nat} {o : Oper} (h : zzopU c k = some o) : op c k = some o ∧ o.guard = none := by
  unfold zzopU at h
  split at h
  · rename_i o2 h1
    split at h
    · rename_i h2
      cases h
      exact ⟨h1, h2⟩
    · cases h
  · cases h
theorem zzwU {k : Nat} {o : Oper} (ho : zzopU c k = some o) (h : WO P n o L w (fun L' w' => WL P n C c k.succ s L' w')) : WL P n C c k s L w := Ud (zzopU_ok ho).1 rfl (zzopU_ok ho).2 h
theorem zzwr {k : Nat} {o : Oper} {t : Nat} {v : Value} {w' : World} (h : opD c k n = some (o, t)) (hr : Run P o L w v w') (hw : WL P n C c k.succ s ((t, v) :: L) w') : WL P n C c k s L w := wlr k h hr hw
theorem zzwg {k : Nat} {o : Oper} {t : Nat} {v : Value} {w' : World} (h : opG c k n L = some (o, t)) (hr : Run P o L w v w') (hw : WL P n C c k.succ s ((t, v) :: L) w') : WL P n C c k s L w := by
  obtain ⟨h1, h2, h3, h4⟩ := opG_ok h
  simp only [Bool.and_eq_true] at h4
  exact wl_opG h1 rfl h2 h4.2 (Ua h3 h4.1 hr hw)
end
section
variable {P : Program} {n : Nat} {C : Ctx} {c : Code} {s : List K} {L L2 : List (Nat × Value)} {w : World} {Mb M : Hp} {X : Fr} {Hb H : List Rs} {l : Array Bool} {f : Nat}
theorem zzdW (S : SH w M X H) (f : Nat) (h : WA P n C c s X f (Array.replicate f false) L M H M H) (hk : kind c = 8 := by kernel_rfl) (hm : P.follows .mixedOrders = true := by kernel_rfl) (hf : (rg c).size = f := by kernel_rfl) : WS P n C c s L w := ws_draw hk hm S f hf h
theorem zzeW (h : ∀ w, SH w M X H → NM P n C s L w) (hr : Region.ready .any (rg c) l = [] := by kernel_rfl) : WA P n C c s X f l L Mb Hb M H := wa_end hr h
theorem zzyW (i : Nat) {d : Nat} {o : Oper} {v : Value} (hx : opG c i n L = some (o, d))
    (hy : ∀ {M2 N w}, Mb.le M2 → SH w M2 X (N ++ Hb) → (Run P o L w v w ∨ ∃ fid vs, (∀ n a, Env n L a → (execOp a.eval o).run P w = .ok (.enter fid vs) w) ∧ Calls P fid vs w fun e w3 => e = .returned v ∧ SH w3 M2 X (N ++ Hb)))
    (h : WA P n C c s X f (l.setIfInBounds i true) ((d, v) :: L) Mb Hb M H) (hb : (Region.noSelect (rg c) && !pureOp (rg c) i && Region.free .any (rg c) l i && (Region.ready .any (rg c) l).contains i) = true := by kernel_rfl) : WA P n C c s X (f + 1) l L Mb Hb M H :=
  wat i f hx hb (fun _ _ _ a b => hy a b) h
theorem zzlW (i : Nat) {d : Nat} {o : Oper} {v : Value} (hx : opG c i n L = some (o, d)) (hy : ∀ {M2 N w}, Mb.le M2 → SH w M2 X (N ++ Hb) → Run P o L w v w)
    (h : WA P n C c s X f (l.setIfInBounds i true) ((d, v) :: L) Mb Hb M H) (hb : (Region.noSelect (rg c) && !pureOp (rg c) i && Region.free .any (rg c) l i && (Region.ready .any (rg c) l).contains i) = true := by kernel_rfl) : WA P n C c s X (f + 1) l L Mb Hb M H :=
  wat i f hx hb (fun _ _ _ a b => .inl (hy a b)) h
theorem zzpW (i : Nat) {d : Nat} {o : Oper} {v : Value} (hx : opG c i n L = some (o, d)) (hy : ∀ {w}, Run P o L w v w)
    (h : WA P n C c s X f (l.setIfInBounds i true) ((d, v) :: L) Mb Hb M H) (hb : (Region.noSelect (rg c) && Region.free .any (rg c) l i && (Region.ready .any (rg c) l).contains i) = true := by kernel_rfl) : WA P n C c s X (f + 1) l L Mb Hb M H :=
  wap i f hx hb (fun _ => hy) h
theorem zzuW (i : Nat) {o : Oper} (ho : zzopU c i = some o) (h : ∀ w, SH w M X H → WO P n o L w (LeftW P n C c s X f l i Mb Hb)) (hr : Region.ready .any (rg c) l = [i] := by kernel_rfl) : WA P n C c s X (f + 1) l L Mb Hb M H := by
  obtain ⟨h1, h2⟩ := zzopU_ok ho
  exact wa_only f h1 hr (by rw [h2]; rfl) (by unfold gslot; rw [h2]) h
theorem zzgrowW {j : Nat} {L' : List (Nat × Value)} {w' : World} (N Ho : List Rs) (hH : N ++ Hb = Ho) (S : SH w' Mb X Ho) (h : WA P n C c s X f (l.setIfInBounds j true) L' Mb Hb Mb Ho) : LeftW P n C c s X f l j Mb Hb L' w' := by
  subst hH
  exact LeftW.grow N (Hp.le_refl _) S h
theorem zzturnW {j : Nat} {L' : List (Nat × Value)} {w' : World} {M2 : Hp} {H2 : List Rs} (S : SH w' M2 X H2) (h : WA P n C c s X f (l.setIfInBounds j true) L' M2 H2 M2 H2) (hc : closP .any (rg c) l j = true := by kernel_rfl) : LeftW P n C c s X f l j Mb Hb L' w' := LeftW.turn hc S h
theorem zzstepF_cases {k : Nat} (h : stepF c n k L = some L2) : ∃ o d, op c k = some o ∧ o.dst = some d ∧ (Nat.blt d n && gslot c o n) = true ∧ ((Wanted c L o.guard true ∧ ∃ v, L2 = (d, v) :: L ∧ ∀ P w, Run P o L w v w) ∨ (Wanted c L o.guard false ∧ L2 = (d, undef) :: L)) := by
  unfold stepF at h
  split at h
  · rename_i o ho
    split at h
    · rename_i d hd
      split at h
      · rename_i h1 h2
        obtain ⟨g1, g2⟩ := stepG_ok h2
        split at h
        · rename_i v hv
          injection h with h
          subst h
          exact ⟨o, d, ho, hd, by rw [h1, g2]; rfl, .inl ⟨g1, v, rfl, fun P w => stepV_ok hv⟩⟩
        · cases h
      · rename_i h1 h2
        obtain ⟨g1, g2⟩ := stepG_ok h2
        injection h with h
        subst h
        exact ⟨o, d, ho, hd, by rw [h1, g2]; rfl, .inr ⟨g1, rfl⟩⟩
      · cases h
    · cases h
  · cases h
def zzrunA (c : Code) (n : Nat) : List Nat → List (Nat × Value) → Option (List (Nat × Value))
  | [], L => some L
  | i :: r, L => match stepF c n i L with
    | some L1 => zzrunA c n r L1
    | none => none
def zzchkA (c : Code) : List Nat → Array Bool → Bool
  | [], _ => true
  | i :: r, l => Region.noSelect (rg c) && Region.free .any (rg c) l i && (Region.ready .any (rg c) l).contains i && zzchkA c r (l.setIfInBounds i true)
def zzsetA : List Nat → Array Bool → Array Bool
  | [], l => l
  | i :: r, l => zzsetA r (l.setIfInBounds i true)
theorem zzmW (f : Nat) (is : List Nat) {f' : Nat} (h : zzrunA c n is L = some L2) (hw : WA P n C c s X f (zzsetA is l) L2 Mb Hb M H) (hb : (Nat.beq f' (f + is.length) && zzchkA c is l) = true := by kernel_rfl) : WA P n C c s X f' l L Mb Hb M H := by
  rw [Bool.and_eq_true] at hb
  obtain ⟨he, hb⟩ := hb
  obtain rfl := Nat.eq_of_beq_eq_true he
  clear he
  induction is generalizing l L with
  | nil => cases h; exact hw
  | cons i r ih =>
    unfold zzrunA at h
    split at h
    · rename_i L1 h1
      unfold zzchkA at hb
      simp only [Bool.and_eq_true] at hb
      obtain ⟨⟨⟨b1, b2⟩, b3⟩, b4⟩ := hb
      have k := ih h hw b4
      obtain ⟨o, d, ho, hd, hn, ⟨hg, v, rfl, hr⟩ | ⟨hg, rfl⟩⟩ := zzstepF_cases h1
      · exact wa_takeP (f + r.length) ho b1 b2 b3 hg hd hn (hr P) k
      · exact wa_no (f + r.length) ho b1 b2 b3 hg hd hn k
    · cases h
end
section
variable {P : Program} {n : Nat} {C : Ctx} {c : Code} {s : List K} {L L2 : List (Nat × Value)} {w : World} {M : Hp} {X : Fr} {H : List Rs} {o : Oper} {T T' : TypeId} {a b : Int} {v : Value}
def zzbin2 (o : Oper) (L : List (Nat × Value)) : Option (BinOp × Int × Int) := match o.op with
  | .binOp q _ x y _ => match oev L x, oev L y with
    | some (.int .i64 a), some (.int .i64 b) => some (q, a, b)
    | _, _ => none
  | _ => none
theorem zzbin2_ok {q : BinOp} (h : zzbin2 o L = some (q, a, b)) : ∃ t x y t', o.op = .binOp q t x y t' ∧ oev L x = some (.int .i64 a) ∧ oev L y = some (.int .i64 b) := by
  unfold zzbin2 at h
  split at h
  · rename_i q t x y t' h1
    split at h
    · rename_i a b h2 h3
      cases h
      exact ⟨t, x, y, t', h1, h2, h3⟩
    · cases h
  · cases h
theorem U1 (h : zzbin2 o L = some (.add, a, b)) (hb : -9223372036854775808 ≤ a + b ∧ a + b ≤ 9223372036854775807 := by first | omega | (simp only [ls]; omega)) : Run P o L w (.int .i64 (a + b)) w := by
  obtain ⟨_, _, _, _, h1, h2, h3⟩ := zzbin2_ok h
  exact run_add h1 h2 h3 hb
def zzldO (o : Oper) (L : List (Nat × Value)) : Option (TypeId × Addr) := match o.op with
  | .load T x => match oev L x with
    | some (.pointer (some p)) => some (T, p)
    | _ => none
  | _ => none
theorem zzldO_ok {p : Addr} (h : zzldO o L = some (T, p)) : ∃ x, o.op = .load T x ∧ oev L x = some (.pointer (some p)) := by
  unfold zzldO at h
  split at h
  · rename_i T x h1
    split at h
    · rename_i p h2
      cases h
      exact ⟨x, h1, h2⟩
    · cases h
  · cases h
theorem zzld1 {p : Addr} {dd : TypeDesc} (h : zzldO o L = some (T, p)) (hu : P.underlying T = some dd) (hc : w.cell? p = some v) (hd : flatD dd = true := by kernel_rfl) : Run P o L w v w := by
  obtain ⟨x, h1, h2⟩ := zzldO_ok h
  exact U1b h1 h2 hu hd hc
theorem Ut (us : List Value) {blk off : Nat} {dd : TypeDesc} (h : zzldO o L = some (T, ⟨blk, off, none⟩)) (hu : P.underlying T = some dd) (hk : (P.info? T).map (·.size) = some us.length) (hc : ∀ j u, us[j]? = some u → w.cell? ⟨blk, off + j, none⟩ = some u) (hd : flatD dd = false := by kernel_rfl) : Run P o L w (.agg us.toArray) w := by
  obtain ⟨x, h1, h2⟩ := zzldO_ok h
  exact U1m h1 h2 hu hd hk hc
def zzfaO (o : Oper) (L : List (Nat × Value)) : Option (TypeId × Nat × Nat × Nat) := match o.op with
  | .fieldAddr T x f => match oev L x with
    | some (.pointer (some ⟨b, off, none⟩)) => some (T, f, b, off)
    | _ => none
  | _ => none
theorem zzfa {f bl off : Nat} {fs : Array Field} {fd : Field} (h : zzfaO o L = some (T, f, bl, off)) (hu : P.underlying T = some (.struct fs)) (hf : fs[f]? = some fd) (hz : Nat.blt 0 (P.cellsOf fd.type) = true) (hi : ∃ i, P.info? fd.type = some i) : Run P o L w (.pointer (some ⟨bl, off + fd.offset, none⟩)) w := by
  unfold zzfaO at h
  split at h
  · rename_i T x f h1
    split at h
    · rename_i b off h2
      cases h
      exact run_fieldAddr h1 h2 hu hf hz hi
    · cases h
  · cases h
def zzixO (o : Oper) (L : List (Nat × Value)) : Option (TypeId × Value × Int) := match o.op with
  | .indexAddr T x y => match oev L x, oev L y with
    | some v, some (.int .i64 a) => some (T, v, a)
    | _, _ => none
  | _ => none
theorem zzixO_ok (h : zzixO o L = some (T, v, a)) : ∃ x y, o.op = .indexAddr T x y ∧ oev L x = some v ∧ oev L y = some (.int .i64 a) := by
  unfold zzixO at h
  split at h
  · rename_i T x y h1
    split at h
    · rename_i v a h2 h3
      cases h
      exact ⟨x, y, h1, h2, h3⟩
    · cases h
  · cases h
theorem Uc {α : Type} {D : Cd α} {i : Nat} {xs : List α} (e : Nat) (h : zzixO o L = some (T, v, a)) (hT : SlOf P T D) (S : SH w M X H) (hi : nth H i = some (Rs.row D v xs)) (ha : a = (e : Int) := by first | rfl | omega) (he : e < xs.length := by first | omega | (simp only [ls]; omega)) : Run P o L w (.pointer (some ⟨rb v, e * D.k, none⟩)) w := by
  obtain ⟨x, y, h1, h2, h3⟩ := zzixO_ok h
  exact run_indexR e h1 h2 h3 hT S hi ha he
theorem Ux {α : Type} {D : Cd α} {N : Hp} {A : Option Addr} {q : Nat} {xs : List α} (e : Nat) (h : zzixO o L = some (T, .slice A xs.length q, a)) (hT : SlOf P T D) (hr : RdA D N A q xs) (ha : a = (e : Int) := by first | rfl | omega) (he : e < xs.length := by first | omega | (simp only [ls]; omega)) : Run P o L w (.pointer (some ⟨adB A, adO A + e * D.k, none⟩)) w := by
  obtain ⟨x, y, h1, h2, h3⟩ := zzixO_ok h
  exact run_indexM e h1 h2 h3 hT ha hr he
def zzstO (o : Oper) (L : List (Nat × Value)) : Option (TypeId × Nat × Nat × Value) := match o.op, o.dst with
  | .store T x y, none => match oev L x, oev L y with
    | some (.pointer (some ⟨b, off, none⟩)), some v => some (T, b, off, v)
    | _, _ => none
  | _, _ => none
theorem zzstO_ok {g off : Nat} (h : zzstO o L = some (T, g, off, v)) : ∃ x y, o.op = .store T x y ∧ o.dst = none ∧ oev L x = some (.pointer (some ⟨g, off, none⟩)) ∧ oev L y = some v := by
  unfold zzstO at h
  split at h
  · rename_i T x y h1 hd
    split at h
    · rename_i b off v h2 h3
      cases h
      exact ⟨x, y, h1, hd, h2, h3⟩
    · cases h
  · cases h
theorem U1q (i : Nat) (us l' : List Value) (H' : List Rs) {g off : Nat} {l : List Value} {E : TypeId} {Kt : List (Nat × Value) → World → Prop} (h : zzstO o L = some (T, g, off, v)) (S : SH w M X H) (hi : nth H i = some (Rs.box g E l)) (hl : v.cells.toList = us) (hk : (P.info? T).map (·.size) = some us.length)
    (hl' : spl l off us = l') (hH : H.set i (Rs.box g E l') = H') (hw : ∀ w', SH w' M X H' → Kt L w') (hfit : Nat.ble (off + us.length) l.length = true := by kernel_rfl) (h1 : ones us = true := by kernel_rfl) : WO P n o L w Kt := by
  obtain ⟨x, y, a1, a2, a3, a4⟩ := zzstO_ok h
  exact U1a a1 a2 S hi a3 a4 hl hk hfit h1 hl' hH hw
def zzlnO (o : Oper) (L : List (Nat × Value)) : Option (TypeId × Value) := match o.op with
  | .call ca => match ca.callee, ca.args.toList, ca.argTypes.toList with
    | .builtin .len, [x], t :: _ => match oev L x with
      | some v => some (t, v)
      | none => none
    | _, _, _ => none
  | _ => none
theorem zzlnO_ok {t : TypeId} (h : zzlnO o L = some (t, v)) : ∃ ca xs ts, o.op = .call ca ∧ ca.callee = .builtin .len ∧ ca.args = List.toArray xs ∧ ca.argTypes = List.toArray ts ∧ oevs L xs = some [v] ∧ nth ts 0 = some t := by
  unfold zzlnO at h
  split at h
  · rename_i ca h1
    split at h
    · rename_i x t ts h2 h3 h4
      split at h
      · rename_i u h5
        cases h
        refine ⟨ca, [x], t :: ts, h1, h2, by rw [← h3], by rw [← h4], ?_, rfl⟩
        simp only [oevs, h5]
      · cases h
    · cases h
  · cases h
theorem zzln {t e : TypeId} {A : Option Addr} {m cp : Nat} (h : zzlnO o L = some (t, .slice A m cp)) (hu : P.underlying t = some (.slice e)) : Run P o L w (.int .i64 (m : Int)) w := by
  obtain ⟨ca, xs, ts, h1, h2, h3, h4, h5, h6⟩ := zzlnO_ok h
  exact run_len h1 h2 h3 h4 h5 h6 hu
theorem zzlnR {α : Type} {D : Cd α} {i : Nat} {xs : List α} {t : TypeId} (h : zzlnO o L = some (t, v)) (hT : SlOf P t D) (S : SH w M X H) (hi : nth H i = some (Rs.row D v xs)) : Run P o L w (.int .i64 (xs.length : Int)) w := by
  obtain ⟨ca, xs, ts, h1, h2, h3, h4, h5, h6⟩ := zzlnO_ok h
  exact run_lenR h1 h2 h3 h4 h5 h6 hT S hi
def zzpcL (l : List Value) : Nat → Nat → Option (List Value)
  | _, 0 => some []
  | o, k + 1 => match nth l o, zzpcL l (o + 1) k with
    | some u, some us => some (u :: us)
    | _, _ => none
theorem zzpcL_ok {l : List Value} : ∀ {k o : Nat} {us : List Value}, zzpcL l o k = some us → piece l o us
  | 0, o, us, h => by cases h; exact trivial
  | k + 1, o, us, h => by
    unfold zzpcL at h
    split at h
    · rename_i u vs h1 h2
      cases h
      exact ⟨h1, zzpcL_ok h2⟩
    · cases h
theorem SH.bc (S : SH w M X H) (i : Nat) {g : Nat} {T : TypeId} {l : List Value} (hi : nth H i = some (Rs.box g T l)) {o : Nat} {u : Value} (hu : nth l o = some u) : w.cell? ⟨g, o, none⟩ = some u := S.boxc hi hu
theorem SH.bs (S : SH w M X H) (i : Nat) {g off : Nat} {T : TypeId} {l us : List Value} (hi : nth H i = some (Rs.box g T l)) (hp : zzpcL l off us.length = some us) : ∀ j u, us[j]? = some u → w.cell? ⟨g, off + j, none⟩ = some u := S.boxcs hi (zzpcL_ok hp)
theorem Env.su {a : Act} (h : Env n L a) (hs : pkL L (L2.map (·.1)) = some L2) : Env n L2 a := h.sub (pkL_sub hs)
theorem zzwsk (ks : List Nat) (hs : pkL L ks = some L2) (h : WS P n C c s L2 w) : WS P n C c s L w := ws_sub L2 (pkL_sub hs) h
theorem zzwlk {k : Nat} (ks : List Nat) (hs : pkL L ks = some L2) (h : WL P n C c k s L2 w) : WL P n C c k s L w := wl_sub L2 (pkL_sub hs) h
end
end Go.Proofs.Ytkcighnochjlgaa
namespace Go.Proofs.Ytkcighnochjlgaa
open Go.ChangeShapes Go.WideShapes Go.ChangeAt Go.RowKit
theorem trodAll_below {H : Type} {enc : TypeId × Value → H} {P : Program} (hl : laidOutB P = true) {W W' : World} (hb : Below W.heap.size W W') :
    ∀ (ts : List TypeId) (vs : List Value) (ds : List (DataW H)) (ps : List MemPlace), (∀ t ∈ ts, P.readableRec t = true ∧ t < P.types.size) →
      DataW.TrodAll enc P W 0 (fun _ => true) true ts vs ds ps → (∀ x ∈ ps, x.block < W.heap.size) →
      DataW.TrodAll enc P W' 0 (fun b => decide (b < W.heap.size)) true ts vs ds ps := by
  intro ts
  induction ts with
  | nil => intro vs ds ps _ h _; cases vs <;> cases ds <;> exact h
  | cons t ts ih =>
    intro vs ds ps ht h hlt
    cases vs with
    | nil => exact h.elim
    | cons v vs =>
      cases ds with
      | nil => exact h.elim
      | cons d ds =>
        obtain ⟨p, q, h1, h2, rfl⟩ := h
        have ht0 := ht t (by simp)
        exact ⟨p, q, Below.trod hl ht0.1 ht0.2 h1 hb (fun x hx => hlt x (by simp [hx])),
          ih vs ds q (fun t' ht' => ht t' (by simp [ht'])) h2 (fun x hx => hlt x (by simp [hx])), rfl⟩
theorem trodAll_length {H : Type} {enc : TypeId × Value → H} {P : Program} {W : World} {base : Nat} {spare : Nat → Bool} {held : Bool} :
    ∀ (ts : List TypeId) (vs : List Value) (ds : List (DataW H)) (ps : List MemPlace), DataW.TrodAll enc P W base spare held ts vs ds ps → ds.length = ts.length := by
  intro ts
  induction ts with
  | nil => intro vs ds ps h; cases vs <;> cases ds <;> first | rfl | exact h.elim
  | cons t ts ih =>
    intro vs ds ps h
    cases vs with
    | nil => exact h.elim
    | cons v vs =>
      cases ds with
      | nil => exact h.elim
      | cons d ds =>
        obtain ⟨p, q, _, h2, rfl⟩ := h
        simp [ih vs ds q h2]
theorem law_lift {H : Type} {enc : TypeId × Value → H} {C : Checked} {os : Os} {f : FuncId} {fn : Func} {s : ChangeSpec} {tb : TypeId}
    (own : ownKnob C.prog.godebug = none) (started : os.Started) (noInit : C.prog.inits.idxOf? f = none) (hfn : C.prog.funcs[f]? = some fn)
    (witness : ∃ (w : World) (tape : Tape) (i : Input), w.os = os ∧ (w.forCall tape i).Shaped C.prog ∧ i.vars = [] ∧ Input.okWide C.prog (w.forCall tape i) .any w.heap.size f i ∧
      s.pre6 enc C.prog fn [] false (w.forCall tape i).memory i.args ∧ ({} : Assume).holds C.prog (lone (Frame.enter C.prog f i.args .normal) [] (w.forCall tape i)))
    (hvars : s.vars = []) (hl : laidOutB C.prog = true) (hps : (fn.params.toList.all fun t => C.prog.readableRec t && decide (t < C.prog.types.size)) = true)
    (hres : fn.resultTypes = #[tb]) (htb : C.prog.underlying tb = some .bool)
    (hspec : ∀ ds : List (DataW H), ds.length = fn.params.toList.length → s.fn H (ds ++ []) = { results := [.lit (.bool true)], args := ds })
    (hlaw : ∀ (W : World) (base : Nat) (args : Array Value) (ds : List (DataW H)) (p : List MemPlace),
      (∀ (j : Nat) t v, fn.params[j]? = some t → args[j]? = some v → Value.okWide C.prog W .any base t v) →
      DataW.TrodAll enc C.prog W 0 (fun _ => true) true fn.params.toList args.toList ds p → W.noneFrozen p → (∀ x ∈ p, x.block < W.heap.size) →
      (DataW.weightsEach C.prog fn.params.toList ds).all (· ≤ reachBytes) = true →
      Calls C.prog f args W fun e W' => e = .returned (.bool true) ∧ Below W.heap.size W W') :
    ReturnsInHanded {} C os f .any (s.pre6 enc C.prog fn [] false) (s.post enc C.prog fn false true false false) := by
  refine returnsInHanded_of_change_sized (conds := []) own started noInit hfn witness ?_
  intro W base args ds gs before hval hW _ hsz _
  have hW' := hW
  obtain ⟨p, q, hA, hV, rfl, hfz, _⟩ := hW
  rw [hvars] at hV
  have hgs : gs = [] ∧ q = [] := by cases gs with
    | nil => exact ⟨rfl, hV⟩
    | cons g gs => exact hV.elim
  obtain ⟨rfl, rfl⟩ := hgs
  have hvt : s.plain.varTypes C.prog = [] := by simp [DataSpec.varTypes, ChangeSpec.plain, hvars]
  rw [hvt, List.append_nil, List.append_nil] at hsz
  have hlt : ∀ x ∈ p, x.block < W.heap.size := fun x hx => hW'.lt x (by simp [hx])
  refine (hlaw W base args ds p hval hA (fun b off hm => hfz b off (by simp [hm])) hlt hsz).mono ?_
  rintro e W' ⟨rfl, hb⟩
  have hps' : ∀ t ∈ fn.params.toList, C.prog.readableRec t = true ∧ t < C.prog.types.size := by
    intro t ht
    have := List.all_eq_true.1 hps t ht
    simpa using this
  refine ⟨_, rfl, ds, [], _, [], p, [], hW', ?_, ?_, ?_, hb.frame _, fun h => by cases h⟩
  · rw [hspec ds (trodAll_length _ _ _ _ hA), hres]
    exact trodAll_mk1 (shut_bool htb true)
  · rw [hspec ds (trodAll_length _ _ _ _ hA)]
    exact trodAll_below hl hb _ _ _ _ hps' hA hlt
  · rw [hspec ds (trodAll_length _ _ _ _ hA), hvars]
    rfl
end Go.Proofs.Ytkcighnochjlgaa
namespace Go.Proofs.Ytkcighnochjlgaa
open Go.ChangeShapes Go.WideShapes Go.ChangeAt Go.RowKit
section
variable {P : Program} {o : Oper} {L : List (Nat × Value)} {w w' : World} {x y z : Operand} {t t' T E : TypeId} {a b : Int} {v u : Value} {n d : Nat} {M M' : Hp} {X : Fr} {H H' : List Rs} {i g off : Nat} {l : List Value}
theorem U5 {P : Program} {f : FuncId} {fn : Func} {c : Code} (hf : P.funcs[f]? = some fn) (hname : (fn.name == "runtime.NumGoroutine") = false) (hb : fn.body = some c) (args : Array Value) (w : World) : (callFunc f args).run P w = .ok (.enter f args) w := by
  have h1 : fn.name ≠ "runtime.NumGoroutine" := by simpa using hname
  simp [callFunc, hf, h1, hb]
def plOk (k : Nat) : Nat → List (Nat × Nat) → Bool
  | _, [] => true
  | i, (p, q) :: r => Nat.beq p (i * k) && Nat.beq q k && plOk k (i + 1) r
theorem plOk_spec {k : Nat} : ∀ {pl : List (Nat × Nat)} {j : Nat}, plOk k j pl = true → ∀ i p, nth pl i = some p → p = ((j + i) * k, k)
  | [], _, _, i, p, h => by simp [nth] at h
  | (a, b) :: r, j, hp, 0, p, h => by
    simp only [plOk, Bool.and_eq_true] at hp
    simp only [nth, Option.some.injEq] at h
    rw [← h, Nat.eq_of_beq_eq_true hp.1.1, Nat.eq_of_beq_eq_true hp.1.2, Nat.add_zero]
  | (a, b) :: r, j, hp, i + 1, p, h => by
    simp only [plOk, Bool.and_eq_true] at hp
    simp only [nth] at h
    rw [plOk_spec hp.2 i p h, show j + 1 + i = j + (i + 1) by omega]
theorem fill_eq' {pl : List (Nat × Nat)} {place : Nat → Option (Nat × Nat)} (hpl : ∀ i p, nth pl i = some p → place i = some p) : ∀ (ps : List (Nat × Value)) (cs : Array Value) (out : List Value), fillL pl cs.toList ps = some out → Instr.fill place cs ps = some out.toArray
  | [], cs, out, h => by
    simp only [fillL, Option.some.injEq] at h
    subst h
    simp [Instr.fill]
  | (i, v) :: r, cs, out, h => by
    unfold fillL at h
    unfold Instr.fill
    split at h
    · cases h
    · rename_i p hp
      simp only [hpl i p hp]
      split at h
      · rename_i hc
        simp only [Bool.and_eq_true] at hc
        have h1 : v.cells.size = p.2 := by have := Nat.eq_of_beq_eq_true hc.1; simpa using this
        have h2 : p.1 + p.2 ≤ cs.size := by have := Nat.le_of_ble_eq_true hc.2; simpa using this
        obtain ⟨po, ps⟩ := p
        simp only at h1 h2 h ⊢
        rw [if_neg (by simp [h1]; omega)]
        refine fill_eq' hpl r _ out ?_
        rw [← Array.foldl_toList, Array.toList_zipIdx, foldl_set, Nat.add_zero]
        exact h
      · cases h
theorem run_buildA {pl : List (Nat × Nat)} {zl : List Value} {ps : List (Nat × Operand)} {vs : List (Nat × Value)} {pa : Array (Nat × Operand)} {len k : Nat} (hop : o.op = .build T pa) (hpa : pa = ps.toArray) (hu : P.underlying T = some (.array len E)) (hz : (P.info? T).map (·.zero) = some (some (.agg zl.toArray)))
    (hk : (P.info? E).map (·.size) = some k) (hpl : plOk k 0 pl = true) (hps : partL L ps = some vs) (hl : fillL pl zl vs = some l) : Run P o L w (.agg l.toArray) w := by
  intro n c he
  subst hpa
  unfold execOp
  have e := partL_eq he hps
  have hf := fill_eq' (pl := pl) (place := fun i => some (i * k, k)) (fun i p hp => by rw [plOk_spec hpl i p hp, Nat.zero_add]) vs zl.toArray l (by simpa using hl)
  simp only [hop, Instr.build, run_zero hz, run_underlying hu, run_sizeOf hk, Sem.run_bind, Sem.run_pure, Result.andThen_ok, List.map_toArray, e]
  rw [show Value.cells (.agg zl.toArray) = zl.toArray from rfl, hf]
  rfl
theorem nth_iv (xs : List Int) (e : Nat) (h : e < xs.length) : nth (xs.map (Value.int .i64)) e = some (.int .i64 (ga xs e)) := by
  rw [Up, List.getElem?_map, ga_get? h]; rfl
theorem run_index1 {cs : List Value} {e len : Nat} {dd : TypeDesc} (hop : o.op = .index T x y) (hx : oev L x = some (.agg cs.toArray)) (hy : oev L y = some (.int .i64 a)) (hu : P.underlying T = some (.array len E)) (hE : P.underlying E = some dd) (hf : flatD dd = true) (hk : (P.info? E).map (·.size) = some 1)
    (ha : a = (e : Int)) (he : e < len) (hv : nth cs e = some v) : Run P o L w v w := by
  intro n c hc
  unfold execOp
  rw [Up] at hv
  have hv' : cs.toArray[e]? = some v := by simpa using hv
  have h1 : (0 : Int) ≤ (e : Int) ∧ (e : Int) < (len : Int) := by omega
  simp only [hop, hc.eval hx, hc.eval hy, Instr.index, asIntOf, Sem.run_bind, Sem.run_pure, Result.andThen_ok, run_underlying hu, ha, h1, and_self, if_true, run_sizeOf hk, Int.toNat_natCast, part, run_isAgg hE, hf, Bool.not_true, Bool.false_eq_true, if_false, Nat.mul_one, hv']
end
def X0 (W : World) : Fr := ⟨fun _ => none, W⟩
theorem SH.start (W : World) : SH W (hp W) (X0 W) [] :=
  ⟨Hp.le_refl _, (fun b o e => by cases e), (fun b o e => by cases e), (fun s hs => by cases hs), (fun s hs => by cases hs), (fun i j r s _ hr => by simp at hr), Like.refl W⟩
theorem SH.below {W w : World} {M : Hp} (h : (hp W).le M) (S : SH w M (X0 W) []) : Below W.heap.size W w := by
  refine ⟨S.like.os, S.like.tape, S.like.output, S.like.size, fun k hk => ?_⟩
  have e : hp W k = some W.heap[k] := Array.getElem?_eq_getElem hk
  have := S.m k _ (h k _ e)
  unfold hp at this e
  rw [this, e]
theorem law_of_ct {P : Program} {f : FuncId} {vs : List Value} {W : World} (h : Ct P f vs W (hp W) (X0 W) (fun u _ => u = .bool true)) : Calls P f vs.toArray W fun e W' => e = .returned (.bool true) ∧ Below W.heap.size W W' := by
  refine h.mono ?_
  rintro e w' ⟨u, rfl, M', hle, S, rfl⟩
  exact ⟨rfl, S.below hle⟩
end Go.Proofs.Ytkcighnochjlgaa
namespace Go.Proofs.Ytkcighnochjlgaa
open Go.ChangeShapes Go.WideShapes Go.ChangeAt Go.RowKit
def Kp (w w' : World) : Prop := Below w.heap.size w w'
theorem Kp.refl (w : World) : Kp w w := Below.refl _ _
theorem Kp.trans {a b c : World} (h : Kp a b) (k : Kp b c) : Kp a c := Below.trans h (Below.mono k (Below.size h))
theorem Kp.size {a b : World} (h : Kp a b) : a.heap.size ≤ b.heap.size := Below.size h
theorem Kp.below {a b : World} (h : Kp a b) : Below a.heap.size a b := h
theorem Kp.drew {a w : World} (h : Kp a w) : Kp a w.drew := Below.drew h
theorem Kp.alloc {a w : World} (h : Kp a w) (o : Obj) : Kp a (w.alloc o) := Below.alloc h (Below.size h) o
theorem Kp.setCell {a w : World} (h : Kp a w) {p : Addr} (hp : a.heap.size ≤ p.block) (u : Value) : Kp a (w.setCell p u) := Below.setCell h hp u
theorem Kp.grown {a w w' : World} {row : Option Nat} (h : Kp a w) (hg : w.grownBy w' row) (hr : ∀ k, row = some k → a.heap.size ≤ k) : Kp a w' := Below.grown h hg (Below.size h) hr
def Sl (w : World) (B k u8 : Nat) (A : Option Addr) (n : Nat) (xs : List Value) : Prop :=
  xs.length = n * k ∧ n * u8 ≤ 140737488355328 ∧ (0 < n → ∃ b off, A = some ⟨b, off, none⟩ ∧ b < B ∧ ∀ j u, xs[j]? = some u → w.cell? ⟨b, off + j, none⟩ = some u)
section
variable {w w' : World} {B B' k u8 n : Nat} {A : Option Addr} {xs : List Value}
theorem Sl.len (h : Sl w B k u8 A n xs) : xs.length = n * k := h.1
theorem Sl.nil_ : Sl w B k u8 A 0 [] := ⟨by simp, by simp, fun h => absurd h (by omega)⟩
theorem Sl.at_ (h : Sl w B k u8 A n xs) (hn : 0 < n) : ∃ b off, A = some ⟨b, off, none⟩ ∧ b < B ∧ ∀ j u, xs[j]? = some u → w.cell? ⟨b, off + j, none⟩ = some u := h.2.2 hn
theorem Sl.keep (h : Sl w B k u8 A n xs) (hk : ∀ p : Addr, p.block < B → w'.cell? p = w.cell? p) : Sl w' B k u8 A n xs :=
  ⟨h.1, h.2.1, fun hn => by
    obtain ⟨b, off, e, hb, hc⟩ := h.2.2 hn
    exact ⟨b, off, e, hb, fun j u hu => (hk _ hb).trans (hc j u hu)⟩⟩
theorem Sl.mono (h : Sl w B k u8 A n xs) (hB : B ≤ B') : Sl w B' k u8 A n xs :=
  ⟨h.1, h.2.1, fun hn => by
    obtain ⟨b, off, e, hb, hc⟩ := h.2.2 hn
    exact ⟨b, off, e, by omega, hc⟩⟩
theorem Sl.below (h : Sl w B k u8 A n xs) (hb : Below B w w') : Sl w' B k u8 A n xs := h.keep fun _ hp => hb.cell hp
theorem Sl.of_own {base : Nat} {e : TypeId} {c : Nat} (h : w.ownsRow base e k (.slice A n c) n xs) (hr : n * u8 ≤ 140737488355328) : Sl w w.heap.size k u8 A n xs := by
  refine ⟨h.1, hr, fun hn => ?_⟩
  rcases h.2 with ⟨_, h0⟩ | ⟨g, cap, cur, hv, _, hh, _⟩
  · omega
  · injection hv with hA
    subst hA
    have hlt := (h.lt g rfl).2
    refine ⟨g, 0, rfl, hlt, fun j u hu => ?_⟩
    have := h.cells (g := g) rfl j u hu
    rwa [Addr.add_lit] at this
end
def gi (xs : List Int) (i : Nat) : Int := xs.getD i 0
theorem gi_eq {xs : List Int} {i : Nat} (h : i < xs.length) : gi xs i = xs[i] := by simp [gi, h]
theorem gi_get? {xs : List Int} {i : Nat} (h : i < xs.length) : xs[i]? = some (gi xs i) := by simp [gi, h]
def iv (x : Int) : Value := .int .i64 x
def IntsA (w : World) (B : Nat) (A : Option Addr) (xs : List Int) : Prop := Sl w B 1 8 A xs.length (xs.map iv)
def Ints (w : World) (B : Nat) (v : Value) (xs : List Int) : Prop := ∃ A c, v = .slice A xs.length c ∧ xs.length ≤ c ∧ IntsA w B A xs
section
variable {w w' : World} {B B' : Nat} {A : Option Addr} {v : Value} {xs : List Int}
theorem IntsA.below (h : IntsA w B A xs) (hb : Below B w w') : IntsA w' B A xs := Sl.below h hb
theorem IntsA.nil_ : IntsA w B A [] := Sl.nil_
theorem Ints.below (h : Ints w B v xs) (hb : Below B w w') : Ints w' B v xs := by
  obtain ⟨A, c, e, hc, h⟩ := h
  exact ⟨A, c, e, hc, h.below hb⟩
theorem Ints.of_own {base : Nat} {e : TypeId} (h : w.ownsRow base e 1 v xs.length (xs.map iv)) (hr : xs.length * 8 ≤ 140737488355328) : Ints w w.heap.size v xs := by
  have h' := h
  rcases h.2 with ⟨rfl, h0⟩ | ⟨g, cap, cur, rfl, _, _, hle, _⟩
  · refine ⟨none, 0, by rw [h0], by omega, ?_⟩
    unfold IntsA
    rw [h0]
    obtain rfl : xs = [] := List.eq_nil_of_length_eq_zero h0
    exact Sl.nil_
  · exact ⟨_, cap, rfl, hle, Sl.of_own h' hr⟩
end
section
variable {H : Type} {enc : TypeId × Value → H} {P : Program} {w : World}
end
def SlT (P : Program) (T E : TypeId) (k u8 : Nat) (z : Value) : Prop :=
  P.underlying T = some (.slice E) ∧ (P.info? E).map (fun i => (i.zero, i.size, i.bytes)) = some (some z, k, u8) ∧ z.cells.size = k ∧ 0 < k ∧ 0 < u8
abbrev Gr (w w' : World) (row : Option Nat) : Prop := w.grownBy w' row
theorem gr_refl (w : World) (row : Option Nat) : Gr w w row := ⟨rfl, rfl, rfl, Nat.le_refl _, fun _ _ _ => rfl⟩
theorem gr_of_kp {a b : World} (h : Kp a b) (row : Option Nat) : Gr a b row := ⟨h.os, h.tape, h.output, h.size, fun i hi _ => h.block i hi⟩
theorem own_kp {w w' : World} {base : Nat} {e : TypeId} {k n : Nat} {v : Value} {xs : List Value} (h : w.ownsRow base e k v n xs) (hk : Kp w w') : w'.ownsRow base e k v n xs :=
  h.kept (gr_of_kp hk none) (by cases hb : v.ownBlock <;> simp)
theorem max_of_room {n u8 : Nat} (h0 : 0 < u8) (h : n * u8 ≤ 140737488355328) : n ≤ maxLen := by
  have : n * 1 ≤ n * u8 := Nat.mul_le_mul_left n h0
  unfold maxLen
  omega
theorem wp_appendSl {P : Program} {w : World} {ops : Array Oper} {rest : List Oper} {o : Oper} {a : Act} {Q : Exit → Act → World → Prop} {T E : TypeId} {k u8 : Nat} {z : Value} (hT : SlT P T E k u8 z)
    (hgd : o.guard = none) (s x : Operand) (ho : o.op = .call { callee := .builtin .append, args := #[s, x], argTypes := #[T, T] })
    {base : Nat} {v : Value} {n : Nat} {xs : List Value} (hown : w.ownsRow base E k v n xs) (hs : a.eval s = v) {B : Nat} {A : Option Addr} {m c : Nat} {news : List Value} (hx : a.eval x = .slice A m c)
    (hsl : Sl w B k u8 A m news) (h1 : ∀ u ∈ news, u.oneCell' = true) (hr : (n + m) * u8 ≤ 140737488355328) (hbase : base ≤ w.heap.size)
    (h : ∀ v' w', w'.ownsRow base E k v' (n + m) (xs ++ news) → Gr w w' v.ownBlock → (v'.ownBlock = v.ownBlock ∨ v'.ownBlock = some w.heap.size) → wpList P ops Q rest (a.put o.dst v') w') :
    wpList P ops Q (o :: rest) a w := by
  obtain ⟨ht, hinfo, hzs, hsz, h8⟩ := hT
  obtain ⟨i, hi, hz, hsize, hby⟩ := info_parts hinfo
  have key : ∃ v' w', (Builtin.append_ #[T, T] o.type #[v, .slice A m c]).run P w = .ok v' w' ∧ w'.ownsRow base E k v' (n + m) (xs ++ news) ∧ Gr w w' v.ownBlock ∧ (v'.ownBlock = v.ownBlock ∨ v'.ownBlock = some w.heap.size) := by
    rcases A with _ | ad
    · have hm : m = 0 := by
        rcases Nat.eq_zero_or_pos m with h0 | h0
        · exact h0
        · obtain ⟨b, off, h, _⟩ := hsl.at_ h0
          cases h
      subst hm
      have hn : news = [] := List.eq_nil_of_length_eq_zero (by simpa using hsl.len)
      subst hn
      refine ⟨v, w, ?_, by simpa using hown, gr_refl _ _, .inl rfl⟩
      rcases hown.2 with ⟨rfl, rfl⟩ | ⟨g, cap, cur, rfl, _, _, hnc, _⟩
      · simp [Builtin.append_, run_underlying ht, sizeOf, typeInfo, hi, Builtin.lenOf, Builtin.firstCells]
      · simp [Builtin.append_, run_underlying ht, sizeOf, typeInfo, hi, Builtin.lenOf, Builtin.firstCells, hnc, storeCells]
    · have hcells : ∀ j u, news[j]? = some u → w.cell? (ad.add j) = some u := by
        intro j u hu
        rcases Nat.eq_zero_or_pos m with h0 | h0
        · subst h0
          have hn : news = [] := List.eq_nil_of_length_eq_zero (by simpa using hsl.len)
          subst hn
          simp at hu
        · obtain ⟨b, off, h, _, hc⟩ := hsl.at_ h0
          injection h with h
          subst h
          rw [Addr.add_lit]
          exact hc j u hu
      obtain ⟨v', w', hrun, r1, r2, _, r3⟩ := run_append_own_at (P := P) w base T o.type E i z k u8 ht hi hz hsize hby hzs hsz v n xs hown ad m c news hsl.len hcells h1 (max_of_room h8 hr) hr hbase
      exact ⟨v', w', hrun, r1, r2, r3⟩
  obtain ⟨v', w', hrun, r1, r2, r3⟩ := key
  refine wpList_plain hgd fun _ hK => ?_
  unfold Oper.wp execOp
  simp only [ho, resolve, invoke, builtin, Sem.run_bind, Sem.run_pure, Result.andThen_ok, List.map_toArray, List.map_cons, List.map_nil, hs, hx, hrun]
  exact hK _ _ (h v' w' r1 r2 r3)
theorem own_nil (w : World) (base : Nat) (e : TypeId) (k : Nat) : w.ownsRow base e k (.slice none 0 0) 0 [] := World.ownsRow_nil w base e k
def OwnI (w : World) (base : Nat) (v : Value) (xs : List Int) : Prop := w.ownsRow base 3 1 v xs.length (xs.map iv)
section
variable {w w' : World} {base : Nat} {v : Value} {xs : List Int} {g cap : Nat}
theorem OwnI.nil_ : OwnI w base (.slice none 0 0) [] := own_nil w base _ 1
theorem OwnI.form (h : OwnI w base v xs) (h0 : 0 < xs.length) : ∃ g cap, v = .slice (some ⟨g, 0, none⟩) xs.length cap ∧ base ≤ g ∧ g < w.heap.size ∧ xs.length ≤ cap := by
  have h' := h
  rcases h.2 with ⟨_, h1⟩ | ⟨g, cap, cur, rfl, hg, _, hle, _⟩
  · omega
  · exact ⟨g, cap, rfl, hg, (h'.lt g rfl).2, hle⟩
theorem OwnI.n_eq {A : Option Addr} {n : Nat} (h : OwnI w base (.slice A n cap) xs) : n = xs.length := by
  rcases h.2 with ⟨h1, h2⟩ | ⟨g, c, cur, h1, _⟩
  · injection h1 with _ h3; omega
  · injection h1
theorem OwnI.cell {n : Nat} (h : OwnI w base (.slice (some ⟨g, 0, none⟩) n cap) xs) {i : Nat} (hi : i < xs.length) : w.cell? ⟨g, i, none⟩ = some (.int .i64 (gi xs i)) := by
  obtain rfl := h.n_eq
  rw [World.ownsRow.cellAt h i (by omega), List.getElem?_map, gi_get? hi]; rfl
theorem OwnI.free {n : Nat} (h : OwnI w base (.slice (some ⟨g, 0, none⟩) n cap) xs) (i : Nat) : w.frozen? ⟨g, i, none⟩ = false := by
  obtain rfl := h.n_eq
  exact World.ownsRow.frozenAt h i
theorem OwnI.set_ {n : Nat} (h : OwnI w base (.slice (some ⟨g, 0, none⟩) n cap) xs) (i : Nat) (y : Int) :
    OwnI (w.setCell ⟨g, i, none⟩ (.int .i64 y)) base (.slice (some ⟨g, 0, none⟩) n cap) (xs.set i y) := by
  obtain rfl := h.n_eq
  unfold OwnI
  rw [List.length_set, List.map_set]
  exact (World.ownsRow.stored h i (iv y)).1
theorem OwnI.kp (h : OwnI w base v xs) (hk : Kp w w') : OwnI w' base v xs := own_kp h hk
theorem OwnI.lt (h : OwnI w base v xs) : ∀ k, v.ownBlock = some k → base ≤ k ∧ k < w.heap.size := World.ownsRow.lt h
end
theorem slInt : SlT Try.prog 36 3 1 8 (.int .i64 0) := ⟨uT36, by kernel_rfl, rfl, by omega, by omega⟩
theorem gi_set (xs : List Int) (i j : Nat) (y : Int) (h : i < xs.length) : gi (xs.set i y) j = if i = j then y else gi xs j := by
  unfold gi
  rw [List.getD_eq_getElem?_getD, List.getD_eq_getElem?_getD, List.getElem?_set]
  by_cases hij : i = j
  · subst hij; simp [h]
  · simp [hij]
theorem gi_ext {xs ys : List Int} (hl : xs.length = ys.length) (h : ∀ i, i < xs.length → gi xs i = gi ys i) : xs = ys := by
  apply List.ext_getElem hl
  intro i h1 h2
  have := h i h1
  rwa [gi_eq h1, gi_eq h2] at this
theorem gr_setCell {a b : World} {g : Nat} (h : Gr a b (some g)) (i : Nat) (u : Value) : Gr a (b.setCell ⟨g, i, none⟩ u) (some g) :=
  ⟨h.os, h.tape, h.output, by simpa [World.setCell] using h.size, fun k hk hn => (Below.heap_setCell b ⟨g, i, none⟩ u k (fun e => hn (by rw [e]))).trans (h.block k hk hn)⟩
theorem Kp.own {a b c : World} {base : Nat} {e : TypeId} {k n : Nat} {v : Value} {xs : List Value} (h : Kp a b) (ho : b.ownsRow base e k v n xs) (hg : Gr b c v.ownBlock) (hb : a.heap.size ≤ base) : Kp a c :=
  h.grown hg fun g hg' => Nat.le_trans hb (ho.lt g hg').1
theorem cell_lt {w : World} {g i : Nat} {u : Value} (h : w.cell? ⟨g, i, none⟩ = some u) : g < w.heap.size := World.block_lt_of_cell? w ⟨g, i, none⟩ h
theorem Kp.c {a b : World} (h : Kp a b) {g i : Nat} {u : Value} (hc : a.cell? ⟨g, i, none⟩ = some u) : b.cell? ⟨g, i, none⟩ = some u := (h.below.cell (p := ⟨g, i, none⟩) (cell_lt hc)).trans hc
theorem Kp.fz {a b : World} (h : Kp a b) {g i : Nat} {f : Bool} (hg : g < a.heap.size) (hc : a.frozen? ⟨g, i, none⟩ = f) : b.frozen? ⟨g, i, none⟩ = f := (h.below.frozen (p := ⟨g, i, none⟩) hg).trans hc
theorem Kp.al {a b : World} {o : Obj} (h : Kp (a.alloc o) b) : Kp a b := ((Kp.refl a).alloc o).trans h
theorem Kp.lt {a b : World} (h : Kp a b) {g : Nat} (hg : g < a.heap.size) : g < b.heap.size := Nat.lt_of_lt_of_le hg h.size
theorem Kp.cf {a b : World} (h : Kp a b) {n : Nat} (hn : a.heap.size = n) : (∀ g i, g < n → b.cell? ⟨g, i, none⟩ = a.cell? ⟨g, i, none⟩) ∧ (∀ g i, g < n → b.frozen? ⟨g, i, none⟩ = a.frozen? ⟨g, i, none⟩) := by
  subst hn
  exact ⟨fun g i hg => h.below.cell (p := ⟨g, i, none⟩) hg, fun g i hg => h.below.frozen (p := ⟨g, i, none⟩) hg⟩
end Go.Proofs.Ytkcighnochjlgaa
namespace Go.Proofs.Ytkcighnochjlgaa
open Go.ChangeShapes Go.WideShapes Go.ChangeAt Go.RowKit
structure Cod (α : Type) where
  f : α → List Value
  k : Nat
  u8 : Nat
  hf : ∀ x, (f x).length = k
def Rd {α : Type} (C : Cod α) (w : World) (B : Nat) (A : Option Addr) (xs : List α) : Prop := Sl w B C.k C.u8 A xs.length (xs.flatMap C.f)
def Rv {α : Type} (C : Cod α) (w : World) (B : Nat) (v : Value) (xs : List α) : Prop := ∃ A c, v = .slice A xs.length c ∧ xs.length ≤ c ∧ Rd C w B A xs
def Ow {α : Type} (C : Cod α) (E : TypeId) (w : World) (base : Nat) (v : Value) (xs : List α) : Prop := w.ownsRow base E C.k v xs.length (xs.flatMap C.f)
section
variable {α : Type} {C : Cod α} {w w' : World} {B B' : Nat} {A : Option Addr} {v : Value} {xs : List α} {E : TypeId} {base : Nat}
theorem Rd.mono (h : Rd C w B A xs) (hB : B ≤ B') : Rd C w B' A xs := Sl.mono h hB
theorem Rd.below (h : Rd C w B A xs) (hb : Below B w w') : Rd C w' B A xs := Sl.below h hb
theorem Rd.kp (h : Rd C w w.heap.size A xs) (k : Kp w w') : Rd C w' w'.heap.size A xs := (h.below k.below).mono k.size
theorem Rd.room (h : Rd C w B A xs) : xs.length * C.u8 ≤ 140737488355328 := h.2.1
theorem Rd.nil_ : Rd C w B A [] := Sl.nil_
theorem Rd.at_ [Inhabited α] (h : Rd C w B A xs) {i : Nat} (hi : i < xs.length) : ∃ b off, A = some ⟨b, off, none⟩ ∧ b < B ∧ ∀ j u, j < C.k → (C.f (ga xs i))[j]? = some u → w.cell? ⟨b, off + (i * C.k + j), none⟩ = some u := by
  obtain ⟨b, off, e, hb, hc⟩ := Sl.at_ h (by omega)
  exact ⟨b, off, e, hb, fun j u hj hu => hc _ u (by rw [U15 C.hf hi hj, ← U14 hi]; exact hu)⟩
theorem Rv.below (h : Rv C w B v xs) (hb : Below B w w') : Rv C w' B v xs := by
  obtain ⟨A, c, e, hc, h⟩ := h
  exact ⟨A, c, e, hc, h.below hb⟩
theorem Ow.nil_ : Ow C E w base (.slice none 0 0) [] := own_nil w base E C.k
theorem Ow.kp (h : Ow C E w base v xs) (hk : Kp w w') : Ow C E w' base v xs := own_kp h hk
theorem Ow.lt (h : Ow C E w base v xs) : ∀ k, v.ownBlock = some k → base ≤ k ∧ k < w.heap.size := World.ownsRow.lt h
theorem Ow.kept {row : Option Nat} (h : Ow C E w base v xs) (hg : Gr w w' row) (hne : v.ownBlock = none ∨ v.ownBlock ≠ row) : Ow C E w' base v xs := World.ownsRow.kept h hg hne
theorem Ow.sl (h : Ow C E w base v xs) : ∃ A c, v = .slice A xs.length c ∧ xs.length ≤ c := by
  rcases h.2 with ⟨rfl, h1⟩ | ⟨g, cap, cur, rfl, hg, _, hle, _⟩
  · exact ⟨none, 0, by rw [h1], by omega⟩
  · exact ⟨_, cap, rfl, hle⟩
theorem Ow.form (h : Ow C E w base v xs) (h0 : 0 < xs.length) : ∃ g cap, v = .slice (some ⟨g, 0, none⟩) xs.length cap ∧ base ≤ g ∧ g < w.heap.size ∧ xs.length ≤ cap := by
  have h' := h
  rcases h.2 with ⟨_, h1⟩ | ⟨g, cap, cur, rfl, hg, _, hle, _⟩
  · omega
  · exact ⟨g, cap, rfl, hg, (h'.lt g rfl).2, hle⟩
theorem Ow.n_eq {n c : Nat} (h : Ow C E w base (.slice A n c) xs) : n = xs.length := by
  rcases h.2 with ⟨h1, h2⟩ | ⟨g, c, cur, h1, _⟩
  · injection h1 with _ h3; omega
  · injection h1
theorem Ow.cell [Inhabited α] {g n c : Nat} (h : Ow C E w base (.slice (some ⟨g, 0, none⟩) n c) xs) {i : Nat} (hi : i < xs.length) {j : Nat} {u : Value} (hj : j < C.k) (hu : (C.f (ga xs i))[j]? = some u) : w.cell? ⟨g, i * C.k + j, none⟩ = some u := by
  obtain rfl := h.n_eq
  have hlt : i * C.k + j < xs.length * C.k := by
    have := Nat.mul_le_mul_right C.k (show i + 1 ≤ xs.length by omega)
    rw [Nat.succ_mul] at this
    omega
  rw [World.ownsRow.cellAt h _ hlt, U15 C.hf hi hj, ← U14 hi, hu]
theorem Ow.free {g n c : Nat} (h : Ow C E w base (.slice (some ⟨g, 0, none⟩) n c) xs) (i : Nat) : w.frozen? ⟨g, i, none⟩ = false := by
  obtain rfl := h.n_eq
  exact World.ownsRow.frozenAt h i
end
structure Cr where
  a : Int
  b : Int
  c : Int
  d : Int
  plus : Bool
instance : Inhabited Cr := ⟨⟨0, 0, 0, 0, false⟩⟩
def crF (x : Cr) : List Value := [.int .i64 x.a, .int .i64 x.b, .int .i64 x.c, .int .i64 x.d, .bool x.plus]
def codCr : Cod Cr := ⟨crF, 5, 40, fun _ => rfl⟩
def crV (x : Cr) : Value := .agg #[.int .i64 x.a, .int .i64 x.b, .int .i64 x.c, .int .i64 x.d, .bool x.plus]
theorem crAt {w : World} {B : Nat} {A : Option Addr} {xs : List Cr} (h : Rd codCr w B A xs) {i : Nat} (hi : i < xs.length) : ∃ b off, A = some ⟨b, off, none⟩ ∧ b < B ∧
    w.cell? ⟨b, off + i * 5, none⟩ = some (.int .i64 (ga xs i).a) ∧ w.cell? ⟨b, off + i * 5 + 1, none⟩ = some (.int .i64 (ga xs i).b) ∧
    w.cell? ⟨b, off + i * 5 + 2, none⟩ = some (.int .i64 (ga xs i).c) ∧ w.cell? ⟨b, off + i * 5 + 3, none⟩ = some (.int .i64 (ga xs i).d) ∧
    w.cell? ⟨b, off + i * 5 + 4, none⟩ = some (.bool (ga xs i).plus) := by
  obtain ⟨b, off, e, hb, hc⟩ := h.at_ hi
  exact ⟨b, off, e, hb, hc 0 _ (by decide) rfl, hc 1 _ (by decide) rfl, hc 2 _ (by decide) rfl, hc 3 _ (by decide) rfl, hc 4 _ (by decide) rfl⟩
structure Dg where
  crs : List Cr
  loops : Int
def IsDg (w : World) (B : Nat) (v : Value) (d : Dg) : Prop := ∃ A c, v = .agg #[.slice A d.crs.length c, .int .i64 d.loops] ∧ d.crs.length ≤ c ∧ Rd codCr w B A d.crs
theorem lts {b n : Nat} (h : b < n) : b < n ∧ b < n + 1 ∧ b < n + 2 ∧ b < n + 3 ∧ b < n + 4 := by omega
def Blk (w : World) (g : Nat) (t : TypeId) (cs : Array Value) : Prop := w.heap[g]? = some (.cells cs t (0, 0))
section
variable {w w' : World} {g : Nat} {t : TypeId} {cs : Array Value}
theorem Blk.lt (h : Blk w g t cs) : g < w.heap.size := by
  rcases Nat.lt_or_ge g w.heap.size with hlt | hge
  · exact hlt
  · unfold Blk at h; rw [Array.getElem?_eq_none hge] at h; cases h
theorem Blk.cell (h : Blk w g t cs) (i : Nat) {u : Value} (hu : cs[i]? = some u) : w.cell? ⟨g, i, none⟩ = some u := by rw [cell_of_row w g i cs t (0, 0) h, hu]
theorem Blk.free (h : Blk w g t cs) (i : Nat) : w.frozen? ⟨g, i, none⟩ = false := frozen_of_row w g i cs t h
theorem Blk.new (w : World) (t : TypeId) (cs : Array Value) : Blk (w.alloc (.cells cs t)) w.heap.size t cs := heap_alloc_new w _
theorem Blk.new' (w : World) (t : TypeId) (cs : Array Value) {n : Nat} (hn : w.heap.size = n) : Blk (w.alloc (.cells cs t)) n t cs := by subst hn; exact heap_alloc_new w _
theorem Blk.drew (h : Blk w g t cs) : Blk w.drew g t cs := h
theorem Blk.alloc (h : Blk w g t cs) (o : Obj) : Blk (w.alloc o) g t cs := (Below.heap_alloc w o g h.lt).trans h
theorem Blk.far (h : Blk w g t cs) {p : Addr} (hp : g ≠ p.block) (u : Value) : Blk (w.setCell p u) g t cs := (Below.heap_setCell w p u g hp).trans h
theorem Blk.kp (h : Blk w g t cs) (hk : Kp w w') : Blk w' g t cs := (hk.block g h.lt).trans h
theorem Blk.gr {row : Option Nat} (h : Blk w g t cs) (hg : Gr w w' row) (hne : some g ≠ row) : Blk w' g t cs := (hg.block g h.lt hne).trans h
end
theorem Blk.two {w : World} {g : Nat} {t : TypeId} {x y : Value} (h : Blk w g t #[x, y]) : w.cell? ⟨g, 0, none⟩ = some x ∧ w.cell? ⟨g, 1, none⟩ = some y ∧ w.frozen? ⟨g, 0, none⟩ = false ∧ w.frozen? ⟨g, 1, none⟩ = false :=
  ⟨h.cell 0 rfl, h.cell 1 rfl, h.free 0, h.free 1⟩
theorem make_of {P : Program} {T E : TypeId} {k u8 : Nat} {z : Value} (hT : SlT P T E k u8 z) (n : Nat) (x : Int) (hx : x = (n : Int)) (hb : n * u8 ≤ 140737488355328) (w : World) :
    (Instr.makeSlice T (.int .i64 x) (.int .i64 x)).run P w = .ok (.slice (some ⟨w.heap.size, 0, none⟩) n n) (w.alloc (.cells (madeCells z.cells (n * k)) E)) := by
  subst hx
  obtain ⟨ht, hinfo, hzs, hsz, h8⟩ := hT
  obtain ⟨i, hi, hz, hsize, hby⟩ := info_parts hinfo
  have h1 : n * 1 ≤ n * u8 := Nat.mul_le_mul_left n h8
  have hr := run_make (P := P) w T E i z ht hi hz .i64 .i64 (n : Int) (n : Int) (by omega) (by omega) (by
    rw [hby]
    have h : ((u8 * n : Nat) : Int) ≤ 140737488355328 := by rw [Nat.mul_comm]; omega
    rw [Int.natCast_mul] at h
    omega) (by omega)
  rw [hsize] at hr
  simpa using hr
theorem made_cells {α : Type} (C : Cod α) (y : α) (z : Value) (hz : z.cells.toList = C.f y) (n : Nat) : (madeCells z.cells (n * C.k)).toList = (List.replicate n y).flatMap C.f := by
  have hk : z.cells.size = C.k := by rw [← C.hf y, ← hz]; simp
  apply List.ext_getElem?
  intro m
  by_cases hm : m < n * C.k
  · have hk0 : 0 < C.k := by
      rcases Nat.eq_zero_or_pos C.k with h | h
      · rw [h, Nat.mul_zero] at hm; omega
      · exact h
    have hi : m / C.k < (List.replicate n y).length := by rw [List.length_replicate]; exact (Nat.div_lt_iff_lt_mul hk0).2 hm
    have hj : m % C.k < C.k := Nat.mod_lt _ hk0
    have e := U15 C.hf hi hj
    rw [show m / C.k * C.k + m % C.k = m by rw [Nat.mul_comm]; exact Nat.div_add_mod m C.k] at e
    rw [e, List.getElem_replicate, ← hz]
    simp only [madeCells, hk, Array.toList_map, Array.toList_range, List.getElem?_map, List.getElem?_range hm, Option.map_some]
    rw [Array.getElem!_eq_getD]
    simp [hk, hj]
  · rw [List.getElem?_eq_none, List.getElem?_eq_none]
    · rw [Uw C.hf, List.length_replicate]; omega
    · simp [madeCells]; omega
theorem Ow.of_blk {α : Type} {C : Cod α} {E : TypeId} {w : World} {g base : Nat} {cs : Array Value} {xs : List α} (h : Blk w g E cs) (hcs : cs.toList = xs.flatMap C.f) (hb : base ≤ g) (hm : xs.length ≤ maxLen) :
    Ow C E w base (.slice (some ⟨g, 0, none⟩) xs.length xs.length) xs := by
  have hl := Uw C.hf xs
  refine ⟨hl, .inr ⟨g, xs.length, cs, rfl, hb, h, Nat.le_refl _, hm, by rw [← hl, ← hcs]; simp, ?_⟩⟩
  rw [hcs, ← hl, List.take_length]
theorem Ow.made {α : Type} {C : Cod α} {E : TypeId} {w : World} {g base n : Nat} {y : α} {z : Value} (hz : z.cells.toList = C.f y) (h : Blk w g E (madeCells z.cells (n * C.k))) (hb : base ≤ g) (hm : n ≤ maxLen) :
    Ow C E w base (.slice (some ⟨g, 0, none⟩) n n) (List.replicate n y) := by
  have := Ow.of_blk (C := C) (xs := List.replicate n y) h (made_cells C y z hz n) hb (by simpa using hm)
  simpa using this
def codI : Cod Int := ⟨fun x => [iv x], 1, 8, fun _ => rfl⟩
theorem flat_iv (xs : List Int) : xs.flatMap codI.f = xs.map iv := by
  induction xs with
  | nil => rfl
  | cons x xs ih => rw [List.flatMap_cons, ih]; rfl
theorem OwnI.of_ow {w : World} {base : Nat} {v : Value} {xs : List Int} (h : Ow codI 3 w base v xs) : OwnI w base v xs := by
  unfold OwnI
  rw [← flat_iv]
  exact h
theorem Kp.alt {w w1 : World} {o : Obj} (h : Kp (w.alloc o) w1) : w.heap.size < w1.heap.size := by
  have := h.size
  simp at this
  omega
theorem Ow.base {α : Type} {C : Cod α} {E : TypeId} {w : World} {b b' : Nat} {v : Value} {xs : List α} (h : Ow C E w b v xs) (hb : b' ≤ b) : Ow C E w b' v xs := by
  rcases h with ⟨h1, h2 | ⟨g, cap, cur, r1, r2, r3⟩⟩
  · exact ⟨h1, .inl h2⟩
  · exact ⟨h1, .inr ⟨g, cap, cur, r1, by omega, r3⟩⟩
theorem Ow.ne_ {α β : Type} {C : Cod α} {C' : Cod β} {E E' : TypeId} {w : World} {b b' : Nat} {v v' : Value} {xs : List α} {ys : List β} (h : Ow C E w b v xs) (h' : Ow C' E' w b' v' ys) (hne : E ≠ E') : v.ownBlock = none ∨ v.ownBlock ≠ v'.ownBlock := by
  rcases h.2 with ⟨rfl, _⟩ | ⟨g, cap, cur, rfl, _, hh, _⟩
  · exact .inl rfl
  · rcases h'.2 with ⟨rfl, _⟩ | ⟨g', cap', cur', rfl, _, hh', _⟩
    · exact .inr (by simp [Value.ownBlock])
    · refine .inr fun e => ?_
      simp only [Value.ownBlock, Option.some.injEq] at e
      subst e
      rw [hh] at hh'
      injection hh' with h1
      injection h1 with _ h2
      exact hne h2
theorem Ow.ne_blk {α : Type} {C : Cod α} {E t : TypeId} {w : World} {b g : Nat} {v : Value} {xs : List α} {cs : Array Value} (h : Ow C E w b v xs) (h' : Blk w g t cs) (hne : E ≠ t) : v.ownBlock = none ∨ v.ownBlock ≠ some g := by
  rcases h.2 with ⟨rfl, _⟩ | ⟨g', cap, cur, rfl, _, hh, _⟩
  · exact .inl rfl
  · refine .inr fun e => ?_
    simp only [Value.ownBlock, Option.some.injEq] at e
    subst e
    unfold Blk at h'
    rw [hh] at h'
    injection h' with h1
    injection h1 with _ h2
    exact hne h2
theorem Ow.set2 {α : Type} [Inhabited α] {C : Cod α} {E : TypeId} {w : World} {base g n c : Nat} {xs : List α} (h : Ow C E w base (.slice (some ⟨g, 0, none⟩) n c) xs) (hk : C.k = 2) {i : Nat} (hi : i < xs.length) (u0 u1 : Value) (y : α) (hy : C.f y = [u0, u1]) :
    Ow C E ((w.setCell ⟨g, i * 2, none⟩ u0).setCell ⟨g, i * 2 + 1, none⟩ u1) base (.slice (some ⟨g, 0, none⟩) n c) (xs.set i y) := by
  obtain rfl := h.n_eq
  have hl : (C.f (ga xs i)).length = 2 := by rw [C.hf, hk]
  have e1 := (World.ownsRow.stored h (i * 2) u0).1
  have e2 := (World.ownsRow.stored e1 (i * 2 + 1) u1).1
  unfold Ow
  rw [List.length_set]
  have hx : ((xs.flatMap C.f).set (i * 2) u0).set (i * 2 + 1) u1 = (xs.set i y).flatMap C.f := by
    apply List.ext_getElem?
    intro m
    have hm2 : m = m / 2 * 2 + m % 2 := by omega
    by_cases hm : m < xs.length * 2
    · have hmi : m / 2 < xs.length := by omega
      have hmj : m % 2 < C.k := by omega
      have g1 := U15 C.hf hmi hmj
      have g2 := U15 (xs := xs.set i y) C.hf (i := m / 2) (j := m % 2) (by rw [List.length_set]; exact hmi) hmj
      rw [hk, ← hm2] at g1 g2
      rw [g2, List.getElem?_set, List.getElem?_set, List.length_set, Uw C.hf, hk, g1]
      by_cases h1 : i = m / 2
      · have e : (xs.set i y)[m / 2]'(by rw [List.length_set]; exact hmi) = y := by subst h1; simp
        rw [e, hy]
        rcases (show m % 2 = 0 ∨ m % 2 = 1 by omega) with h2 | h2
        · rw [if_neg (by omega), if_pos (by omega), if_pos (by omega), h2]; rfl
        · rw [if_pos (by omega), if_pos (by omega), h2]; rfl
      · have e : (xs.set i y)[m / 2]'(by rw [List.length_set]; exact hmi) = xs[m / 2] := by rw [List.getElem_set_ne (by omega)]
        rw [e, if_neg (by omega), if_neg (by omega)]
    · rw [List.getElem?_eq_none (by rw [List.length_set, List.length_set, Uw C.hf, hk]; omega), List.getElem?_eq_none (by rw [Uw C.hf, List.length_set, hk]; omega)]
  rw [← hx]
  exact e2
theorem gr_set2 {w : World} {g i j : Nat} (u v : Value) : Gr w ((w.setCell ⟨g, i, none⟩ u).setCell ⟨g, j, none⟩ v) (some g) := gr_setCell (gr_setCell (gr_refl w _) i u) j v
theorem gr_set1 {w : World} {g i : Nat} (u : Value) : Gr w (w.setCell ⟨g, i, none⟩ u) (some g) := gr_setCell (gr_refl w _) i u
theorem Blk.cr {w : World} {g : Nat} {t : TypeId} {a b c d e : Value} (h : Blk w g t #[a, b, c, d, e]) : w.cell? ⟨g, 0, none⟩ = some a ∧ w.cell? ⟨g, 1, none⟩ = some b ∧ w.cell? ⟨g, 2, none⟩ = some c ∧ w.cell? ⟨g, 3, none⟩ = some d ∧ w.cell? ⟨g, 4, none⟩ = some e :=
  ⟨h.cell 0 rfl, h.cell 1 rfl, h.cell 2 rfl, h.cell 3 rfl, h.cell 4 rfl⟩
theorem Blk.four {w : World} {g : Nat} {t : TypeId} {a b c d : Value} (h : Blk w g t #[a, b, c, d]) : w.cell? ⟨g, 0, none⟩ = some a ∧ w.cell? ⟨g, 1, none⟩ = some b ∧ w.cell? ⟨g, 2, none⟩ = some c ∧ w.cell? ⟨g, 3, none⟩ = some d :=
  ⟨h.cell 0 rfl, h.cell 1 rfl, h.cell 2 rfl, h.cell 3 rfl⟩
end Go.Proofs.Ytkcighnochjlgaa
namespace Go.Proofs.Ytkcighnochjlgaa
open Go.ChangeShapes Go.WideShapes Go.ChangeAt Go.RowKit
def crArc (x : Cr) (k : Nat) : Int := if k = 0 then x.a else if k = 1 then x.b else if k = 2 then x.c else x.d
def crIn (x : Cr) (k : Nat) : Bool := decide (k = 0 ∨ k = 1 ∧ x.plus = false ∨ k = 3 ∧ x.plus = true)
def Uu (d : Dg) (c k : Nat) : Int := crArc (ga d.crs c) k
def Ui (d : Dg) (c k : Nat) : Bool := crIn (ga d.crs c) k
def IntPost (n : Int) (w : World) (e : Ending) (w' : World) : Prop := e = .returned (.int .i64 n) ∧ Kp w w'
def BoPost (b : Bool) (w : World) (e : Ending) (w' : World) : Prop := e = .returned (.bool b) ∧ Kp w w'
set_option maxHeartbeats 1000000 in
theorem U2e (v : Value) (d : Dg) (c k : Nat) (w : World) (hd : IsDg w w.heap.size v d) (hc : c < d.crs.length) (hk : k < 4) :
    Calls Try.prog 92 #[v, .agg #[.int .i64 c, .int .i64 k]] w (IntPost (Uu d c k) w) := by
  obtain ⟨A, cap, rfl, hcap, hr⟩ := hd
  have hrm := hr.room
  obtain ⟨b, off, rfl, hb, c0, c1, c2, c3, c4⟩ := crAt hr hc
  have hkk : k = 0 ∨ k = 1 ∨ k = 2 ∨ k = 3 := by omega
  obtain ⟨l0, l1, l2, l3, l4⟩ := lts hb
  clear hr
  rcases hkk with rfl | rfl | rfl | rfl
  all_goals
    go_enter Try.func92, Try.ntmps92
    go_wp2_with fail
    go_ret
    exact ⟨rfl, (((Kp.refl _).alloc _).alloc _).alloc _⟩
set_option maxHeartbeats 2000000 in
theorem entry_any (v : Value) (d : Dg) (c k : Nat) (w : World) (hd : IsDg w w.heap.size v d) (hc : c < d.crs.length) (hk : k < 4) :
    Calls Try.prog 120 #[v, .agg #[.int .i64 c, .int .i64 k]] w (BoPost (Ui d c k) w) := by
  obtain ⟨A, cap, rfl, hcap, hr⟩ := hd
  have hrm := hr.room
  obtain ⟨b, off, rfl, hb, c0, c1, c2, c3, c4⟩ := crAt hr hc
  obtain ⟨l0, l1, l2, l3, l4⟩ := lts hb
  have hkk : k = 0 ∨ k = 1 ∨ k = 2 ∨ k = 3 := by omega
  clear hr c0 c1 c2 c3
  unfold Ui
  generalize ga d.crs c = x at *
  obtain ⟨xa, xb, xc, xd, xp⟩ := x
  dsimp only at c4
  rcases hkk with rfl | rfl | rfl | rfl
  all_goals
    cases xp
    all_goals
      go_enter Try.func120, Try.ntmps120
      go_wp2_with fail
      go_ret
      exact ⟨rfl, ((Kp.refl _).alloc _).alloc _⟩
def endP (d : Dg) (a : Int) (back : Bool) (j : Nat) : Bool := decide (Uu d (j / 4) (j % 4) = a) && (Ui d (j / 4) (j % 4) != back)
def Un (d : Dg) (a : Int) (back : Bool) : Nat × Nat :=
  match (List.range (4 * d.crs.length)).find? (endP d a back) with
  | some j => (j / 4, j % 4)
  | none => (0, 0)
theorem endOf_hit {d : Dg} {a : Int} {back : Bool} {j : Nat} (hj : j < 4 * d.crs.length) (h : endP d a back j = true) (h0 : ∀ i, i < j → endP d a back i = false) : Un d a back = (j / 4, j % 4) := by
  have : (List.range (4 * d.crs.length)).find? (endP d a back) = some j := by
    rw [List.find?_range_eq_some]
    exact ⟨h, by simpa using hj, fun i hi => by simp [h0 i hi]⟩
  unfold Un
  rw [this]
theorem endOf_miss {d : Dg} {a : Int} {back : Bool} (h0 : ∀ i, i < 4 * d.crs.length → endP d a back i = false) : Un d a back = (0, 0) := by
  have : (List.range (4 * d.crs.length)).find? (endP d a back) = none := by
    rw [List.find?_eq_none]
    intro i hi
    simp [h0 i (by simpa using hi)]
  unfold Un
  rw [this]
theorem endP_at {d : Dg} {a : Int} {back : Bool} {i k : Nat} (hk : k < 4) : endP d a back (4 * i + k) = (decide (Uu d i k = a) && (Ui d i k != back)) := by
  unfold endP
  rw [show (4 * i + k) / 4 = i by omega, show (4 * i + k) % 4 = k by omega]
end Go.Proofs.Ytkcighnochjlgaa
namespace Go.Proofs.Ytkcighnochjlgaa
open Go.ChangeShapes Go.WideShapes Go.ChangeAt Go.RowKit
def cdCr : Cd Cr := ⟨crF, 5, 40, 111, ⟨0, 0, 0, 0, false⟩, fun _ => rfl, by
  intro x u hu
  simp [crF] at hu
  rcases hu with rfl | rfl | rfl | rfl | rfl <;> rfl⟩
end Go.Proofs.Ytkcighnochjlgaa
namespace Go.Proofs.Ytkcighnochjlgaa
open Go.ChangeShapes Go.WideShapes Go.ChangeAt Go.RowKit
theorem slCr : SlT Try.prog 49 111 5 40 (.agg #[.int .i64 0, .int .i64 0, .int .i64 0, .int .i64 0, .bool false]) := ⟨uT49, by kernel_rfl, rfl, by omega, by omega⟩
theorem cr_one (xs : List Cr) : ∀ u ∈ xs.flatMap codCr.f, u.oneCell' = true := by
  intro u hu
  obtain ⟨x, _, hx⟩ := List.mem_flatMap.1 hu
  simp [codCr, crF] at hx
  rcases hx with rfl | rfl | rfl | rfl | rfl <;> rfl
end Go.Proofs.Ytkcighnochjlgaa
namespace Go.Proofs.Ytkcighnochjlgaa
open Go.ChangeShapes Go.WideShapes Go.ChangeAt Go.RowKit
def cntP (d : Dg) (a : Int) (back : Bool) (j : Nat) : Nat := (List.range j).countP (endP d a back)
theorem U22 (d : Dg) (a : Int) (back : Bool) (j : Nat) : cntP d a back (j + 1) = cntP d a back j + if endP d a back j = true then 1 else 0 := by
  unfold cntP
  rw [List.range_succ, List.countP_append, List.countP_singleton]
theorem cntP_le (d : Dg) (a : Int) (back : Bool) (j : Nat) : cntP d a back j ≤ j := by
  unfold cntP
  have := List.countP_le_length (p := endP d a back) (l := List.range j)
  simpa using this
theorem cntP_at {d : Dg} {a : Int} {back : Bool} {i k : Nat} (hk : k < 4) :
    cntP d a back (4 * i + (k + 1)) = cntP d a back (4 * i + k) + if Uu d i k = a ∧ Ui d i k ≠ back then 1 else 0 := by
  rw [← Nat.add_assoc, U22, endP_at hk]
  simp
def arcOk (d : Dg) (a : Int) : Bool := cntP d a false (4 * d.crs.length) == 1 && cntP d a true (4 * d.crs.length) == 1
def mayB (d : Dg) : Bool := decide (d.crs.length ≤ 16 ∧ 0 ≤ d.loops ∧ d.loops ≤ 16 ∧ ¬ (d.crs.length = 0 ∧ d.loops = 0)) && (List.range (2 * d.crs.length)).all fun a => arcOk d ((a + 1 : Nat) : Int)
theorem mayB_size {d : Dg} (h : ¬ (d.crs.length ≤ 16 ∧ 0 ≤ d.loops ∧ d.loops ≤ 16 ∧ ¬ (d.crs.length = 0 ∧ d.loops = 0))) : mayB d = false := by
  unfold mayB; rw [decide_eq_false h]; rfl
theorem mayB_arc {d : Dg} {a : Nat} (h0 : 1 ≤ a) (h1 : a ≤ 2 * d.crs.length) (h : arcOk d a = false) : mayB d = false := by
  unfold mayB
  rw [Bool.and_eq_false_iff]
  refine .inr (List.all_eq_false.2 ⟨a - 1, by simp; omega, ?_⟩)
  rw [show a - 1 + 1 = a by omega, h]; simp
theorem mayB_yes {d : Dg} (h : d.crs.length ≤ 16 ∧ 0 ≤ d.loops ∧ d.loops ≤ 16 ∧ ¬ (d.crs.length = 0 ∧ d.loops = 0)) (h2 : ∀ a : Nat, 1 ≤ a → a ≤ 2 * d.crs.length → arcOk d a = true) : mayB d = true := by
  unfold mayB
  rw [decide_eq_true h, Bool.true_and]
  refine List.all_eq_true.2 fun a ha => h2 (a + 1) (by omega) ?_
  simp at ha
  omega
set_option maxHeartbeats 2000000 in
theorem diagramMay_size (v : Value) (d : Dg) (w : World) (hd : IsDg w w.heap.size v d) (h : ¬ (d.crs.length ≤ 16 ∧ 0 ≤ d.loops ∧ d.loops ≤ 16 ∧ ¬ (d.crs.length = 0 ∧ d.loops = 0))) :
    Calls Try.prog 85 #[v] w (BoPost false w) := by
  obtain ⟨A, cap, rfl, hcap, hr⟩ := hd
  have hrm : d.crs.length * 40 ≤ 140737488355328 := hr.room
  clear hr
  obtain ⟨cs, loops⟩ := d
  dsimp only at *
  generalize cs.length = n at *
  by_cases h1 : 16 < n
  · go_enter Try.func85, Try.ntmps85
    go_wp2_with fail
    go_ret
    exact ⟨rfl, (Kp.refl _).alloc _⟩
  · by_cases h2 : loops < 0
    · go_enter Try.func85, Try.ntmps85
      go_wp2_with fail
      go_ret
      exact ⟨rfl, (Kp.refl _).alloc _⟩
    · by_cases h3 : 16 < loops
      · go_enter Try.func85, Try.ntmps85
        go_wp2_with fail
        go_ret
        exact ⟨rfl, (Kp.refl _).alloc _⟩
      · obtain ⟨rfl, rfl⟩ : n = 0 ∧ loops = 0 := by omega
        go_enter Try.func85, Try.ntmps85
        go_wp2_with fail
        go_ret
        exact ⟨rfl, (Kp.refl _).alloc _⟩
set_option maxHeartbeats 4000000 in
theorem diagramMay_arcs (v : Value) (d : Dg) (w : World) (hd : IsDg w w.heap.size v d) (h : d.crs.length ≤ 16 ∧ 0 ≤ d.loops ∧ d.loops ≤ 16 ∧ ¬ (d.crs.length = 0 ∧ d.loops = 0)) :
    Calls Try.prog 85 #[v] w (BoPost (mayB d) w) := by
  obtain ⟨A, cap, rfl, hcap, hr⟩ := hd
  have hd : ∀ w', Kp w w' → IsDg w' w'.heap.size (.agg #[.slice A d.crs.length cap, .int .i64 d.loops]) d := fun w' hk => ⟨A, cap, rfl, hcap, hr.kp hk⟩
  have HD := Lib.hid hd
  clear hd hr
  have Hsz := Lib.hid h
  obtain ⟨h1, h2, h3, h4⟩ := h
  have hq : ¬ (d.crs.length = 0 ∧ d.loops = 0) → (((d.crs.length : Int) == 0 : Bool) = false) ∨ ((((d.crs.length : Int) == 0) : Bool) = true ∧ ((d.loops == 0) : Bool) = false) := by
    intro h
    by_cases h0 : d.crs.length = 0
    · exact .inr ⟨by rw [beq_iff_eq]; omega, by rw [beq_eq_false_iff_ne]; omega⟩
    · exact .inl (by rw [beq_eq_false_iff_ne]; omega)
  have hq' := hq h4
  clear hq h4
  go_enter Try.func85, Try.ntmps85
  go_upto_region 2 with (fail)
  go_cut [33] (fun c wx => c = .bool false ∧ wx = w.alloc (.cells #[.slice A d.crs.length cap, .int .i64 d.loops] 51))
  case first =>
    rcases hq' with hq' | ⟨hq', hq''⟩
    · go_wp2_with fail
      go_meet
      case rel => exact ⟨congrArg Value.bool (by simp; omega), rfl⟩
    · go_wp2_with fail
      go_meet
      case rel => exact ⟨congrArg Value.bool (by simp; omega), rfl⟩
  case rest =>
    obtain ⟨rfl, rfl⟩ := hcut
    clear hq'
    go_wp2_with fail
    go_loopw [4] (fun i wr => ∃ a : Nat, 1 ≤ a ∧ a ≤ 2 * d.crs.length + 1 ∧ i = .int .i64 a ∧ Hid (∀ a' : Nat, 1 ≤ a' → a' < a → arcOk d a' = true) ∧ Kp w wr ∧
      Blk wr w.heap.size 51 #[.slice A d.crs.length cap, .int .i64 d.loops]) (fun i _ => 2 * d.crs.length + 1 - (intOf i).toNat)
    case atStart => exact ⟨1, by omega, by omega, rfl, fun a h1 h2 => by omega, (Kp.refl _).alloc _, Blk.new _ _ _⟩
    case round =>
      obtain ⟨a, ha0, ha1, rfl, hok, hk, hB⟩ := hrel
      by_cases hlt : a ≤ 2 * d.crs.length
      · obtain ⟨wo, rfl⟩ : ∃ wo : World, wo = wr := ⟨_, rfl⟩
        have ta : decide ((a : Int) ≤ 2 * (d.crs.length : Int)) = true := by simp; omega
        go_wp2_with fail
        go_loopw [5, 6, 7] (fun ci co i wr => ∃ n : Nat, n ≤ d.crs.length ∧ i = .int .i64 n ∧ ci = .int .i64 (cntP d a false (4 * n)) ∧ co = .int .i64 (cntP d a true (4 * n)) ∧ Kp w wr ∧
          Blk wr w.heap.size 51 #[.slice A d.crs.length cap, .int .i64 d.loops]) (fun _ _ i _ => d.crs.length - (intOf i).toNat)
        case atStart => exact ⟨0, Nat.zero_le _, rfl, rfl, rfl, hk, hB⟩
        case round =>
          clear hk hB
          obtain ⟨n, hn, rfl, rfl, rfl, hk, hB⟩ := hrel
          by_cases hlt2 : n < d.crs.length
          · clear wo
            obtain ⟨wo, rfl⟩ : ∃ wo : World, wo = wr := ⟨_, rfl⟩
            have cl1 := cntP_le d a false (4 * n)
            have cl2 := cntP_le d a true (4 * n)
            go_wp2_with fail
            go_loopw [5, 6, 8] (fun ci co i wr => ∃ m : Nat, m ≤ 4 ∧ i = .int .i64 m ∧ ci = .int .i64 (cntP d a false (4 * n + m)) ∧ co = .int .i64 (cntP d a true (4 * n + m)) ∧ Kp w wr ∧
              Blk wr w.heap.size 51 #[.slice A d.crs.length cap, .int .i64 d.loops]) (fun _ _ i _ => 4 - (intOf i).toNat)
            case atStart => exact ⟨0, Nat.zero_le _, rfl, rfl, rfl, hk, hB⟩
            case round =>
              clear hk hB cl1 cl2
              obtain ⟨m, hm, rfl, rfl, rfl, hk, hB⟩ := hrel
              obtain ⟨e0, e1, e2, e3⟩ := hB.two
              obtain ⟨s00, s01, s02, s03, s04⟩ := lts hB.lt
              by_cases hm4 : m < 4
              · have c1 := cntP_at (d := d) (a := a) (back := false) (i := n) hm4
                have c2 := cntP_at (d := d) (a := a) (back := true) (i := n) hm4
                have cl1 := cntP_le d a false (4 * n + m)
                have cl2 := cntP_le d a true (4 * n + m)
                by_cases ha : Uu d n m = (a : Int)
                · have t1 : ((Uu d n m == (a : Int)) : Bool) = true := by rw [beq_iff_eq]; exact ha
                  have s4 : 4 * n + m < 64 := by omega
                  cases he : Ui d n m
                  · rw [if_neg (by simp [he])] at c1
                    rw [if_pos (by simp [ha, he])] at c2
                    have c1' := Lib.hid c1
                    have c2' := Lib.hid c2
                    have he' := Lib.hid he
                    clear c1 c2 ha he
                    go_wp2_with fail
                    refine (U2e _ d n m _ (HD.out _ (hk.alloc _)) hlt2 hm4).mono ?_; rintro e w1 ⟨rfl, hk1⟩
                    obtain ⟨cc, cf⟩ := hk1.cf (n := wr.heap.size + 1) (by simp)
                    go_wp2_with fail
                    refine (entry_any _ d n m _ (HD.out _ ((hk.alloc _).trans hk1)) hlt2 hm4).mono ?_; rintro e w2 ⟨rfl, hk2⟩
                    obtain ⟨c2, f2⟩ := (hk1.trans hk2).cf (n := wr.heap.size + 1) (by simp)
                    clear cc cf
                    rw [he'.out]
                    go_wp2_with fail
                    refine (U2e _ d n m _ (HD.out _ (((hk.alloc _).trans hk1).trans hk2)) hlt2 hm4).mono ?_; rintro e w3 ⟨rfl, hk3⟩
                    obtain ⟨c3, f3⟩ := ((hk1.trans hk2).trans hk3).cf (n := wr.heap.size + 1) (by simp)
                    clear c2 f2
                    go_wp2_with fail
                    refine (entry_any _ d n m _ (HD.out _ ((((hk.alloc _).trans hk1).trans hk2).trans hk3)) hlt2 hm4).mono ?_; rintro e w4 ⟨rfl, hk4⟩
                    rw [he'.out]
                    go_wp2_with fail
                    go_roundw
                    case rel => exact ⟨m + 1, by omega, by go_num, by rw [c1'.out]; rfl, by rw [c2'.out]; go_num, (((hk.alloc _).trans hk1).trans hk2).trans (hk3.trans hk4), (((hB.alloc _).kp hk1).kp hk2).kp (hk3.trans hk4)⟩
                    case measure => simp [intOf] <;> omega
                  · rw [if_pos (by simp [ha, he])] at c1
                    rw [if_neg (by simp [he])] at c2
                    have c1' := Lib.hid c1
                    have c2' := Lib.hid c2
                    have he' := Lib.hid he
                    clear c1 c2 ha he
                    go_wp2_with fail
                    refine (U2e _ d n m _ (HD.out _ (hk.alloc _)) hlt2 hm4).mono ?_; rintro e w1 ⟨rfl, hk1⟩
                    obtain ⟨cc, cf⟩ := hk1.cf (n := wr.heap.size + 1) (by simp)
                    go_wp2_with fail
                    refine (entry_any _ d n m _ (HD.out _ ((hk.alloc _).trans hk1)) hlt2 hm4).mono ?_; rintro e w2 ⟨rfl, hk2⟩
                    obtain ⟨c2, f2⟩ := (hk1.trans hk2).cf (n := wr.heap.size + 1) (by simp)
                    clear cc cf
                    rw [he'.out]
                    go_wp2_with fail
                    refine (U2e _ d n m _ (HD.out _ (((hk.alloc _).trans hk1).trans hk2)) hlt2 hm4).mono ?_; rintro e w3 ⟨rfl, hk3⟩
                    obtain ⟨c3, f3⟩ := ((hk1.trans hk2).trans hk3).cf (n := wr.heap.size + 1) (by simp)
                    clear c2 f2
                    go_wp2_with fail
                    refine (entry_any _ d n m _ (HD.out _ ((((hk.alloc _).trans hk1).trans hk2).trans hk3)) hlt2 hm4).mono ?_; rintro e w4 ⟨rfl, hk4⟩
                    rw [he'.out]
                    go_wp2_with fail
                    go_roundw
                    case rel => exact ⟨m + 1, by omega, by go_num, by rw [c1'.out]; go_num, by rw [c2'.out]; rfl, (((hk.alloc _).trans hk1).trans hk2).trans (hk3.trans hk4), (((hB.alloc _).kp hk1).kp hk2).kp (hk3.trans hk4)⟩
                    case measure => simp [intOf] <;> omega
                · have t1 : ((Uu d n m == (a : Int)) : Bool) = false := by rw [beq_eq_false_iff_ne]; exact ha
                  rw [if_neg (by simp [ha])] at c1 c2
                  have c1' := Lib.hid c1
                  have c2' := Lib.hid c2
                  clear c1 c2 ha
                  go_wp2_with fail
                  refine (U2e _ d n m _ (HD.out _ (hk.alloc _)) hlt2 hm4).mono ?_; rintro e w1 ⟨rfl, hk1⟩
                  obtain ⟨cc, cf⟩ := hk1.cf (n := wr.heap.size + 1) (by simp)
                  go_wp2_with fail
                  refine (U2e _ d n m _ (HD.out _ ((hk.alloc _).trans hk1)) hlt2 hm4).mono ?_; rintro e w2 ⟨rfl, hk2⟩
                  go_wp2_with fail
                  go_roundw
                  case rel => exact ⟨m + 1, by omega, by go_num, by rw [c1'.out]; rfl, by rw [c2'.out]; rfl, ((hk.alloc _).trans hk1).trans hk2, ((hB.alloc _).kp hk1).kp hk2⟩
                  case measure => simp [intOf] <;> omega
              · obtain rfl : m = 4 := by omega
                go_wp2_with fail
                go_roundw
                case rel => exact ⟨n + 1, by omega, by go_num, rfl, rfl, hk, hB⟩
                case measure => simp [intOf] <;> omega
          · obtain rfl : n = d.crs.length := by omega
            by_cases hin : cntP d a false (4 * d.crs.length) = 1
            · have i1 : ((((cntP d a false (4 * d.crs.length) : Nat) : Int) != 1) : Bool) = false := by simp only [bne_eq_false_iff_eq]; omega
              by_cases hout : cntP d a true (4 * d.crs.length) = 1
              · have i2 : ((((cntP d a true (4 * d.crs.length) : Nat) : Int) != 1) : Bool) = false := by simp only [bne_eq_false_iff_eq]; omega
                have hao : Hid (arcOk d a = true) := by rw [Hid]; unfold arcOk; rw [hin, hout]; rfl
                clear hin hout
                go_wp2_with fail
                go_roundw
                case rel => exact ⟨a + 1, by omega, by omega, by go_num, fun a' h1 h2 => by
                  rcases Nat.lt_or_ge a' a with h | h
                  · exact hok.out a' h1 h
                  · obtain rfl : a' = a := by omega
                    exact hao.out, hk, hB⟩
                case measure => simp [intOf] <;> omega
              · have i2 : ((((cntP d a true (4 * d.crs.length) : Nat) : Int) != 1) : Bool) = true := by simp only [bne_iff_ne, ne_eq]; omega
                have hao : Hid (mayB d = false) := mayB_arc ha0 hlt (by unfold arcOk; rw [hin]; simp [hout])
                clear hin hout
                go_wp2_with fail
                go_ret
                exact ⟨by rw [hao.out]; rfl, hk⟩
            · have i1 : ((((cntP d a false (4 * d.crs.length) : Nat) : Int) != 1) : Bool) = true := by simp only [bne_iff_ne, ne_eq]; omega
              have hao : Hid (mayB d = false) := mayB_arc ha0 hlt (by unfold arcOk; simp [hin])
              clear hin
              go_wp2_with fail
              go_ret
              exact ⟨by rw [hao.out]; rfl, hk⟩
      · have hao : Hid (mayB d = true) := mayB_yes Hsz.out fun a' h1 h2 => hok.out a' h1 (by omega)
        go_wp2_with fail
        go_ret
        exact ⟨by rw [hao.out]; rfl, hk⟩
theorem diagramMay_any (v : Value) (d : Dg) (w : World) (hd : IsDg w w.heap.size v d) : Calls Try.prog 85 #[v] w (BoPost (mayB d) w) := by
  by_cases h : d.crs.length ≤ 16 ∧ 0 ≤ d.loops ∧ d.loops ≤ 16 ∧ ¬ (d.crs.length = 0 ∧ d.loops = 0)
  · exact diagramMay_arcs v d w hd h
  · rw [mayB_size h]; exact diagramMay_size v d w hd h
end Go.Proofs.Ytkcighnochjlgaa
namespace Go.Proofs.Ytkcighnochjlgaa
open Go.ChangeShapes Go.WideShapes Go.ChangeAt Go.RowKit
def lastP (d : Dg) (a : Int) (back : Bool) : Nat → Nat × Nat
  | 0 => (0, 0)
  | J + 1 => if endP d a back J = true then (J / 4, J % 4) else lastP d a back J
theorem cntP_zero {d : Dg} {a : Int} {back : Bool} {J : Nat} (h : cntP d a back J = 0) : ∀ j, j < J → endP d a back j = false := by
  intro j hj
  unfold cntP at h
  rw [List.countP_eq_zero] at h
  have := h j (by simpa using hj)
  simpa using this
theorem cntP_one {d : Dg} {a : Int} {back : Bool} {J : Nat} (h : cntP d a back J = 1) :
    ∃ j, j < J ∧ endP d a back j = true ∧ (∀ i, i < J → endP d a back i = true → i = j) ∧ lastP d a back J = (j / 4, j % 4) := by
  induction J with
  | zero => simp [cntP] at h
  | succ J ih =>
    rw [U22] at h
    by_cases hJ : endP d a back J = true
    · rw [if_pos hJ] at h
      have h0 := cntP_zero (show cntP d a back J = 0 by omega)
      refine ⟨J, by omega, hJ, fun i hi hi' => ?_, by unfold lastP; rw [if_pos hJ]⟩
      rcases Nat.lt_or_ge i J with h1 | h1
      · rw [h0 i h1] at hi'; cases hi'
      · omega
    · rw [if_neg hJ] at h
      obtain ⟨j, h1, h2, h3, h4⟩ := ih (by omega)
      refine ⟨j, by omega, h2, fun i hi hi' => ?_, by unfold lastP; rw [if_neg hJ]; exact h4⟩
      rcases Nat.lt_or_ge i J with h5 | h5
      · exact h3 i h5 hi'
      · obtain rfl : i = J := by omega
        exact absurd hi' hJ
theorem lastP_end {d : Dg} {a : Int} {back : Bool} (h : cntP d a back (4 * d.crs.length) = 1) : lastP d a back (4 * d.crs.length) = Un d a back := by
  obtain ⟨j, h1, h2, h3, h4⟩ := cntP_one h
  rw [h4, endOf_hit h1 h2 fun i hi => by
    cases hq : endP d a back i
    · rfl
    · have := h3 i (by omega) hq
      omega]
def arcJ (d : Dg) (j : Nat) : Int := Uu d (j / 4) (j % 4)
def hitsM (d : Dg) (m J : Nat) : Nat := (List.range J).countP fun j => decide (1 ≤ arcJ d j ∧ arcJ d j ≤ (m : Int))
theorem hitsM_succ (d : Dg) (m J : Nat) : hitsM d (m + 1) J = hitsM d m J + (cntP d ((m + 1 : Nat) : Int) false J + cntP d ((m + 1 : Nat) : Int) true J) := by
  induction J with
  | zero => simp [hitsM, cntP]
  | succ J ih =>
    have e : ∀ m, hitsM d m (J + 1) = hitsM d m J + if 1 ≤ arcJ d J ∧ arcJ d J ≤ (m : Int) then 1 else 0 := by
      intro m
      unfold hitsM
      rw [List.range_succ, List.countP_append, List.countP_singleton]
      simp
    rw [e, e, ih, U22, U22]
    unfold endP
    change _ + (if 1 ≤ arcJ d J ∧ arcJ d J ≤ ((m + 1 : Nat) : Int) then 1 else 0) = _
    have h1 : Uu d (J / 4) (J % 4) = arcJ d J := rfl
    rw [h1]
    by_cases hm : arcJ d J = ((m + 1 : Nat) : Int)
    · rw [if_pos (by omega), if_neg (by omega)]
      cases Ui d (J / 4) (J % 4) <;> simp [hm] <;> omega
    · have e2 : decide (arcJ d J = ((m + 1 : Nat) : Int)) = false := by simpa using hm
      rw [e2]
      simp only [Bool.false_and, Bool.false_eq_true, if_false]
      by_cases h2 : 1 ≤ arcJ d J ∧ arcJ d J ≤ (m : Int)
      · rw [if_pos (by omega), if_pos h2]; omega
      · rw [if_neg (by omega), if_neg h2]; omega
theorem hitsM_all {d : Dg} {m : Nat} (h : ∀ a : Nat, 1 ≤ a → a ≤ m → cntP d a false (4 * d.crs.length) = 1 ∧ cntP d a true (4 * d.crs.length) = 1) : hitsM d m (4 * d.crs.length) = 2 * m := by
  induction m with
  | zero =>
    unfold hitsM
    rw [List.countP_eq_zero.2 (by intro j _; simp; omega)]
  | succ m ih =>
    rw [hitsM_succ, ih fun a h0 h1 => h a h0 (by omega)]
    have := h (m + 1) (by omega) (by omega)
    omega
def Ue (d : Dg) : Bool := (List.range (2 * d.crs.length)).all fun a => arcOk d ((a + 1 : Nat) : Int)
theorem mayB_arcs (d : Dg) : mayB d = (decide (d.crs.length ≤ 16 ∧ 0 ≤ d.loops ∧ d.loops ≤ 16 ∧ ¬ (d.crs.length = 0 ∧ d.loops = 0)) && Ue d) := rfl
theorem arcsB_out {d : Dg} (h : Ue d = true) (a : Nat) (h0 : 1 ≤ a) (h1 : a ≤ 2 * d.crs.length) : cntP d a false (4 * d.crs.length) = 1 ∧ cntP d a true (4 * d.crs.length) = 1 := by
  have := List.all_eq_true.1 h (a - 1) (by simp; omega)
  rw [show a - 1 + 1 = a by omega] at this
  unfold arcOk at this
  simpa using this
theorem arcsB_no {d : Dg} {a : Nat} (h0 : 1 ≤ a) (h1 : a ≤ 2 * d.crs.length) (h : arcOk d a = false) : Ue d = false := by
  refine List.all_eq_false.2 ⟨a - 1, by simp; omega, ?_⟩
  rw [show a - 1 + 1 = a by omega, h]; simp
theorem arcsB_yes {d : Dg} (h2 : ∀ a : Nat, 1 ≤ a → a ≤ 2 * d.crs.length → arcOk d a = true) : Ue d = true := by
  refine List.all_eq_true.2 fun a ha => h2 (a + 1) (by omega) ?_
  simp at ha
  omega
theorem arcs_rng {d : Dg} (h : Ue d = true) {j : Nat} (hj : j < 4 * d.crs.length) : 1 ≤ arcJ d j ∧ arcJ d j ≤ 2 * (d.crs.length : Int) := by
  have h1 := hitsM_all (m := 2 * d.crs.length) (arcsB_out h)
  unfold hitsM at h1
  have h2 : (List.range (4 * d.crs.length)).countP (fun j => decide (1 ≤ arcJ d j ∧ arcJ d j ≤ ((2 * d.crs.length : Nat) : Int))) = (List.range (4 * d.crs.length)).length := by rw [h1]; simp; omega
  rw [List.countP_eq_length] at h2
  have := h2 j (by simpa using hj)
  rw [decide_eq_true_iff] at this
  omega
theorem arcs_not {d : Dg} {j : Nat} (hj : j < 4 * d.crs.length) (h : ¬ (1 ≤ arcJ d j ∧ arcJ d j ≤ 2 * (d.crs.length : Int))) : Ue d = false := by
  cases hm : Ue d
  · rfl
  · exact absurd (arcs_rng hm hj) h
set_option maxRecDepth 100000 in
set_option maxHeartbeats 1000000 in
theorem arc_any (x : Cr) (k : Nat) (w : World) (hk : k < 4) : Calls Try.prog 126 #[crV x, .int .i64 k] w (IntPost (crArc x k) w) := by
  have hkk : k = 0 ∨ k = 1 ∨ k = 2 ∨ k = 3 := by omega
  unfold crV
  obtain ⟨a, b, c, d, p⟩ := x
  have i0 : ∀ w, (Instr.index 200 (.agg #[.int .i64 a, .int .i64 b, .int .i64 c, .int .i64 d]) (.int .i64 0)).run Try.prog w = .ok (.int .i64 a) w := fun _ => by kernel_rfl
  have i1 : ∀ w, (Instr.index 200 (.agg #[.int .i64 a, .int .i64 b, .int .i64 c, .int .i64 d]) (.int .i64 1)).run Try.prog w = .ok (.int .i64 b) w := fun _ => by kernel_rfl
  have i2 : ∀ w, (Instr.index 200 (.agg #[.int .i64 a, .int .i64 b, .int .i64 c, .int .i64 d]) (.int .i64 2)).run Try.prog w = .ok (.int .i64 c) w := fun _ => by kernel_rfl
  have i3 : ∀ w, (Instr.index 200 (.agg #[.int .i64 a, .int .i64 b, .int .i64 c, .int .i64 d]) (.int .i64 3)).run Try.prog w = .ok (.int .i64 d) w := fun _ => by kernel_rfl
  rcases hkk with rfl | rfl | rfl | rfl
  all_goals
    go_enter Try.func126, Try.ntmps126
    go_wp2_with fail
    go_ret
    exact ⟨rfl, (Kp.refl _).alloc _⟩
def overIn (x : Cr) : Nat := if x.plus = true then 3 else 1
set_option maxHeartbeats 1000000 in
theorem overIn_any (x : Cr) (w : World) : Calls Try.prog 151 #[crV x] w (IntPost (overIn x) w) := by
  obtain ⟨a, b, c, d, p⟩ := x
  unfold crV overIn
  cases p
  all_goals
    go_enter Try.func151, Try.ntmps151
    go_wp2_with fail
    go_ret
    exact ⟨rfl, (Kp.refl _).alloc _⟩
set_option maxHeartbeats 1000000 in
theorem comes_any (x : Cr) (k : Nat) (w : World) (hk : k < 4) : Calls Try.prog 159 #[crV x, .int .i64 k] w (BoPost (crIn x k) w) := by
  have hkk : k = 0 ∨ k = 1 ∨ k = 2 ∨ k = 3 := by omega
  have ho := Lib.hid fun w' => overIn_any x w'
  obtain ⟨a, b, c, d, p⟩ := x
  unfold crV overIn at *
  rcases hkk with rfl | rfl | rfl | rfl
  · go_enter Try.func159, Try.ntmps159
    go_wp2_with fail
    go_ret
    exact ⟨rfl, (Kp.refl _).alloc _⟩
  all_goals
    cases p
    all_goals
      go_enter Try.func159, Try.ntmps159
      go_wp2_with fail
      refine (ho.out _).mono ?_; rintro e w1 ⟨rfl, hk1⟩
      go_wp2_with fail
      go_ret
      exact ⟨rfl, Kp.trans ((Kp.refl _).alloc _) hk1⟩
end Go.Proofs.Ytkcighnochjlgaa
namespace Go.Proofs.Ytkcighnochjlgaa
open Go.ChangeShapes Go.WideShapes Go.ChangeAt Go.RowKit
def CrsPost (base : Nat) (xs : List Cr) (w : World) (e : Ending) (w' : World) : Prop := ∃ A c, e = .returned (.slice A xs.length c) ∧ Ow codCr 111 w' base (.slice A xs.length c) xs ∧ Kp w w'
set_option maxHeartbeats 1000000 in
theorem cloneCrs (A : Option Addr) (c : Nat) (xs : List Cr) (w : World) (hr : Rd codCr w w.heap.size A xs) :
    Calls Try.prog 123 #[.slice A xs.length c] w (CrsPost w.heap.size xs w) := by
  have hnl := fun (w : World) (a : Option Addr) (n c : Nat) => Lib.run_eql_slice_nil (P := Try.prog) w 49 111 a n c 0 0 uT49
  cases A with
  | none =>
    have h0 : xs.length = 0 := by
      rcases Nat.eq_zero_or_pos xs.length with h | h
      · exact h
      · obtain ⟨b, off, h, _⟩ := Sl.at_ hr h
        cases h
    have hx : xs = [] := List.eq_nil_of_length_eq_zero h0
    subst hx
    go_enter Try.func123, Try.ntmps123
    go_wp2_with fail
    go_ret
    exact ⟨none, 0, rfl, Ow.nil_, Kp.refl _⟩
  | some ad =>
    go_enter Try.func123, Try.ntmps123
    go_wp2_with (at_builtin; refine wp_appendSl slCr rfl _ _ rfl (World.ownsRow_made w #[] 0 (Nat.le_refl _) (by unfold maxLen; omega) rfl) rfl rfl (Rd.kp hr ((Kp.refl _).alloc _)) (cr_one xs) (by rw [Nat.zero_add]; exact hr.room) (by simp) ?_; intro v' w1 ho hg _)
    go_ret
    have ho' : Ow codCr 111 w1 w.heap.size v' xs := by
      unfold Ow
      rw [Nat.zero_add, List.nil_append] at ho
      exact ho
    obtain ⟨A', c', rfl, _⟩ := ho'.sl
    exact ⟨A', c', rfl, ho', ((Kp.refl w).alloc _).grown hg (fun k hk => by simp [Value.ownBlock] at hk; omega)⟩
def plF (x : Nat × Nat) : List Value := [.int .i64 x.1, .int .i64 x.2]
def codPl : Cod (Nat × Nat) := ⟨plF, 2, 16, fun _ => rfl⟩
def tabL (d : Dg) (back : Bool) (J : Nat) : List (Nat × Nat) := (List.range (2 * d.crs.length + 1)).map fun a : Nat => lastP d (a : Int) back J
def cntL (d : Dg) (back : Bool) (J : Nat) : List Int := (List.range (2 * d.crs.length + 1)).map fun a : Nat => ((cntP d (a : Int) back J : Nat) : Int)
theorem lastP_succ (d : Dg) (a : Int) (back : Bool) (J : Nat) : lastP d a back (J + 1) = if endP d a back J = true then (J / 4, J % 4) else lastP d a back J := rfl
theorem Uo (d : Dg) (back : Bool) (J : Nat) : (tabL d back J).length = 2 * d.crs.length + 1 := by simp [tabL]
theorem U17 (d : Dg) (back : Bool) (J : Nat) : (cntL d back J).length = 2 * d.crs.length + 1 := by simp [cntL]
theorem U1r {d : Dg} {back : Bool} {J a : Nat} (h : a < 2 * d.crs.length + 1) : ga (tabL d back J) a = lastP d (a : Int) back J := by
  rw [U14 (by rw [Uo]; exact h)]; simp [tabL]
theorem U18 {d : Dg} {back : Bool} {J a : Nat} (h : a < 2 * d.crs.length + 1) : gi (cntL d back J) a = (cntP d (a : Int) back J : Nat) := by
  rw [gi_eq (by rw [U17]; exact h)]; simp [cntL]
theorem tabL_zero (d : Dg) (back : Bool) : tabL d back 0 = List.replicate (2 * d.crs.length + 1) (0, 0) := by
  simp only [tabL, lastP, List.map_const', List.length_range]
theorem cntL_zero (d : Dg) (back : Bool) : cntL d back 0 = List.replicate (2 * d.crs.length + 1) 0 := by
  simp [cntL, cntP, List.map_const']
theorem endP_arc {d : Dg} {a J : Nat} {back : Bool} (h : arcJ d J = a) (a' : Nat) : endP d (a' : Int) back J = (decide (a' = a) && (Ui d (J / 4) (J % 4) != back)) := by
  unfold endP
  have h1 : Uu d (J / 4) (J % 4) = (a : Int) := h
  rw [h1]
  congr 1
  simp only [decide_eq_decide]
  omega
theorem tabL_hit {d : Dg} {back : Bool} {J a : Nat} (h : arcJ d J = a) (he : Ui d (J / 4) (J % 4) ≠ back) : tabL d back (J + 1) = (tabL d back J).set a (J / 4, J % 4) := by
  apply ga_ext
  · rw [List.length_set, Uo, Uo]
  · intro i hi
    rw [Uo] at hi
    have e := endP_arc (back := back) h i
    by_cases ha : a < (tabL d back J).length
    · rw [U3 _ _ _ _ ha, U1r hi, U1r hi, lastP_succ, e]
      by_cases hi' : a = i
      · subst hi'; simp [he]
      · have : ¬ i = a := fun h => hi' h.symm
        simp [hi', this]
    · rw [List.set_eq_of_length_le (by omega), U1r hi, U1r hi]
      rw [Uo] at ha
      rw [lastP_succ, e]
      have : ¬ i = a := by omega
      simp [this]
theorem tabL_miss {d : Dg} {back : Bool} {J : Nat} (he : Ui d (J / 4) (J % 4) = back) : tabL d back (J + 1) = tabL d back J := by
  apply ga_ext
  · rw [Uo, Uo]
  · intro i hi
    rw [Uo] at hi
    rw [U1r hi, U1r hi, lastP_succ]
    unfold endP
    simp [he]
theorem cntL_hit {d : Dg} {back : Bool} {J a : Nat} (h : arcJ d J = a) (he : Ui d (J / 4) (J % 4) ≠ back) : cntL d back (J + 1) = (cntL d back J).set a (gi (cntL d back J) a + 1) := by
  apply gi_ext
  · rw [List.length_set, U17, U17]
  · intro i hi
    rw [U17] at hi
    have e := endP_arc (back := back) h i
    by_cases ha : a < (cntL d back J).length
    · rw [gi_set _ _ _ _ ha, U18 hi, U18 hi, U22, e]
      by_cases hi' : a = i
      · subst hi'; rw [U18 hi]; simp [he]
      · have : ¬ i = a := fun h => hi' h.symm
        simp [hi', this]
    · rw [List.set_eq_of_length_le (by omega), U18 hi, U18 hi, U22, e]
      rw [U17] at ha
      have : ¬ i = a := by omega
      simp [this]
theorem cntL_miss {d : Dg} {back : Bool} {J : Nat} (he : Ui d (J / 4) (J % 4) = back) : cntL d back (J + 1) = cntL d back J := by
  apply gi_ext
  · rw [U17, U17]
  · intro i hi
    rw [U17] at hi
    rw [U18 hi, U18 hi, U22]
    unfold endP
    simp [he]
end Go.Proofs.Ytkcighnochjlgaa
