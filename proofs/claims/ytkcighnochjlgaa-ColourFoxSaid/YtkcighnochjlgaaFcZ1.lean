/- Part 1 of the proof of the law ColourFox: the walks through its functions and the plain laws that they need. -/
import Derived.Test.YtkcighnochjlgaaRows
import Derived.WalkKit
import Derived.ProofKit
import Derived.OpenShut
import Derived.BigQuiet
import Derived.IntWalk
import Derived.Lib.Hide
import Derived.SizedLaws
import Derived.Maps.AppendAt
import Derived.Conc.MuLone
import Derived.Laws.MakeOwn
import Derived.Laws.CopyRow
import Derived.OwnWalk
import Derived.Great.BuildSlice
set_option linter.unusedSimpArgs false
set_option linter.unusedVariables false
noncomputable section
namespace Go.Proofs.Ytkcighnochjlgaa
open Go.ChangeShapes Go.WideShapes Go.ChangeAt Go.RowKit
def lk : List (Nat × Value) → Nat → Option Value
  | [], _ => none
  | (d, v) :: r, t => match Nat.beq d t with
    | true => some v
    | false => lk r t
def oev (L : List (Nat × Value)) : Operand → Option Value
  | .tmp t => lk L t
  | .const v => some v
  | .global g => some (.pointer (some ⟨g, 0, none⟩))
  | .func f => some (.func (.func f) #[] #[])
def oevs (L : List (Nat × Value)) : List Operand → Option (List Value)
  | [] => some []
  | x :: r => match oev L x, oevs L r with
    | some v, some vs => some (v :: vs)
    | _, _ => none
structure Env (n : Nat) (L : List (Nat × Value)) (a : Act) : Prop where
  sz : a.tmps.size = n
  df : a.defers = []
  at_ : ∀ t v, lk L t = some v → a.tmps.getD t undef = v
theorem Env.eval {n : Nat} {L : List (Nat × Value)} {a : Act} (h : Env n L a) {x : Operand} {v : Value} (hx : oev L x = some v) : a.eval x = v := by
  cases x with
  | tmp t => exact h.at_ t v hx
  | const u => simp only [oev, Option.some.injEq] at hx; exact hx
  | global g => simp only [oev, Option.some.injEq] at hx; exact hx
  | func f => simp only [oev, Option.some.injEq] at hx; exact hx
theorem Env.evals {n : Nat} {L : List (Nat × Value)} {a : Act} (h : Env n L a) : ∀ {xs : List Operand} {vs : List Value}, oevs L xs = some vs → xs.map a.eval = vs
  | [], vs, hx => by simp only [oevs, Option.some.injEq] at hx; subst hx; rfl
  | x :: r, vs, hx => by
    simp only [oevs] at hx
    split at hx
    · rename_i v vs' h1 h2
      simp only [Option.some.injEq] at hx
      subst hx
      rw [List.map_cons, h.eval h1, h.evals h2]
    · cases hx
theorem lk_cons (d t : Nat) (v : Value) (L : List (Nat × Value)) : lk ((d, v) :: L) t = if d = t then some v else lk L t := by
  by_cases h : d = t
  · subst h
    rw [if_pos rfl]
    simp only [lk, Nat.beq_refl]
  · rw [if_neg h]
    have : Nat.beq d t = false := by cases hb : Nat.beq d t with
      | false => rfl
      | true => exact absurd (Nat.eq_of_beq_eq_true hb) h
    conv => lhs; unfold lk
    simp only [this]
theorem Env.put {n : Nat} {L : List (Nat × Value)} {a : Act} (h : Env n L a) {d : Nat} (hd : d < n) (v : Value) : Env n ((d, v) :: L) (a.put (some d) v) := by
  refine ⟨by simp [Act.put, h.sz], h.df, fun t u hu => ?_⟩
  rw [lk_cons] at hu
  simp only [Act.put]
  by_cases hdt : d = t
  · subst hdt
    rw [if_pos rfl] at hu
    injection hu with hu
    subst hu
    simp [Array.getD_eq_getD_getElem?, h.sz, hd]
  · rw [if_neg hdt] at hu
    rw [← h.at_ t u hu]
    simp [Array.getD_eq_getD_getElem?, Array.getElem?_setIfInBounds_ne hdt]
def Sub (L : List (Nat × Value)) : List (Nat × Value) → Prop
  | [] => True
  | (d, v) :: r => lk L d = some v ∧ Sub L r
theorem Sub.lk {L : List (Nat × Value)} : ∀ {L2 : List (Nat × Value)}, Sub L L2 → ∀ t v, lk L2 t = some v → Go.Proofs.Ytkcighnochjlgaa.lk L t = some v
  | [], _, t, v, h => by cases h
  | (d, u) :: r, h, t, v, hv => by
    rw [lk_cons] at hv
    by_cases hdt : d = t
    · rw [if_pos hdt] at hv
      injection hv with hv
      subst hdt; subst hv
      exact h.1
    · rw [if_neg hdt] at hv
      exact Sub.lk h.2 t v hv
theorem Env.sub {n : Nat} {L L2 : List (Nat × Value)} {a : Act} (h : Env n L a) (hs : Sub L L2) : Env n L2 a := ⟨h.sz, h.df, fun t v hv => h.at_ t v (hs.lk t v hv)⟩
inductive K where
  | thn (c : Code)
  | blk (id : Nat)
  | lp (I : Act → World → Prop)
structure Ctx where
  fn : Func
  R : Ending → World → Prop
def post (P : Program) (C : Ctx) : List K → Exit → Act → World → Prop
  | [] => bodyPost P C.fn C.R
  | .thn c :: s => Exit.then (c.wp P (post P C s)) (post P C s)
  | .blk id :: s => Exit.inBlock id (post P C s)
  | .lp I :: s => Exit.then I (post P C s)
def popTo (id : Nat) : List K → Option (List K)
  | [] => none
  | .thn _ :: s => popTo id s
  | .lp _ :: s => popTo id s
  | .blk i :: s => match Nat.beq i id with
    | true => some s
    | false => popTo id s
def cL : Code → Code
  | .seq a _ => a
  | .cond _ a _ => a
  | .block _ c => c
  | .loop c => c
  | c => c
def cR : Code → Code
  | .seq _ b => b
  | .cond _ _ b => b
  | c => c
def cId : Code → Nat
  | .block i _ => i
  | .exit i => i
  | .region i _ _ => i
  | _ => 0
def cX : Code → Operand
  | .cond x _ _ => x
  | _ => .tmp 0
def kind : Code → Nat
  | .seq _ _ => 1
  | .cond _ _ _ => 2
  | .block _ _ => 3
  | .loop _ => 4
  | .exit _ => 5
  | .ret => 6
  | .region _ _ false => 7
  | .region _ _ true => 8
  | .skip => 9
  | _ => 0
def rg : Code → Array Oper
  | .region _ ops _ => ops
  | _ => #[]
def nth {α : Type} : List α → Nat → Option α
  | [], _ => none
  | x :: r, k => match k with
    | 0 => some x
    | k + 1 => nth r k
theorem Up {α : Type} : ∀ (l : List α) (k : Nat), nth l k = l[k]?
  | [], k => by simp [nth]
  | x :: r, 0 => rfl
  | x :: r, k + 1 => by simpa [nth] using Up r k
def op (c : Code) (k : Nat) : Option Oper := nth (rg c).toList k
theorem kind_seq {c : Code} (h : kind c = 1) : c = .seq (cL c) (cR c) := by
  cases c with
  | region i o d => cases d <;> cases h
  | seq a b => rfl
  | _ => cases h
theorem kind_cond {c : Code} (h : kind c = 2) : c = .cond (cX c) (cL c) (cR c) := by
  cases c with
  | region i o d => cases d <;> cases h
  | cond x a b => rfl
  | _ => cases h
theorem kind_block {c : Code} (h : kind c = 3) : c = .block (cId c) (cL c) := by
  cases c with
  | region i o d => cases d <;> cases h
  | block i b => rfl
  | _ => cases h
theorem kind_loop {c : Code} (h : kind c = 4) : c = .loop (cL c) := by
  cases c with
  | region i o d => cases d <;> cases h
  | loop b => rfl
  | _ => cases h
theorem kind_exit {c : Code} (h : kind c = 5) : c = .exit (cId c) := by
  cases c with
  | region i o d => cases d <;> cases h
  | exit b => rfl
  | _ => cases h
theorem kind_ret {c : Code} (h : kind c = 6) : c = .ret := by
  cases c with
  | region i o d => cases d <;> cases h
  | ret => rfl
  | _ => cases h
theorem kind_skip {c : Code} (h : kind c = 9) : c = .skip := by
  cases c with
  | region i o d => cases d <;> cases h
  | skip => rfl
  | _ => cases h
theorem kind_region {c : Code} (h : kind c = 7) : c = .region (cId c) (rg c) false := by
  cases c with
  | region i o d => cases d <;> first | rfl | cases h
  | _ => cases h
theorem kind_draw {c : Code} (h : kind c = 8) : c = .region (cId c) (rg c) true := by
  cases c with
  | region i o d => cases d <;> first | rfl | cases h
  | _ => cases h
def WS (P : Program) (n : Nat) (C : Ctx) (c : Code) (s : List K) (L : List (Nat × Value)) (w : World) : Prop := ∀ a, Env n L a → c.wp P (post P C s) a w
def NM (P : Program) (n : Nat) (C : Ctx) (s : List K) (L : List (Nat × Value)) (w : World) : Prop := ∀ a, Env n L a → post P C s .normal a w
def WL (P : Program) (n : Nat) (C : Ctx) (c : Code) (k : Nat) (s : List K) (L : List (Nat × Value)) (w : World) : Prop := ∀ a, Env n L a → wpList P (rg c) (post P C s) ((rg c).toList.drop k) a w
section
variable {P : Program} {n : Nat} {C : Ctx} {c : Code} {s : List K} {L : List (Nat × Value)} {w : World}
theorem ws_sub (L2 : List (Nat × Value)) (hs : Sub L L2) (h : WS P n C c s L2 w) : WS P n C c s L w := fun a ha => h a (ha.sub hs)
theorem U10 (L2 : List (Nat × Value)) (hs : Sub L L2) (h : NM P n C s L2 w) : NM P n C s L w := fun a ha => h a (ha.sub hs)
theorem ws_seq (hk : kind c = 1) (h : WS P n C (cL c) (.thn (cR c) :: s) L w) : WS P n C c s L w := by
  intro a ha
  rw [kind_seq hk]
  exact wp_seq (h a ha)
theorem ws_block (hk : kind c = 3) (h : WS P n C (cL c) (.blk (cId c) :: s) L w) : WS P n C c s L w := by
  intro a ha
  rw [kind_block hk]
  exact wp_block (h a ha)
theorem ws_skip (hk : kind c = 9) (h : NM P n C s L w) : WS P n C c s L w := by
  intro a ha
  rw [kind_skip hk]
  exact wp_skip (h a ha)
theorem U6 (h : WS P n C c s L w) : NM P n C (.thn c :: s) L w := fun a ha => h a ha
theorem U8 {id : Nat} (h : NM P n C s L w) : NM P n C (.blk id :: s) L w := fun a ha => h a ha
theorem Uf {I : Act → World → Prop} (h : ∀ a, Env n L a → I a w) : NM P n C (.lp I :: s) L w := fun a ha => h a ha
theorem U1d {id : Nat} : ∀ {s s' : List K}, popTo id s = some s' → ∀ a w, post P C s' .normal a w → post P C s (.exit id) a w
  | [], s', h, a, w, hq => by cases h
  | .thn c :: s, s', h, a, w, hq => U1d (s := s) h a w hq
  | .lp I :: s, s', h, a, w, hq => U1d (s := s) h a w hq
  | .blk i :: s, s', h, a, w, hq => by
    simp only [popTo] at h
    simp only [post, Exit.inBlock]
    by_cases hi : i = id
    · subst hi
      simp only [Nat.beq_refl, Option.some.injEq] at h
      subst h
      rw [if_pos rfl]
      exact hq
    · have h2 : Nat.beq i id = false := by
        cases hb : Nat.beq i id with
        | false => rfl
        | true => exact absurd (Nat.eq_of_beq_eq_true hb) hi
      simp only [h2] at h
      rw [if_neg (fun e => hi e.symm)]
      exact U1d (s := s) h a w hq
theorem ws_exit {s' : List K} (hk : kind c = 5) (hp : popTo (cId c) s = some s') (h : NM P n C s' L w) : WS P n C c s L w := by
  intro a ha
  rw [kind_exit hk]
  exact wp_exit (U1d hp a w (h a ha))
theorem ws_cond {b : Bool} (hk : kind c = 2) (hx : oev L (cX c) = some (.bool b)) (ht : b = true → WS P n C (cL c) s L w) (hf : b = false → WS P n C (cR c) s L w) : WS P n C c s L w := by
  intro a ha
  rw [kind_cond hk]
  exact wp_cond_split (ha.eval hx) (fun h => ht h a ha) (fun h => hf h a ha)
theorem ws_condT (hk : kind c = 2) (hx : oev L (cX c) = some (.bool true)) (h : WS P n C (cL c) s L w) : WS P n C c s L w := ws_cond hk hx (fun _ => h) (fun e => by cases e)
theorem ws_condF (hk : kind c = 2) (hx : oev L (cX c) = some (.bool false)) (h : WS P n C (cR c) s L w) : WS P n C c s L w := ws_cond hk hx (fun e => by cases e) (fun _ => h)
theorem post_ret : ∀ {s : List K} {a : Act} {w : World}, post P C [] .ret a w → post P C s .ret a w
  | [], a, w, h => h
  | .thn c :: s, a, w, h => post_ret (s := s) h
  | .lp I :: s, a, w, h => post_ret (s := s) h
  | .blk i :: s, a, w, h => post_ret (s := s) h
def ResIs (P : Program) (L : List (Nat × Value)) (w : World) : List ResultVar → List Value → Prop
  | [], [] => True
  | .tmp t :: r, v :: vs => lk L t = some v ∧ ResIs P L w r vs
  | .cell a t :: r, v :: vs => (∃ p, lk L a = some (.pointer (some p)) ∧ (loadVar t p).run P w = .ok v w) ∧ ResIs P L w r vs
  | _, _ => False
def resF (a : Act) : ResultVar → Sem Value
  | .tmp t => pure (a.tmps.getD t undef)
  | .cell x t => do loadVar t (← asAddr (a.tmps.getD x undef))
theorem res_list {a : Act} (ha : Env n L a) : ∀ (rs : List ResultVar) (vs : List Value), ResIs P L w rs vs → Sem.run P (rs.mapM (resF a)) w = Result.ok vs w
  | [], [], _ => by simp
  | .tmp t :: r, v :: vs, h => by
    have e := ha.at_ t v h.1
    have ih := res_list ha r vs h.2
    simp only [List.mapM_cons, Sem.run_bind, Sem.run_pure, Result.andThen_ok, e, resF, ih]
  | .cell x t :: r, v :: vs, h => by
    obtain ⟨⟨p, hp, hl⟩, h2⟩ := h
    have e := ha.at_ x _ hp
    have ih := res_list ha r vs h2
    simp only [List.mapM_cons, Sem.run_bind, Sem.run_pure, Result.andThen_ok, e, resF, asAddr, hl, ih]
  | [], _ :: _, h => False.elim h
  | .tmp _ :: _, [], h => False.elim h
  | .cell _ _ :: _, [], h => False.elim h
def tup : List Value → Value
  | [v] => v
  | vs => .tuple vs.toArray
theorem run_results {fn : Func} {a : Act} (ha : Env n L a) {rs : List ResultVar} {vs : List Value} (hr : fn.results = rs.toArray) (h : ResIs P L w rs vs) : (results fn a.tmps).run P w = .ok (tup vs) w := by
  have h1 := res_list ha rs vs h
  unfold results
  rw [hr, List.mapM_toArray]
  change Sem.run P (do let vs ← Functor.map List.toArray (rs.mapM (resF a)); pure (if h : vs.size = 1 then vs[0] else Value.tuple vs)) w = _
  have h2 : Sem.run P (Functor.map List.toArray (rs.mapM (resF a))) w = Result.ok vs.toArray w := by
    rw [← bind_pure_comp, Sem.run_bind, h1]
    rfl
  rw [Sem.run_bind, h2]
  simp only [Result.andThen_ok, Sem.run_pure]
  congr 1
  match vs with
  | [] => rfl
  | [v] => rfl
  | v :: u :: vs => simp [tup]
theorem ws_ret {fn : Func} {R : Ending → World → Prop} (hC : C = ⟨fn, R⟩) {rs : List ResultVar} (vs : List Value) (hr : fn.results = rs.toArray) (hk : kind c = 6) (h : ResIs P L w rs vs) (hR : R (.returned (tup vs)) w) : WS P n C c s L w := by
  intro a ha
  subst hC
  rw [kind_ret hk]
  refine wp_ret (post_ret ?_)
  exact ⟨ha.df, tup vs, run_results ha hr h, hR⟩
theorem nm_end {fn : Func} {R : Ending → World → Prop} (hC : C = ⟨fn, R⟩) {rs : List ResultVar} (vs : List Value) (hr : fn.results = rs.toArray) (h : ResIs P L w rs vs) (hR : R (.returned (tup vs)) w) : NM P n C [] L w := by
  intro a ha
  subst hC
  exact ⟨ha.df, tup vs, run_results ha hr h, hR⟩
theorem U9 (hk : kind c = 7) (h : WL P n C c 0 s L w) : WS P n C c s L w := by
  intro a ha
  rw [kind_region hk]
  exact wp_region_list (h a ha)
theorem Us {k : Nat} (hk : op c k = none) (h : NM P n C s L w) : WL P n C c k s L w := by
  intro a ha
  have : ((rg c).toList.drop k) = [] := by
    unfold op at hk
    rw [Up] at hk
    exact List.drop_eq_nil_of_le (by simpa using hk)
  rw [this]
  exact wpList_nil (h a ha)
def Run (P : Program) (o : Oper) (L : List (Nat × Value)) (w : World) (v : Value) (w' : World) : Prop := ∀ n a, Env n L a → (execOp a.eval o).run P w = .ok (.value v) w'
def RunS (P : Program) (o : Oper) (L : List (Nat × Value)) (w w' : World) : Prop := ∀ n a, Env n L a → (execOp a.eval o).run P w = .ok .skip w'
theorem drop_op {k : Nat} {o : Oper} (ho : op c k = some o) : (rg c).toList.drop k = o :: (rg c).toList.drop k.succ := by
  unfold op at ho
  rw [Up] at ho
  obtain ⟨hlt, he⟩ := List.getElem?_eq_some_iff.1 ho
  rw [← he]
  exact List.drop_eq_getElem_cons hlt
def isG : Value → Bool → Bool
  | .bool g, b => g == b
  | _, _ => false
def Wanted (c : Code) (L : List (Nat × Value)) : Option (Nat × Bool) → Bool → Prop
  | none, y => y = true
  | some (j, b), y => ∃ o t g, op c j = some o ∧ o.dst = some t ∧ lk L t = some g ∧ isG g b = y
theorem U28 {a : Act} (ha : Env n L a) {o : Oper} {y : Bool} (h : Wanted c L o.guard y) (hn : ∀ j b o' t, o.guard = some (j, b) → op c j = some o' → o'.dst = some t → t < n) : Region.wanted o (yielded (rg c) a.tmps) = y := by
  unfold Region.wanted
  cases hg : o.guard with
  | none => rw [hg] at h; exact h.symm
  | some p =>
    obtain ⟨j, b⟩ := p
    rw [hg] at h
    obtain ⟨o', t, g, h1, h2, h3, h4⟩ := h
    have hlt := hn j b o' t hg h1 h2
    have e := ha.at_ t _ h3
    unfold op at h1
    rw [Up, Array.getElem?_toList] at h1
    simp only [yielded, h1, Option.bind_some, h2]
    have : a.tmps[t]? = some g := by
      rw [Array.getD_eq_getD_getElem?] at e
      rw [Array.getElem?_eq_getElem (by rw [ha.sz]; exact hlt)] at e ⊢
      simpa using e
    simp only [this]
    rw [← h4]
    cases g <;> simp [isG]
def gslot (c : Code) (o : Oper) (n : Nat) : Bool := match o.guard with
  | none => true
  | some (j, _) => match op c j with
    | some o' => match o'.dst with
      | some t => Nat.blt t n
      | none => true
    | none => true
theorem U1x {o : Oper} (h : gslot c o n = true) : ∀ j b o' t, o.guard = some (j, b) → op c j = some o' → o'.dst = some t → t < n := by
  intro j b o' t h1 h2 h3
  simp only [gslot, h1, h2, h3] at h
  simpa using h
theorem wl_no {k k' d : Nat} {o : Oper} (ho : op c k = some o) (hk : k' = k.succ) (hg : Wanted c L o.guard false) (hd : o.dst = some d) (hn : (Nat.blt d n && gslot c o n) = true) (h : WL P n C c k' s ((d, undef) :: L) w) : WL P n C c k s L w := by
  intro a ha
  rw [drop_op ho]
  subst hk
  simp only [Bool.and_eq_true] at hn
  refine wpList_step fun K hK => ?_
  rw [if_neg (by rw [U28 ha hg (U1x hn.2)]; simp), hd]
  exact hK _ _ (h _ (ha.put (d := d) (by simpa using hn.1) undef))
theorem wl_split {k t : Nat} {b : Bool} (hl : lk L t = some (.bool b)) (ht : b = true → WL P n C c k s ((t, .bool true) :: L) w) (hf : b = false → WL P n C c k s ((t, .bool false) :: L) w) : WL P n C c k s L w := by
  have key : ∀ b', b = b' → WL P n C c k s ((t, .bool b') :: L) w → WL P n C c k s L w := by
    intro b' e h a ha
    refine h a ⟨ha.sz, ha.df, fun u v hv => ?_⟩
    rw [lk_cons] at hv
    split at hv
    · rename_i e2; subst e2; injection hv with hv; subst hv; subst e; exact ha.at_ _ _ hl
    · exact ha.at_ _ _ hv
  cases b
  · exact key false rfl (hf rfl)
  · exact key true rfl (ht rfl)
theorem wl_sub {k : Nat} (L2 : List (Nat × Value)) (hs : Sub L L2) (h : WL P n C c k s L2 w) : WL P n C c k s L w := fun a ha => h a (ha.sub hs)
theorem calls_ws {f : FuncId} {fn : Func} {b : Code} {args : List Value} {w : World} {R : Ending → World → Prop} (hf : P.funcs[f]? = some fn) (hb : fn.body = some b) {n : Nat} (hn : fn.ntmps = n) (L : List (Nat × Value)) (hL : ∀ t v, lk L t = some v → args[t]? = some v) (hsz : args.length ≤ n)
    (h : ∀ C : Ctx, C = ⟨fn, R⟩ → WS P n C b [] L w) : Calls P f args.toArray w R := by
  refine calls_of_wp hf hb (h ⟨fn, R⟩ rfl _ ⟨?_, rfl, fun t v hv => ?_⟩)
  · simp [hn]; omega
  · have := hL t v hv
    have hlt := (List.getElem?_eq_some_iff.1 this).1
    simp only [Array.getD_eq_getD_getElem?]
    rw [Array.getElem?_append_left (by simpa using hlt)]
    simp [this]
def argL : Nat → List Value → List (Nat × Value)
  | _, [] => []
  | i, v :: vs => (i, v) :: argL (i + 1) vs
theorem lk_argL : ∀ (vs : List Value) (i t : Nat) (v : Value), lk (argL i vs) t = some v → i ≤ t ∧ vs[t - i]? = some v
  | [], i, t, v, h => by cases h
  | u :: vs, i, t, v, h => by
    unfold argL at h
    rw [lk_cons] at h
    split at h
    · rename_i e; subst e; exact ⟨Nat.le_refl _, by simpa using h⟩
    · obtain ⟨h1, h2⟩ := lk_argL vs (i + 1) t v h
      refine ⟨by omega, ?_⟩
      rw [show t - i = (t - (i + 1)) + 1 by omega]
      simpa using h2
theorem U7 {f : FuncId} {fn : Func} {b : Code} {args : List Value} {w : World} {R : Ending → World → Prop} (hf : P.funcs[f]? = some fn) (hb : fn.body = some b) {n : Nat} (hn : fn.ntmps = n) (hsz : Nat.ble args.length n = true)
    (h : ∀ C : Ctx, C = ⟨fn, R⟩ → WS P n C b [] (argL 0 args) w) : Calls P f args.toArray w R :=
  calls_ws hf hb hn (argL 0 args) (fun t v hv => by simpa using (lk_argL args 0 t v hv).2) (by simpa using hsz) h
end
section
variable {P : Program} {o : Oper} {L : List (Nat × Value)} {w : World} {x y z : Operand} {t t' : TypeId} {a b : Int} {v u : Value}
theorem run_move (ho : o.op = .move x) (hx : oev L x = some v) : Run P o L w v w := by
  intro n c hc; unfold execOp; simp only [ho, hc.eval hx]; rfl
theorem run_assign (ho : o.op = .assign x) (hx : oev L x = some v) : Run P o L w v w := by
  intro n c hc; unfold execOp; simp only [ho, hc.eval hx]; rfl
theorem U1c {bo : BinOp} (ho : o.op = .binOp bo t x y t') (hx : oev L x = some (.int .i64 a)) (hy : oev L y = some (.int .i64 b)) (h : ∀ w, (binOp bo t (.int .i64 a) (.int .i64 b)).run P w = .ok v w) : Run P o L w v w := by
  intro n c hc
  unfold execOp
  simp only [ho, hc.eval hx, hc.eval hy]
  have : ∀ w, (eqGuard bo t x y (.int .i64 a) (.int .i64 b)).run P w = .ok () w := by
    intro w
    unfold eqGuard
    split <;> simp
  simp [this, h]
theorem run_add (ho : o.op = .binOp .add t x y t') (hx : oev L x = some (.int .i64 a)) (hy : oev L y = some (.int .i64 b)) (h : -9223372036854775808 ≤ a + b ∧ a + b ≤ 9223372036854775807) : Run P o L w (.int .i64 (a + b)) w :=
  U1c ho hx hy fun w => by simp [binOp, Op.intArith, IntWalk.i64_in _ h]
theorem U1o (ho : o.op = .binOp .sub t x y t') (hx : oev L x = some (.int .i64 a)) (hy : oev L y = some (.int .i64 b)) (h : -9223372036854775808 ≤ a - b ∧ a - b ≤ 9223372036854775807) : Run P o L w (.int .i64 (a - b)) w :=
  U1c ho hx hy fun w => by simp [binOp, Op.intArith, IntWalk.i64_in _ h]
theorem run_mul (ho : o.op = .binOp .mul t x y t') (hx : oev L x = some (.int .i64 a)) (hy : oev L y = some (.int .i64 b)) (h : -9223372036854775808 ≤ a * b ∧ a * b ≤ 9223372036854775807) : Run P o L w (.int .i64 (a * b)) w :=
  U1c ho hx hy fun w => by simp [binOp, Op.intArith, IntWalk.i64_in _ h]
theorem run_quo (ho : o.op = .binOp .quo t x y t') (hx : oev L x = some (.int .i64 a)) (hy : oev L y = some (.int .i64 b)) (h : 0 ≤ a ∧ a ≤ 9223372036854775807 ∧ 0 < b) : Run P o L w (.int .i64 (a / b)) w :=
  U1c ho hx hy fun w => by
    have e : a.tdiv b = a / b := Int.tdiv_eq_ediv_of_nonneg h.1
    have h1 : 0 ≤ a / b := Int.ediv_nonneg h.1 (by omega)
    have h2 : a / b ≤ a := Int.ediv_le_self _ h.1
    simp [binOp, Op.intDiv, show b ≠ 0 by omega, e, IntWalk.i64_in (a / b) (by omega)]
theorem run_rem (ho : o.op = .binOp .rem t x y t') (hx : oev L x = some (.int .i64 a)) (hy : oev L y = some (.int .i64 b)) (h : 0 ≤ a ∧ 0 < b) : Run P o L w (.int .i64 (a % b)) w :=
  U1c ho hx hy fun w => by simp [binOp, Op.intDiv, show b ≠ 0 by omega, Int.tmod_eq_emod_of_nonneg h.1]
theorem run_trem (ho : o.op = .binOp .rem t x y t') (hx : oev L x = some (.int .i64 a)) (hy : oev L y = some (.int .i64 b)) (h : b ≠ 0) : Run P o L w (.int .i64 (a.tmod b)) w :=
  U1c ho hx hy fun w => by simp [binOp, Op.intDiv, h]
theorem run_lss (ho : o.op = .binOp .lss t x y t') (hx : oev L x = some (.int .i64 a)) (hy : oev L y = some (.int .i64 b)) : Run P o L w (.bool (decide (a < b))) w := U1c ho hx hy fun w => by simp [binOp, Op.intCmp]
theorem run_leq (ho : o.op = .binOp .leq t x y t') (hx : oev L x = some (.int .i64 a)) (hy : oev L y = some (.int .i64 b)) : Run P o L w (.bool (decide (a ≤ b))) w := U1c ho hx hy fun w => by simp [binOp, Op.intCmp]
theorem run_gtr (ho : o.op = .binOp .gtr t x y t') (hx : oev L x = some (.int .i64 a)) (hy : oev L y = some (.int .i64 b)) : Run P o L w (.bool (decide (b < a))) w := U1c ho hx hy fun w => by simp [binOp, Op.intCmp]
theorem run_geq (ho : o.op = .binOp .geq t x y t') (hx : oev L x = some (.int .i64 a)) (hy : oev L y = some (.int .i64 b)) : Run P o L w (.bool (decide (b ≤ a))) w := U1c ho hx hy fun w => by simp [binOp, Op.intCmp]
theorem run_eql (ho : o.op = .binOp .eql t x y t') (hx : oev L x = some (.int .i64 a)) (hy : oev L y = some (.int .i64 b)) : Run P o L w (.bool (decide (a = b))) w := U1c ho hx hy fun w => by
  simp only [binOp, Op.intCmp]
  by_cases h : a = b <;> simp [h]
theorem run_neq (ho : o.op = .binOp .neq t x y t') (hx : oev L x = some (.int .i64 a)) (hy : oev L y = some (.int .i64 b)) : Run P o L w (.bool (decide (a ≠ b))) w := U1c ho hx hy fun w => by
  simp only [binOp, Op.intCmp]
  by_cases h : a = b <;> simp [h]
theorem equal_bool {p q : Bool} (hu : P.underlying t = some .bool) (w : World) : (Op.equal t (.bool p) (.bool q)).run P w = .ok (p == q) w := by
  unfold Op.equal
  rw [show Op.maxDepth = 9999 + 1 from rfl]
  unfold Op.equalIn
  simp only [Sem.run_bind, run_underlying hu, Result.andThen_ok, Sem.run_pure]
theorem run_bne {p q : Bool} (ho : o.op = .binOp .neq t x y t') (hx : oev L x = some (.bool p)) (hy : oev L y = some (.bool q)) (hu : P.underlying t = some .bool) : Run P o L w (.bool (!(p == q))) w := by
  intro n c hc
  unfold execOp
  have : ∀ w, (eqGuard .neq t x y (.bool p) (.bool q)).run P w = .ok () w := by
    intro w; unfold eqGuard; simp
  simp only [ho, hc.eval hx, hc.eval hy, this, binOp, equal_bool hu, Sem.run_bind, Result.andThen_ok, Sem.run_pure]
theorem run_not {p : Bool} (ho : o.op = .unOp .not t x) (hx : oev L x = some (.bool p)) : Run P o L w (.bool (!p)) w := by
  intro n c hc; unfold execOp; simp [ho, hc.eval hx, Op.unary]
theorem run_pickT (ho : o.op = .pick x y z) (hx : oev L x = some (.bool true)) (hy : oev L y = some v) : Run P o L w v w := by
  intro n c hc; unfold execOp; simp [ho, hc.eval hx, hc.eval hy, asBool]
theorem run_pickF (ho : o.op = .pick x y z) (hx : oev L x = some (.bool false)) (hz : oev L z = some v) : Run P o L w v w := by
  intro n c hc; unfold execOp; simp [ho, hc.eval hx, hc.eval hz, asBool]
theorem U29 {f : Nat} {cs : List Value} {fs : Array Field} {fd : Field} {d : TypeDesc} (ho : o.op = .field t x f) (hx : oev L x = some (.agg cs.toArray)) (hu : P.underlying t = some (.struct fs)) (hf : fs[f]? = some fd) (hd : P.underlying fd.type = some d) (hag : (match d with | .struct _ => true | .array _ _ => true | _ => false) = false)
    (hv : nth cs fd.offset = some v) : Run P o L w v w := by
  intro n c hc
  unfold execOp
  rw [Up] at hv
  have hv' : cs.toArray[fd.offset]? = some v := by simpa using hv
  have hi : (isAgg fd.type).run P w = .ok false w := by
    unfold isAgg
    simp only [Sem.run_bind, run_underlying hd, Result.andThen_ok]
    cases d <;> simp at hag ⊢
  simp only [ho, hc.eval hx, Instr.field, Sem.run_bind, run_underlying hu, Result.andThen_ok, hf, asAgg, Sem.run_pure, part, hi, Bool.false_eq_true, if_false, hv']
theorem run_extract {vs : List Value} {i : Nat} (ho : o.op = .extract x i) (hx : oev L x = some (.tuple vs.toArray)) (hv : nth vs i = some v) : Run P o L w v w := by
  intro n c hc
  rw [Up] at hv
  have hv' : vs.toArray[i]? = some v := by simpa using hv
  unfold execOp
  simp only [ho, hc.eval hx, Instr.extract, hv', Sem.run_bind, Sem.run_pure, Result.andThen_ok]
theorem run_len {A : Option Addr} {m cp : Nat} {ca : Call} {xs : List Operand} {ts : List TypeId} {e : TypeId} (ho : o.op = .call ca) (hca : ca.callee = .builtin .len) (hxs : ca.args = xs.toArray) (hts : ca.argTypes = ts.toArray) (hx : oevs L xs = some [.slice A m cp]) (ht : nth ts 0 = some t) (hu : P.underlying t = some (.slice e)) : Run P o L w (.int .i64 (m : Int)) w := by
  intro n c hc
  rw [Up] at ht
  have ht' : ts.toArray[0]? = some t := by simpa using ht
  unfold execOp
  simp only [ho, resolve, hca, hxs, hts, List.map_toArray, hc.evals hx, invoke, builtin, Builtin.len_, Sem.run_bind, Sem.run_pure, Result.andThen_ok, ht', List.getElem?_toArray, List.getElem?_cons_zero, run_underlying hu, goInt]
theorem run_fieldAddr {f : Nat} {fs : Array Field} {fd : Field} {bl off : Nat} (ho : o.op = .fieldAddr t x f) (hx : oev L x = some (.pointer (some ⟨bl, off, none⟩))) (hu : P.underlying t = some (.struct fs)) (hf : fs[f]? = some fd) (hz : Nat.blt 0 (P.cellsOf fd.type) = true) (hi : ∃ i, P.info? fd.type = some i) : Run P o L w (.pointer (some ⟨bl, off + fd.offset, none⟩)) w := by
  intro n c hc
  obtain ⟨i, hi⟩ := hi
  have hne : i.size ≠ 0 := by
    have : P.cellsOf fd.type = i.size := by simp [Program.cellsOf, hi]
    rw [this] at hz
    simp at hz
    omega
  unfold execOp
  simp only [ho, hc.eval hx, Instr.fieldAt, Instr.sureAddr, Sem.run_bind, run_underlying hu, Result.andThen_ok, hf, Sem.run_pure, fieldPlace, sizeOf, typeInfo, program, Sem.run, hi, if_neg hne, Addr.add]
  by_cases h0 : fd.offset = 0 <;> simp [h0]
end
end Go.Proofs.Ytkcighnochjlgaa
namespace Go.Proofs.Ytkcighnochjlgaa
open Go.ChangeShapes Go.WideShapes Go.ChangeAt Go.RowKit
abbrev Hp := Nat → Option Obj
def hp (w : World) : Hp := fun b => w.heap[b]?
def Hp.le (M N : Hp) : Prop := ∀ b o, M b = some o → N b = some o
theorem Hp.le_refl (M : Hp) : M.le M := fun _ _ h => h
theorem Hp.le.trans {M N O : Hp} (h : M.le N) (k : N.le O) : M.le O := fun b o e => k b o (h b o e)
def Hp.un (M N : Hp) : Hp := fun b => match M b with
  | some o => some o
  | none => N b
theorem Hp.le_un (M N : Hp) : M.le (M.un N) := fun b o e => by simp [Hp.un, e]
theorem Hp.un_le {M N O : Hp} (h : M.le O) (k : N.le O) : (M.un N).le O := fun b o e => by
  unfold Hp.un at e
  cases hm : M b with
  | some o' => rw [hm] at e; injection e with e; subst e; exact h b _ hm
  | none => rw [hm] at e; exact k b o e
theorem Hp.U0 {M M' N : Hp} (h : M.le M') (hd : ∀ b o, N b = some o → M' b = none) : (M.un N).le (M'.un N) := fun b o e => by
  unfold Hp.un at e ⊢
  cases hm : M b with
  | some o' => rw [hm] at e; rw [h b _ hm]; exact e
  | none => rw [hm] at e; rw [hd b o e]; exact e
structure Rs where
  bl : List Nat
  ok : Hp → Prop
  loc : ∀ h h' : Hp, (∀ b ∈ bl, h' b = h b) → ok h → ok h'
def Rs.emp : Rs := ⟨[], fun _ => True, fun _ _ _ h => h⟩
structure Fr where
  h : Hp
  w0 : World
structure Like (w w' : World) : Prop where
  os : w'.os = w.os
  tape : w'.tape = w.tape
  output : w'.output = w.output
  size : w.heap.size ≤ w'.heap.size
theorem Like.refl (w : World) : Like w w := ⟨rfl, rfl, rfl, Nat.le_refl _⟩
theorem Like.trans {a b c : World} (h : Like a b) (k : Like b c) : Like a c := ⟨k.os.trans h.os, k.tape.trans h.tape, k.output.trans h.output, Nat.le_trans h.size k.size⟩
structure SH (w : World) (M : Hp) (X : Fr) (H : List Rs) : Prop where
  m : M.le (hp w)
  x : X.h.le (hp w)
  mx : ∀ b o, X.h b = some o → M b = none
  ok : ∀ r ∈ H, r.ok (hp w)
  bl : ∀ r ∈ H, ∀ b ∈ r.bl, b < w.heap.size ∧ M b = none ∧ X.h b = none
  ap : ∀ (i j : Nat) r s, i ≠ j → H[i]? = some r → H[j]? = some s → ∀ b ∈ r.bl, b ∉ s.bl
  like : Like X.w0 w
theorem U27 {w : World} {b : Nat} {o : Obj} (h : hp w b = some o) : b < w.heap.size := (Array.getElem?_eq_some_iff.1 h).1
section
variable {w w' : World} {M M' : Hp} {X : Fr} {H H' : List Rs} {r r' : Rs} {i : Nat}
theorem SH.um (S : SH w M X H) : (M.un X.h).le (hp w) := Hp.un_le S.m S.x
theorem SH.step (S : SH w M X H) (hi : nth H i = some r) (hH : H.set i r' = H') (like : Like w w') (keep : ∀ b, b < w.heap.size → b ∉ r.bl → hp w' b = hp w b)
    (hr : r'.ok (hp w')) (hbl : ∀ b ∈ r'.bl, (b ∈ r.bl ∨ w.heap.size ≤ b) ∧ b < w'.heap.size) : SH w' M X H' := by
  subst hH
  rw [Up] at hi
  have hmem : r ∈ H := List.mem_of_getElem? hi
  have hb := S.bl r hmem
  have fresh : ∀ b, w.heap.size ≤ b → M b = none ∧ X.h b = none := fun b hge => by
    constructor
    · cases hm : M b with
      | none => rfl
      | some o => have := U27 (S.m b o hm); omega
    · cases hm : X.h b with
      | none => rfl
      | some o => have := U27 (S.x b o hm); omega
  have hget : ∀ j s, (H.set i r')[j]? = some s → (j = i ∧ s = r') ∨ (j ≠ i ∧ H[j]? = some s) := fun j s hs => by
    rw [List.getElem?_set] at hs
    by_cases hij : i = j
    · subst hij
      rw [if_pos rfl] at hs
      split at hs
      · injection hs with hs; exact .inl ⟨rfl, hs.symm⟩
      · cases hs
    · rw [if_neg hij] at hs
      exact .inr ⟨fun e => hij e.symm, hs⟩
  have other : ∀ j s, j ≠ i → H[j]? = some s → ∀ b ∈ s.bl, b ∉ r.bl := fun j s hj hs b hbs => S.ap j i s r hj hs hi b hbs
  refine ⟨fun b o e => ?_, fun b o e => ?_, S.mx, fun s hs => ?_, fun s hs b hbs => ?_, fun j k s t hjk hs ht b hbs => ?_, S.like.trans like⟩
  · have h0 := S.m b o e
    rw [keep b (U27 h0) (fun hmb => by rw [(hb b hmb).2.1] at e; cases e)]; exact h0
  · have h0 := S.x b o e
    rw [keep b (U27 h0) (fun hmb => by rw [(hb b hmb).2.2] at e; cases e)]; exact h0
  · obtain ⟨j, hj⟩ := List.mem_iff_getElem?.1 hs
    rcases hget j s hj with ⟨_, rfl⟩ | ⟨hne, hj'⟩
    · exact hr
    · have hsm : s ∈ H := List.mem_of_getElem? hj'
      exact s.loc (hp w) (hp w') (fun b hbs => keep b (S.bl s hsm b hbs).1 (other j s hne hj' b hbs)) (S.ok s hsm)
  · obtain ⟨j, hj⟩ := List.mem_iff_getElem?.1 hs
    rcases hget j s hj with ⟨_, rfl⟩ | ⟨hne, hj'⟩
    · obtain ⟨h1 | h1, h2⟩ := hbl b hbs
      · exact ⟨h2, (hb b h1).2⟩
      · exact ⟨h2, fresh b h1⟩
    · obtain ⟨h1, h2⟩ := S.bl s (List.mem_of_getElem? hj') b hbs
      exact ⟨Nat.lt_of_lt_of_le h1 like.size, h2⟩
  · rcases hget j s hs with ⟨rfl, rfl⟩ | ⟨hne, hj'⟩
    · rcases hget k t ht with ⟨rfl, _⟩ | ⟨hne2, hk'⟩
      · exact absurd rfl hjk
      · obtain ⟨h1 | h1, h2⟩ := hbl b hbs
        · exact S.ap j k r t (fun e => hne2 e.symm) hi hk' b h1
        · intro hbt
          have := (S.bl t (List.mem_of_getElem? hk') b hbt).1
          omega
    · rcases hget k t ht with ⟨rfl, rfl⟩ | ⟨hne2, hk'⟩
      · intro hbt
        obtain ⟨h1 | h1, h2⟩ := hbl b hbt
        · exact other j s hne hj' b hbs h1
        · have := (S.bl s (List.mem_of_getElem? hj') b hbs).1
          omega
      · exact S.ap j k s t hjk hj' hk' b hbs
theorem SH.cons (S : SH w M X H) (like : Like w w') (keep : ∀ b, b < w.heap.size → hp w' b = hp w b) (hr : r.ok (hp w')) (hbl : ∀ b ∈ r.bl, w.heap.size ≤ b ∧ b < w'.heap.size) : SH w' M X (r :: H) := by
  have fresh : ∀ b, w.heap.size ≤ b → M b = none ∧ X.h b = none := fun b hge => by
    constructor
    · cases hm : M b with
      | none => rfl
      | some o => have := U27 (S.m b o hm); omega
    · cases hm : X.h b with
      | none => rfl
      | some o => have := U27 (S.x b o hm); omega
  refine ⟨fun b o e => ?_, fun b o e => ?_, S.mx, fun s hs => ?_, fun s hs b hbs => ?_, fun j k s t hjk hs ht b hbs => ?_, S.like.trans like⟩
  · have h0 := S.m b o e
    rw [keep b (U27 h0)]; exact h0
  · have h0 := S.x b o e
    rw [keep b (U27 h0)]; exact h0
  · rcases List.mem_cons.1 hs with rfl | hs
    · exact hr
    · exact s.loc (hp w) (hp w') (fun b hbs => keep b (S.bl s hs b hbs).1) (S.ok s hs)
  · rcases List.mem_cons.1 hs with rfl | hs
    · obtain ⟨h1, h2⟩ := hbl b hbs
      exact ⟨h2, fresh b h1⟩
    · obtain ⟨h1, h2⟩ := S.bl s hs b hbs
      exact ⟨Nat.lt_of_lt_of_le h1 like.size, h2⟩
  · cases j with
    | zero =>
      cases k with
      | zero => exact absurd rfl hjk
      | succ k =>
        simp only [List.getElem?_cons_zero, Option.some.injEq, List.getElem?_cons_succ] at hs ht
        subst hs
        intro hbt
        have := (S.bl t (List.mem_of_getElem? ht) b hbt).1
        have := (hbl b hbs).1
        omega
    | succ j =>
      cases k with
      | zero =>
        simp only [List.getElem?_cons_zero, Option.some.injEq, List.getElem?_cons_succ] at hs ht
        subst ht
        intro hbt
        have := (S.bl s (List.mem_of_getElem? hs) b hbs).1
        have := (hbl b hbt).1
        omega
      | succ k =>
        simp only [List.getElem?_cons_succ] at hs ht
        exact S.ap j k s t (by omega) hs ht b hbs
theorem SH.kp (S : SH w M X H) (like : Like w w') (keep : ∀ b, b < w.heap.size → hp w' b = hp w b) : SH w' M X H :=
  ⟨fun b o e => by have h0 := S.m b o e; rw [keep b (U27 h0)]; exact h0, fun b o e => by have h0 := S.x b o e; rw [keep b (U27 h0)]; exact h0, S.mx,
    fun s hs => s.loc (hp w) (hp w') (fun b hbs => keep b (S.bl s hs b hbs).1) (S.ok s hs), fun s hs b hbs => by
      obtain ⟨h1, h2⟩ := S.bl s hs b hbs
      exact ⟨Nat.lt_of_lt_of_le h1 like.size, h2⟩, S.ap, S.like.trans like⟩
theorem SH.add (S : SH w M X H) (hr : r.ok (hp w)) (hbl : r.bl = []) : SH w M X (r :: H) := S.cons (Like.refl w) (fun _ _ => rfl) hr fun b hb => by rw [hbl] at hb; cases hb
def picks {α : Type} (H : List α) : List Nat → List α → Prop
  | [], [] => True
  | i :: is, r :: rs => nth H i = some r ∧ picks H is rs
  | _, _ => False
theorem picks_get {H : List Rs} : ∀ {is : List Nat} {rs : List Rs}, picks H is rs → ∀ (j : Nat) r, rs[j]? = some r → ∃ i, is[j]? = some i ∧ H[i]? = some r
  | [], [], _, j, r, h => by simp at h
  | i :: is, s :: rs, hp, 0, r, h => by
    simp only [List.getElem?_cons_zero, Option.some.injEq] at h
    subst h
    exact ⟨i, rfl, by rw [← Up]; exact hp.1⟩
  | i :: is, s :: rs, hp, j + 1, r, h => by
    simp only [List.getElem?_cons_succ] at h ⊢
    exact picks_get hp.2 j r h
  | [], _ :: _, hp, _, _, _ => False.elim hp
  | _ :: _, [], hp, _, _, _ => False.elim hp
theorem SH.pick (S : SH w M X H) (is : List Nat) (H' : List Rs) (hnd : is.Nodup) (hp : picks H is H') : SH w M X H' := by
  have hg := fun j r => picks_get hp j r
  refine ⟨S.m, S.x, S.mx, fun s hs => ?_, fun s hs b hbs => ?_, fun j k s t hjk hs ht b hbs => ?_, S.like⟩
  · obtain ⟨j, hj⟩ := List.mem_iff_getElem?.1 hs
    obtain ⟨i, _, hi⟩ := hg j s hj
    exact S.ok s (List.mem_of_getElem? hi)
  · obtain ⟨j, hj⟩ := List.mem_iff_getElem?.1 hs
    obtain ⟨i, _, hi⟩ := hg j s hj
    exact S.bl s (List.mem_of_getElem? hi) b hbs
  · obtain ⟨i1, h1, h1'⟩ := hg j s hs
    obtain ⟨i2, h2, h2'⟩ := hg k t ht
    refine S.ap i1 i2 s t (fun e => hjk ?_) h1' h2' b hbs
    subst e
    obtain ⟨hl1, e1⟩ := List.getElem?_eq_some_iff.1 h1
    obtain ⟨hl2, e2⟩ := List.getElem?_eq_some_iff.1 h2
    exact (List.getElem_inj hnd).1 (e1.trans e2.symm)
def Hp.put (M : Hp) (w : World) (bl : List Nat) : Hp := fun b => if b ∈ bl then hp w b else M b
theorem SH.pub (S : SH w M X H) (hi : nth H i = some r) (hH : H.set i Rs.emp = H') : M.le (M.put w r.bl) ∧ SH w (M.put w r.bl) X H' ∧ (∀ b ∈ r.bl, (M.put w r.bl) b = hp w b) := by
  have hi' := hi
  rw [Up] at hi'
  have hmem : r ∈ H := List.mem_of_getElem? hi'
  have hb := S.bl r hmem
  have S2 : SH w M X H' := S.step hi hH (Like.refl w) (fun _ _ _ => rfl) trivial (fun b hb => by cases hb)
  refine ⟨fun b o e => ?_, ⟨fun b o e => ?_, S.x, fun b o e => ?_, S2.ok, fun s hs b hbs => ?_, S2.ap, S2.like⟩, fun b hb => by simp [Hp.put, hb]⟩
  · unfold Hp.put
    rw [if_neg (fun hm => by rw [(hb b hm).2.1] at e; cases e)]
    exact e
  · unfold Hp.put at e
    split at e
    · exact e
    · exact S.m b o e
  · unfold Hp.put
    rw [if_neg (fun hm => by rw [(hb b hm).2.2] at e; cases e)]
    exact S.mx b o e
  · obtain ⟨h1, h2, h3⟩ := S2.bl s hs b hbs
    refine ⟨h1, ?_, h3⟩
    unfold Hp.put
    rw [if_neg]
    · exact h2
    · intro hm
      subst hH
      obtain ⟨j, hj⟩ := List.mem_iff_getElem?.1 hs
      rw [List.getElem?_set] at hj
      by_cases hij : i = j
      · subst hij
        rw [if_pos rfl] at hj
        split at hj
        · injection hj with hj; subst hj; cases hbs
        · cases hj
      · rw [if_neg hij] at hj
        exact S.ap i j r s hij hi' hj b hm hbs
def XH (w : World) (X : Fr) (H : List Rs) : Fr := ⟨fun b => if H.any (fun r => r.bl.contains b) then hp w b else X.h b, w⟩
theorem any_bl {H : List Rs} {b : Nat} : (H.any fun r => r.bl.contains b) = true ↔ ∃ r ∈ H, b ∈ r.bl := by simp
theorem SH.lend (S : SH w M X H) : SH w M (XH w X H) [] := by
  refine ⟨S.m, fun b o e => ?_, fun b o e => ?_, by simp, by simp, by simp, Like.refl w⟩
  · simp only [XH] at e
    split at e
    · exact e
    · exact S.x b o e
  · simp only [XH] at e
    split at e
    · rename_i h
      obtain ⟨r, hr, hb⟩ := any_bl.1 h
      exact (S.bl r hr b hb).2.1
    · exact S.mx b o e
theorem SH.back (S : SH w M X H) (S' : SH w' M' (XH w X H) []) : SH w' M' X H := by
  have like := S'.like.size
  have hx : ∀ b, (∃ r ∈ H, b ∈ r.bl) → hp w' b = hp w b ∧ M' b = none := fun b hb => by
    have h1 := any_bl.2 hb
    obtain ⟨r, hr, hbr⟩ := hb
    have hlt := (S.bl r hr b hbr).1
    have e : (XH w X H).h b = some (w.heap[b]) := by
      simp only [XH, h1, if_true, hp]
      exact Array.getElem?_eq_getElem hlt
    refine ⟨?_, S'.mx b _ e⟩
    rw [S'.x b _ e]
    exact (Array.getElem?_eq_getElem hlt).symm
  have hxo : ∀ b o, X.h b = some o → (XH w X H).h b = some o := fun b o e => by
    simp only [XH]
    split
    · exact S.x b o e
    · exact e
  refine ⟨S'.m, fun b o e => S'.x b o (hxo b o e), fun b o e => S'.mx b o (hxo b o e), fun s hs => ?_, fun s hs b hbs => ?_, S.ap, ?_⟩
  · exact s.loc (hp w) (hp w') (fun b hbs => (hx b ⟨s, hs, hbs⟩).1) (S.ok s hs)
  · obtain ⟨h1, h2, h3⟩ := S.bl s hs b hbs
    exact ⟨Nat.lt_of_lt_of_le h1 like, (hx b ⟨s, hs, hbs⟩).2, h3⟩
  · exact S.like.trans S'.like
theorem SH.lend1 (S : SH w M X H) (hi : nth H i = some r) : SH w M (XH w X (H.set i Rs.emp)) [r] := by
  have hi' := hi
  rw [Up] at hi'
  have hmem : r ∈ H := List.mem_of_getElem? hi'
  have S2 : SH w M X (H.set i Rs.emp) := S.step hi rfl (Like.refl w) (fun _ _ _ => rfl) trivial (fun b hb => by cases hb)
  have S3 := S2.lend
  refine ⟨S3.m, S3.x, S3.mx, fun s hs => ?_, fun s hs b hbs => ?_, fun j k s t hjk hs ht b hbs => ?_, S3.like⟩
  · rw [List.mem_singleton] at hs; subst hs; exact S.ok _ hmem
  · rw [List.mem_singleton] at hs
    subst hs
    obtain ⟨h1, h2, h3⟩ := S.bl _ hmem b hbs
    refine ⟨h1, h2, ?_⟩
    simp only [XH]
    rw [if_neg]
    · exact h3
    · intro h
      obtain ⟨t, ht, hbt⟩ := any_bl.1 h
      obtain ⟨j, hj⟩ := List.mem_iff_getElem?.1 ht
      rw [List.getElem?_set] at hj
      by_cases hij : i = j
      · subst hij
        rw [if_pos rfl] at hj
        split at hj
        · injection hj with hj; subst hj; cases hbt
        · cases hj
      · rw [if_neg hij] at hj
        exact S.ap i j s t hij hi' hj b hbs hbt
  · have h1 := (List.getElem?_eq_some_iff.1 hs).1
    have h2 := (List.getElem?_eq_some_iff.1 ht).1
    simp at h1 h2
    omega
theorem SH.back1 (S : SH w M X H) (hi : nth H i = some r) (S' : SH w' M' (XH w X (H.set i Rs.emp)) [r']) (hH : H.set i r' = H') : SH w' M' X H' := by
  have S2 : SH w M X (H.set i Rs.emp) := S.step hi rfl (Like.refl w) (fun _ _ _ => rfl) trivial (fun b hb => by cases hb)
  have S4 : SH w' M' X (H.set i Rs.emp) := S2.back (S'.pick [] [] (by simp) trivial)
  have hlt : i < H.length := by rw [Up] at hi; exact (List.getElem?_eq_some_iff.1 hi).1
  have hX : ∀ b ∈ r'.bl, (XH w X (H.set i Rs.emp)).h b = none := fun b hb => (S'.bl r' (by simp) b hb).2.2
  have hnot : ∀ b ∈ r'.bl, ∀ s ∈ H.set i Rs.emp, b ∉ s.bl := fun b hb s hs hbs => by
    have h1 := hX b hb
    simp only [XH] at h1
    rw [if_pos (any_bl.2 ⟨s, hs, hbs⟩)] at h1
    have := (S2.bl s hs b hbs).1
    unfold hp at h1
    rw [Array.getElem?_eq_getElem this] at h1
    cases h1
  subst hH
  have hset : ∀ j s, (H.set i r')[j]? = some s → (j = i ∧ s = r') ∨ (j ≠ i ∧ (H.set i Rs.emp)[j]? = some s) := fun j s hs => by
    rw [List.getElem?_set] at hs
    by_cases hij : i = j
    · subst hij
      rw [if_pos rfl, if_pos hlt] at hs
      injection hs with hs
      exact .inl ⟨rfl, hs.symm⟩
    · rw [if_neg hij] at hs
      exact .inr ⟨fun e => hij e.symm, by rw [List.getElem?_set, if_neg hij]; exact hs⟩
  refine ⟨S4.m, S4.x, S4.mx, fun s hs => ?_, fun s hs b hbs => ?_, fun j k s t hjk hs ht b hbs => ?_, S4.like⟩
  · obtain ⟨j, hj⟩ := List.mem_iff_getElem?.1 hs
    rcases hset j s hj with ⟨_, rfl⟩ | ⟨_, h⟩
    · exact S'.ok _ (by simp)
    · exact S4.ok _ (List.mem_of_getElem? h)
  · obtain ⟨j, hj⟩ := List.mem_iff_getElem?.1 hs
    rcases hset j s hj with ⟨_, rfl⟩ | ⟨_, h⟩
    · obtain ⟨h1, h2, h3⟩ := S'.bl _ (by simp) b hbs
      refine ⟨h1, h2, ?_⟩
      cases hx : X.h b with
      | none => rfl
      | some o =>
        simp only [XH] at h3
        split at h3
        · rename_i h
          obtain ⟨s', hs', hbs'⟩ := any_bl.1 h
          exact absurd hbs' (hnot b hbs s' hs')
        · rw [hx] at h3; cases h3
    · exact S4.bl _ (List.mem_of_getElem? h) b hbs
  · rcases hset j s hs with ⟨rfl, rfl⟩ | ⟨hne, h⟩
    · rcases hset k t ht with ⟨rfl, _⟩ | ⟨_, h2⟩
      · exact absurd rfl hjk
      · exact hnot b hbs t (List.mem_of_getElem? h2)
    · rcases hset k t ht with ⟨rfl, rfl⟩ | ⟨_, h2⟩
      · exact fun hbt => hnot b hbt s (List.mem_of_getElem? h) hbs
      · exact S4.ap j k s t hjk h h2 b hbs
end
end Go.Proofs.Ytkcighnochjlgaa
namespace Go.Proofs.Ytkcighnochjlgaa
open Go.ChangeShapes Go.WideShapes Go.ChangeAt Go.RowKit
def ga {α : Type} [Inhabited α] (xs : List α) (i : Nat) : α := xs.getD i default
section
variable {α : Type} [Inhabited α]
theorem U14 {xs : List α} {i : Nat} (h : i < xs.length) : ga xs i = xs[i] := by simp [ga, h]
theorem ga_get? {xs : List α} {i : Nat} (h : i < xs.length) : xs[i]? = some (ga xs i) := by simp [ga, h]
theorem U3 (xs : List α) (i j : Nat) (y : α) (h : i < xs.length) : ga (xs.set i y) j = if i = j then y else ga xs j := by
  unfold ga
  rw [List.getD_eq_getElem?_getD, List.getD_eq_getElem?_getD, List.getElem?_set]
  by_cases hij : i = j
  · subst hij; simp [h]
  · simp [hij]
theorem ga_ext {xs ys : List α} (hl : xs.length = ys.length) (h : ∀ i, i < xs.length → ga xs i = ga ys i) : xs = ys := by
  apply List.ext_getElem hl
  intro i h1 h2
  have := h i h1
  rwa [U14 h1, U14 h2] at this
theorem Ur (xs ys : List α) (i : Nat) (h : i < xs.length) : ga (xs ++ ys) i = ga xs i := by
  unfold ga; simp [List.getElem?_append_left h]
theorem U11 (xs ys : List α) (i : Nat) (h : xs.length ≤ i) : ga (xs ++ ys) i = ga ys (i - xs.length) := by
  unfold ga; simp [List.getElem?_append_right h]
theorem take_ga (xs : List α) (k : Nat) (h : k < xs.length) : xs.take (k + 1) = xs.take k ++ [ga xs k] := by
  rw [List.take_succ_eq_append_getElem h, U14 h]
theorem ga_map {β : Type} [Inhabited β] (f : α → β) (xs : List α) (i : Nat) (h : i < xs.length) : ga (xs.map f) i = f (ga xs i) := by
  rw [U14 (by simpa using h), U14 h]; simp
theorem U24 (n i : Nat) (x : α) (h : i < n) : ga (List.replicate n x) i = x := by
  rw [U14 (by simpa using h)]; simp
theorem ga_mem {xs : List α} {i : Nat} (h : i < xs.length) : ga xs i ∈ xs := by rw [U14 h]; exact List.getElem_mem h
end
theorem U15 {α : Type} {f : α → List Value} {k : Nat} (hf : ∀ x, (f x).length = k) {xs : List α} {i j : Nat} (hi : i < xs.length) (hj : j < k) :
    (xs.flatMap f)[i * k + j]? = (f xs[i])[j]? := by
  induction xs generalizing i with
  | nil => simp at hi
  | cons x xs ih =>
    rw [List.flatMap_cons]
    cases i with
    | zero => rw [Nat.zero_mul, Nat.zero_add, List.getElem?_append_left (by rw [hf]; exact hj)]; rfl
    | succ i =>
      rw [List.getElem?_append_right (by rw [hf, Nat.succ_mul]; omega), hf, show (i + 1) * k + j - k = i * k + j by rw [Nat.succ_mul]; omega, ih (by simpa using hi)]
      rfl
theorem Uw {α : Type} {f : α → List Value} {k : Nat} (hf : ∀ x, (f x).length = k) (xs : List α) : (xs.flatMap f).length = xs.length * k := by
  induction xs with
  | nil => simp
  | cons x xs ih => rw [List.flatMap_cons, List.length_append, hf, ih, List.length_cons, Nat.succ_mul, Nat.add_comm]
end Go.Proofs.Ytkcighnochjlgaa
namespace Go.Proofs.Ytkcighnochjlgaa
open Go.ChangeShapes Go.WideShapes Go.ChangeAt Go.RowKit
def spl {α : Type} : List α → Nat → List α → List α
  | l, _, [] => l
  | l, o, u :: us => spl (l.set o u) (o + 1) us
theorem spl_len {α : Type} : ∀ (us l : List α) (o : Nat), (spl l o us).length = l.length
  | [], l, o => rfl
  | u :: us, l, o => by rw [spl, spl_len us]; simp
theorem spl_get {α : Type} : ∀ (us l : List α) (o j : Nat), o + us.length ≤ l.length → (spl l o us)[j]? = if o ≤ j ∧ j < o + us.length then us[j - o]? else l[j]?
  | [], l, o, j, _ => by rw [spl, if_neg (by simp)]
  | u :: us, l, o, j, h => by
    simp only [List.length_cons] at h ⊢
    rw [spl, spl_get us (l.set o u) (o + 1) j (by simp; omega), List.getElem?_set]
    by_cases h1 : o = j
    · subst h1
      rw [if_neg (by omega), if_pos rfl, if_pos (by omega), if_pos (by omega)]; simp
    · rw [if_neg h1]
      by_cases h2 : o + 1 ≤ j ∧ j < o + 1 + us.length
      · rw [if_pos h2, if_pos (by omega), show j - o = (j - (o + 1)) + 1 by omega]; simp
      · rw [if_neg h2, if_neg (by omega)]
theorem spl_eq {α : Type} (us l : List α) (o : Nat) (h : o + us.length ≤ l.length) : spl l o us = l.take o ++ us ++ l.drop (o + us.length) := by
  apply List.ext_getElem?
  intro j
  rw [spl_get us l o j h]
  simp only [List.getElem?_append, List.length_append, List.length_take, List.getElem?_take, List.getElem?_drop]
  have e : min o l.length = o := by omega
  rw [e]
  by_cases h1 : o ≤ j ∧ j < o + us.length
  · rw [if_pos h1, if_pos h1.2, if_neg (by omega)]
  · rw [if_neg h1]
    by_cases h2 : j < o
    · rw [if_pos (by omega), if_pos h2, if_pos h2]
    · rw [if_neg (by omega)]
      congr 1; omega
structure Cd (α : Type) where
  f : α → List Value
  k : Nat
  u8 : Nat
  E : TypeId
  z : α
  hf : ∀ x, (f x).length = k
  one : ∀ x, ∀ u ∈ f x, u.oneCell' = true
theorem Cd.flat1 {α : Type} (C : Cd α) (xs : List α) : ∀ u ∈ xs.flatMap C.f, u.oneCell' = true := fun u hu => by
  obtain ⟨x, _, hx⟩ := List.mem_flatMap.1 hu
  exact C.one x u hx
def SlOf {α : Type} (P : Program) (T : TypeId) (C : Cd α) : Prop :=
  ∃ z, P.underlying T = some (.slice C.E) ∧ (P.info? C.E).map (fun i => (i.zero, i.size, i.bytes)) = some (some z, C.k, C.u8) ∧ z.cells.toList = C.f C.z ∧ 0 < C.k ∧ 0 < C.u8
def adB : Option Addr → Nat
  | some a => a.block
  | none => 0
def adO : Option Addr → Nat
  | some a => a.off
  | none => 0
def RdA {α : Type} (C : Cd α) (N : Hp) (A : Option Addr) (c : Nat) (xs : List α) : Prop :=
  xs.length ≤ c ∧ xs.length * C.u8 ≤ 140737488355328 ∧ (0 < xs.length → A = some ⟨adB A, adO A, none⟩ ∧ ∃ cs T fz, N (adB A) = some (.cells cs T fz) ∧ ∀ j u, (xs.flatMap C.f)[j]? = some u → cs[adO A + j]? = some u)
def Rds {α : Type} (C : Cd α) (N : Hp) (v : Value) (xs : List α) : Prop := ∃ A c, v = .slice A xs.length c ∧ RdA C N A c xs
section
variable {α : Type} {C : Cd α} {N N' : Hp} {A : Option Addr} {cp : Nat} {xs : List α} {v : Value} {w : World}
theorem RdA.mono (h : RdA C N A cp xs) (k : N.le N') : RdA C N' A cp xs := ⟨h.1, h.2.1, fun h0 => by
  obtain ⟨e, cs, T, fz, hc, hu⟩ := h.2.2 h0
  exact ⟨e, cs, T, fz, k _ _ hc, hu⟩⟩
theorem RdA.room (h : RdA C N A cp xs) : xs.length * C.u8 ≤ 140737488355328 := h.2.1
theorem RdA.cap (h : RdA C N A cp xs) : xs.length ≤ cp := h.1
theorem RdA.nil_ : RdA C N A cp [] := ⟨Nat.zero_le _, by simp, fun h => absurd h (by simp)⟩
theorem Rds.nil_ : Rds C N (.slice none 0 0) ([] : List α) := ⟨none, 0, rfl, RdA.nil_⟩
theorem RdA.cell [Inhabited α] (h : RdA C N A cp xs) (hN : N.le (hp w)) {i : Nat} (hi : i < xs.length) (j : Nat) {u : Value} (hj : Nat.blt j C.k = true) (hu : nth (C.f (ga xs i)) j = some u) : w.cell? ⟨adB A, adO A + i * C.k + j, none⟩ = some u := by
  obtain ⟨e, cs, T, fz, hc, hat⟩ := h.2.2 (by omega)
  have h1 := hN _ _ hc
  rw [Up] at hu
  have := hat (i * C.k + j) u (by rw [U15 C.hf hi (by simpa using hj), ← U14 hi]; exact hu)
  rw [cell_of_row w (adB A) _ cs T fz h1, Nat.add_assoc]
  exact this
theorem RdA.cells (h : RdA C N A cp xs) (hN : N.le (hp w)) : ∀ j u, (xs.flatMap C.f)[j]? = some u → w.cell? ⟨adB A, adO A + j, none⟩ = some u := by
  intro j u hu
  have h0 : 0 < xs.length := by
    rcases Nat.eq_zero_or_pos xs.length with h0 | h0
    · have : xs = [] := List.eq_nil_of_length_eq_zero h0
      subst this; simp at hu
    · exact h0
  obtain ⟨e, cs, T, fz, hc, hat⟩ := h.2.2 h0
  rw [cell_of_row w (adB A) _ cs T fz (hN _ _ hc)]
  exact hat j u hu
def BxM (N : Hp) (g : Nat) (T : TypeId) (l : List Value) : Prop := N g = some (.cells l.toArray T (0, 0))
theorem BxM.mono {g : Nat} {T : TypeId} {l : List Value} (h : BxM N g T l) (k : N.le N') : BxM N' g T l := k _ _ h
theorem BxM.cell {g : Nat} {T : TypeId} {l : List Value} (h : BxM N g T l) (hN : N.le (hp w)) {o : Nat} {u : Value} (hu : nth l o = some u) : w.cell? ⟨g, o, none⟩ = some u := by
  rw [cell_of_row w g o _ T (0, 0) (hN _ _ h)]
  rw [Up] at hu
  simpa using hu
end
def Rs.box (g : Nat) (T : TypeId) (l : List Value) : Rs :=
  ⟨[g], fun h => h g = some (.cells l.toArray T (0, 0)), fun h h' hb hk => by rw [hb g (by simp)]; exact hk⟩
def rb : Value → Nat
  | .slice (some a) _ _ => a.block
  | _ => 0
def U1f {α : Type} (C : Cd α) (v : Value) (xs : List α) (h : Hp) : Prop :=
  (v = .slice none 0 0 ∧ xs = []) ∨ ∃ g cap cur, v = .slice (some ⟨g, 0, none⟩) xs.length cap ∧ h g = some (.cells cur C.E (0, 0)) ∧ xs.length ≤ cap ∧ cap ≤ maxLen ∧ cur.size = cap * C.k ∧ cur.toList.take (xs.length * C.k) = xs.flatMap C.f
def Rs.row {α : Type} (C : Cd α) (v : Value) (xs : List α) : Rs :=
  ⟨v.ownBlock.toList, U1f C v xs, fun h h' hb hk => by
    rcases hk with hk | ⟨g, cap, cur, rfl, hg, rest⟩
    · exact .inl hk
    · exact .inr ⟨g, cap, cur, rfl, by rw [hb g (by simp [Value.ownBlock])]; exact hg, rest⟩⟩
section
variable {α : Type} {C : Cd α} {xs : List α} {v : Value} {w w' : World} {M : Hp} {X : Fr} {H H' : List Rs} {i : Nat} {g : Nat} {T : TypeId} {l : List Value}
theorem U1f.owns (h : U1f C v xs (hp w)) : w.ownsRow 0 C.E C.k v xs.length (xs.flatMap C.f) := by
  refine ⟨Uw C.hf xs, ?_⟩
  rcases h with ⟨h1, h2⟩ | ⟨g, cap, cur, h1, h2, h3⟩
  · exact .inl ⟨h1, by rw [h2]; rfl⟩
  · exact .inr ⟨g, cap, cur, h1, Nat.zero_le _, h2, h3⟩
theorem U1f.of_owns (h : w.ownsRow 0 C.E C.k v xs.length (xs.flatMap C.f)) : U1f C v xs (hp w) := by
  rcases h.2 with ⟨h1, h2⟩ | ⟨g, cap, cur, h1, _, h2, h3⟩
  · exact .inl ⟨h1, List.eq_nil_of_length_eq_zero h2⟩
  · exact .inr ⟨g, cap, cur, h1, h2, h3⟩
theorem SH.get {r : Rs} (S : SH w M X H) (hi : nth H i = some r) : r.ok (hp w) := by
  rw [Up] at hi
  exact S.ok r (List.mem_of_getElem? hi)
theorem SH.boxc (S : SH w M X H) (hi : nth H i = some (Rs.box g T l)) {o : Nat} {u : Value} (hu : nth l o = some u) : w.cell? ⟨g, o, none⟩ = some u := by
  have h : hp w g = some (.cells l.toArray T (0, 0)) := S.get hi
  rw [cell_of_row w g o _ T (0, 0) h]
  rw [Up] at hu
  simpa using hu
theorem SH.sl (S : SH w M X H) (hi : nth H i = some (Rs.row C v xs)) : ∃ A c, v = .slice A xs.length c ∧ xs.length ≤ c := by
  rcases (S.get hi : U1f C v xs (hp w)) with ⟨h1, h2⟩ | ⟨g, cap, cur, h1, h2, h3, _⟩
  · exact ⟨none, 0, by rw [h1, h2]; rfl, by rw [h2]; simp⟩
  · exact ⟨_, cap, h1, h3⟩
theorem SH.some_ (S : SH w M X H) (hi : nth H i = some (Rs.row C v xs)) (h0 : 0 < xs.length) : ∃ cap, v = .slice (some ⟨rb v, 0, none⟩) xs.length cap ∧ xs.length ≤ cap := by
  rcases (S.get hi : U1f C v xs (hp w)) with ⟨h1, h2⟩ | ⟨g, cap, cur, h1, h2, h3, _⟩
  · rw [h2] at h0; simp at h0
  · subst h1
    exact ⟨cap, rfl, h3⟩
theorem SH.rowc [Inhabited α] (S : SH w M X H) (hi : nth H i = some (Rs.row C v xs)) {e j : Nat} {u : Value} (he : e < xs.length) (hj : Nat.blt j C.k = true) (hu : nth (C.f (ga xs e)) j = some u) : w.cell? ⟨rb v, e * C.k + j, none⟩ = some u := by
  obtain ⟨cap, hv, _⟩ := S.some_ hi (by omega)
  have ho := U1f.owns (S.get hi : U1f C v xs (hp w))
  rw [hv] at ho
  have hlt : e * C.k + j < xs.length * C.k := by
    have := Nat.mul_le_mul_right C.k (show e + 1 ≤ xs.length by omega)
    rw [Nat.succ_mul] at this
    have h2 : j < C.k := by simpa using hj
    omega
  have := World.ownsRow.cellAt ho (e * C.k + j) hlt
  rw [this, U15 C.hf he (by simpa using hj), ← U14 he, ← hu, Up]
theorem SH.nilrow (S : SH w M X H) (C : Cd α) : SH w M X (Rs.row C (.slice none 0 0) [] :: H) := S.add (.inl ⟨rfl, rfl⟩) rfl
theorem SH.rowRd (S : SH w M X H) (hi : nth H i = some (Rs.row C v xs)) (hr : xs.length * C.u8 ≤ 140737488355328) {N : Hp} (hN : ∀ b ∈ v.ownBlock.toList, N b = hp w b) : Rds C N v xs := by
  rcases (S.get hi : U1f C v xs (hp w)) with ⟨h1, h2⟩ | ⟨g, cap, cur, h1, h2, h3, h4, h5, h6⟩
  · subst h1; subst h2
    exact Rds.nil_
  · subst h1
    refine ⟨_, cap, rfl, h3, hr, fun _ => ⟨rfl, cur, C.E, (0, 0), ?_, fun j u hu => ?_⟩⟩
    · show N g = _
      rw [hN g (by simp [Value.ownBlock])]
      exact h2
    · show cur[0 + j]? = some u
      rw [Nat.zero_add]
      rw [← h6, List.getElem?_take] at hu
      split at hu
      · simpa using hu
      · cases hu
theorem SH.pubrow (S : SH w M X H) (hi : nth H i = some (Rs.row C v xs)) (hH : H.set i Rs.emp = H') (hr : xs.length * C.u8 ≤ 140737488355328) : ∃ M', M.le M' ∧ SH w M' X H' ∧ Rds C M' v xs := by
  obtain ⟨h1, h2, h3⟩ := S.pub hi hH
  exact ⟨_, h1, h2, S.rowRd hi hr h3⟩
theorem SH.lendRd (S : SH w M X H) (hi : nth H i = some (Rs.row C v xs)) (hr : xs.length * C.u8 ≤ 140737488355328) : Rds C (M.un (XH w X H).h) v xs := by
  have hmem : Rs.row C v xs ∈ H := by rw [Up] at hi; exact List.mem_of_getElem? hi
  refine S.rowRd hi hr fun b hb => ?_
  have h1 := S.bl _ hmem b hb
  simp only [Hp.un, h1.2.1, XH, any_bl.2 ⟨_, hmem, hb⟩, if_true]
theorem SH.Uj (S : SH w M X H) : (M.un X.h).le (M.un (XH w X H).h) := by
  intro b o e
  unfold Hp.un at e ⊢
  cases hm : M b with
  | some o' => rw [hm] at e; exact e
  | none =>
    rw [hm] at e
    simp only [XH]
    split
    · exact S.x b o e
    · exact e
end
section
variable {P : Program} {o : Oper} {L : List (Nat × Value)} {w w' : World} {x y z : Operand} {t t' T : TypeId} {a b : Int} {v u : Value} {n d : Nat} {Kt : List (Nat × Value) → World → Prop} {M M' : Hp} {X : Fr} {H H' : List Rs} {i g off : Nat} {l : List Value}
def WO (P : Program) (n : Nat) (o : Oper) (L : List (Nat × Value)) (w : World) (Kt : List (Nat × Value) → World → Prop) : Prop :=
  ∀ a, Env n L a → ∀ (next : Act → World → Prop) (Q : Exit → Act → World → Prop), (∀ L' a' w', Env n L' a' → Kt L' w' → next a' w') → o.wp P a w next Q
theorem Ud {C : Ctx} {c : Code} {s : List K} {k k' : Nat} (ho : op c k = some o) (hk : k' = k.succ) (hg : o.guard = none) (h : WO P n o L w (fun L' w' => WL P n C c k' s L' w')) : WL P n C c k s L w := by
  intro a ha
  rw [drop_op ho]
  subst hk
  refine wpList_plain hg fun K hK => ?_
  exact h a ha K _ fun L' a' w' he hw => hK _ _ (hw a' he)
theorem wl_opG {C : Ctx} {c : Code} {s : List K} {k k' : Nat} (ho : op c k = some o) (hk : k' = k.succ) (hg : Wanted c L o.guard true) (hs : gslot c o n = true) (h : WO P n o L w (fun L' w' => WL P n C c k' s L' w')) : WL P n C c k s L w := by
  intro a ha
  rw [drop_op ho]
  subst hk
  refine wpList_step fun K hK => ?_
  rw [if_pos (U28 ha hg (U1x hs))]
  exact h a ha K _ fun L' a' w' he hw => hK _ _ (hw a' he)
theorem Ua (hd : o.dst = some d) (hn : Nat.blt d n = true) (hr : Run P o L w v w') (h : Kt ((d, v) :: L) w') : WO P n o L w Kt := by
  intro a ha next Q hk
  unfold Oper.wp
  rw [hr n a ha, Oper.upon_value, hd]
  exact hk _ _ _ (ha.put (by simpa using hn) v) h
theorem wo_runS (hd : o.dst = none) (hr : RunS P o L w w') (h : Kt L w') : WO P n o L w Kt := by
  intro a ha next Q hk
  unfold Oper.wp
  rw [hr n a ha, Oper.upon_skip, hd]
  exact hk _ _ _ ha h
theorem wo_call {f : FuncId} {vs : List Value} {ca : Call} {fo : Operand} {xs : List Operand} (hd : o.dst = some d) (hop : o.op = .call ca) (hca : ca.callee = .value fo) (hfo : oev L fo = some (.func (.func f) #[] #[]))
    (hxs : ca.args = xs.toArray) (hvs : oevs L xs = some vs) (hn : Nat.blt d n = true) (hen : ∀ args w, (callFunc f args).run P w = .ok (.enter f args) w)
    {R : Value → World → Prop} (hcall : Calls P f vs.toArray w fun e w' => ∃ v, e = .returned v ∧ R v w') (h : ∀ v w', R v w' → Kt ((d, v) :: L) w') : WO P n o L w Kt := by
  intro a ha next Q hk
  have hr : (execOp a.eval o).run P w = .ok (.enter f vs.toArray) w := by
    unfold execOp
    simp only [hop, resolve, hca, ha.eval hfo, hxs, List.map_toArray, ha.evals hvs, Deferred.ofValue, Sem.run_bind, Sem.run_pure, Result.andThen_ok, invoke, Array.empty_append, Array.append_empty]
    exact hen _ _
  unfold Oper.wp
  rw [hr, Oper.upon_enter, hd]
  refine hcall.mono ?_
  rintro e w' ⟨v, rfl, hR⟩
  exact hk _ _ _ (ha.put (by simpa using hn) v) (h v w' hR)
def Ct (P : Program) (f : FuncId) (vs : List Value) (w : World) (M : Hp) (X : Fr) (R : Value → Hp → Prop) : Prop :=
  Calls P f vs.toArray w fun e w' => ∃ v, e = .returned v ∧ ∃ M', M.le M' ∧ SH w' M' X [] ∧ R v M'
def Cq (P : Program) (f : FuncId) (vs : List Value) (w : World) (M : Hp) (X : Fr) (R : Value → Prop) : Prop :=
  Calls P f vs.toArray w fun e w' => ∃ v, e = .returned v ∧ SH w' M X [] ∧ R v
def C1 (P : Program) (f : FuncId) (vs : List Value) (w : World) (M : Hp) (X : Fr) (R : Value → Hp → Rs → Prop) : Prop :=
  Calls P f vs.toArray w fun e w' => ∃ v, e = .returned v ∧ ∃ M' r', M.le M' ∧ SH w' M' X [r'] ∧ R v M' r'
theorem wo_ct {f : FuncId} {vs : List Value} {ca : Call} {fo : Operand} {xs : List Operand} (hd : o.dst = some d) (hop : o.op = .call ca) (hca : ca.callee = .value fo) (hfo : oev L fo = some (.func (.func f) #[] #[]))
    (hxs : ca.args = xs.toArray) (hvs : oevs L xs = some vs) (hn : Nat.blt d n = true) (hen : ∀ args w, (callFunc f args).run P w = .ok (.enter f args) w) (S : SH w M X H)
    {R : Value → Hp → Prop} (hcall : Ct P f vs w M (XH w X H) R) (h : ∀ v w' M', M.le M' → SH w' M' X H → R v M' → Kt ((d, v) :: L) w') : WO P n o L w Kt :=
  wo_call (R := fun v w' => ∃ M', M.le M' ∧ SH w' M' (XH w X H) [] ∧ R v M') hd hop hca hfo hxs hvs hn hen hcall fun v w' ⟨M', h1, h2, h4⟩ => h v w' M' h1 (S.back h2) h4
theorem U26 {f : FuncId} {vs : List Value} {ca : Call} {fo : Operand} {xs : List Operand} (hd : o.dst = some d) (hop : o.op = .call ca) (hca : ca.callee = .value fo) (hfo : oev L fo = some (.func (.func f) #[] #[]))
    (hxs : ca.args = xs.toArray) (hvs : oevs L xs = some vs) (hn : Nat.blt d n = true) (hen : ∀ args w, (callFunc f args).run P w = .ok (.enter f args) w) (S : SH w M X H)
    {R : Value → Prop} (hcall : Cq P f vs w M (XH w X H) R) (h : ∀ v w', SH w' M X H → R v → Kt ((d, v) :: L) w') : WO P n o L w Kt :=
  wo_call (R := fun v w' => SH w' M (XH w X H) [] ∧ R v) hd hop hca hfo hxs hvs hn hen hcall fun v w' ⟨h2, h4⟩ => h v w' (S.back h2) h4
def Co (P : Program) (f : FuncId) (vs : List Value) (w : World) (M : Hp) (X : Fr) (R : Value → List Rs → Prop) : Prop :=
  Calls P f vs.toArray w fun e w' => ∃ v, e = .returned v ∧ ∃ N, SH w' M X N ∧ R v N
theorem wo_c1 {r : Rs} {f : FuncId} {vs : List Value} {ca : Call} {fo : Operand} {xs : List Operand} (hd : o.dst = some d) (hop : o.op = .call ca) (hca : ca.callee = .value fo) (hfo : oev L fo = some (.func (.func f) #[] #[]))
    (hxs : ca.args = xs.toArray) (hvs : oevs L xs = some vs) (hn : Nat.blt d n = true) (hen : ∀ args w, (callFunc f args).run P w = .ok (.enter f args) w) (S : SH w M X H) (hi : nth H i = some r)
    {R : Value → Hp → Rs → Prop} (hcall : C1 P f vs w M (XH w X (H.set i Rs.emp)) R) (h : ∀ v w' M' r', M.le M' → SH w' M' X (H.set i r') → R v M' r' → Kt ((d, v) :: L) w') : WO P n o L w Kt :=
  wo_call (R := fun v w' => ∃ M' r', M.le M' ∧ SH w' M' (XH w X (H.set i Rs.emp)) [r'] ∧ R v M' r') hd hop hca hfo hxs hvs hn hen hcall fun v w' ⟨M', r', h1, h2, h4⟩ => h v w' M' r' h1 (S.back1 hi h2 rfl) h4
def flatD : TypeDesc → Bool
  | .struct _ => false
  | .array _ _ => false
  | _ => true
theorem run_isAgg {T : TypeId} {dd : TypeDesc} (hu : P.underlying T = some dd) (w : World) : (isAgg T).run P w = .ok (!flatD dd) w := by
  unfold isAgg
  simp only [Sem.run_bind, run_underlying hu, Result.andThen_ok]
  cases dd <;> rfl
theorem run_sizeOf {T : TypeId} {k : Nat} (hk : (P.info? T).map (·.size) = some k) (w : World) : (sizeOf T).run P w = .ok k w := by
  cases hi : P.info? T with
  | none => rw [hi] at hk; cases hk
  | some inf =>
    rw [hi] at hk
    simp only [Option.map_some, Option.some.injEq] at hk
    simp [sizeOf, typeInfo, hi, hk]
theorem U1b {dd : TypeDesc} {p : Addr} (ho : o.op = .load T x) (hx : oev L x = some (.pointer (some p))) (hu : P.underlying T = some dd) (hd : flatD dd = true) (hc : w.cell? p = some u) : Run P o L w u w := by
  intro n c he
  unfold execOp
  simp only [ho, he.eval hx, Instr.loadAt, Instr.sureAddr, Sem.run_bind, Sem.run_pure, Result.andThen_ok, loadVar, run_isAgg hu, hd, Bool.not_true, Bool.false_eq_true, if_false, run_load, hc]
theorem U1k {dd : TypeDesc} {blk : Nat} {us : List Value} (hu : P.underlying T = some dd) (hd : flatD dd = false) (hk : (P.info? T).map (·.size) = some us.length)
    (hc : ∀ j u, us[j]? = some u → w.cell? ⟨blk, off + j, none⟩ = some u) : (loadVar T ⟨blk, off, none⟩).run P w = .ok (.agg us.toArray) w := by
  have hl := run_loadCells_list (P := P) w ⟨blk, off, none⟩ us (fun j u hj => by
    have := hc j u hj
    unfold Addr.add
    split
    · rename_i e; subst e; exact this
    · exact this)
  simp only [loadVar, Sem.run_bind, Sem.run_pure, Result.andThen_ok, run_isAgg hu, hd, Bool.not_false, if_true, run_sizeOf hk, hl]
theorem U1m {dd : TypeDesc} {blk : Nat} {us : List Value} (ho : o.op = .load T x) (hx : oev L x = some (.pointer (some ⟨blk, off, none⟩))) (hu : P.underlying T = some dd) (hd : flatD dd = false) (hk : (P.info? T).map (·.size) = some us.length)
    (hc : ∀ j u, us[j]? = some u → w.cell? ⟨blk, off + j, none⟩ = some u) : Run P o L w (.agg us.toArray) w := by
  intro n c he
  unfold execOp
  simp only [ho, he.eval hx, Instr.loadAt, Instr.sureAddr, Sem.run_bind, Sem.run_pure, Result.andThen_ok, U1k hu hd hk hc]
def piece (l : List Value) : Nat → List Value → Prop
  | _, [] => True
  | o, u :: us => nth l o = some u ∧ piece l (o + 1) us
theorem piece_at {l : List Value} : ∀ {us : List Value} {o : Nat}, piece l o us → ∀ j u, us[j]? = some u → nth l (o + j) = some u
  | [], o, _, j, u, h => by simp at h
  | a :: us, o, hp, 0, u, h => by simp at h; subst h; exact hp.1
  | a :: us, o, hp, j + 1, u, h => by
    have := piece_at hp.2 j u (by simpa using h)
    rwa [show o + 1 + j = o + (j + 1) by omega] at this
theorem SH.boxcs (S : SH w M X H) (hi : nth H i = some (Rs.box g T l)) {us : List Value} (hp : piece l off us) : ∀ j u, us[j]? = some u → w.cell? ⟨g, off + j, none⟩ = some u :=
  fun j u hu => S.boxc hi (piece_at hp j u hu)
theorem BxM.cells {N : Hp} (h : BxM N g T l) (hN : N.le (hp w)) {us : List Value} (hp : piece l off us) : ∀ j u, us[j]? = some u → w.cell? ⟨g, off + j, none⟩ = some u :=
  fun j u hu => h.cell hN (piece_at hp j u hu)
theorem RdA.U1p {α : Type} [Inhabited α] {C : Cd α} {N : Hp} {A : Option Addr} {cp : Nat} {ys : List α} (h : RdA C N A cp ys) (hN : N.le (hp w)) {e : Nat} (he : e < ys.length) {j : Nat} {us : List Value} (hp : piece (C.f (ga ys e)) j us) : ∀ m u, us[m]? = some u → w.cell? ⟨adB A, adO A + e * C.k + j + m, none⟩ = some u := by
  intro m u hu
  have h1 := piece_at hp m u hu
  have h2 : j + m < C.k := by rw [Up] at h1; have := (List.getElem?_eq_some_iff.1 h1).1; rwa [C.hf] at this
  have := h.cell hN he (j + m) (by simpa using h2) h1
  rwa [← Nat.add_assoc] at this
theorem size_al (w : World) (ob : Obj) : (w.alloc ob).heap.size = w.heap.size + 1 := by show (w.heap.push ob).size = _; simp
theorem U2c (w : World) (ob : Obj) : Like w (w.alloc ob) := ⟨rfl, rfl, rfl, by rw [size_al]; omega⟩
theorem U2d (w : World) (ob : Obj) : ∀ b, b < w.heap.size → hp (w.alloc ob) b = hp w b := fun b hb => heap_alloc_old w ob hb
theorem SH.newbox (S : SH w M X H) (T : TypeId) (l : List Value) : SH (w.alloc (.cells l.toArray T)) M X (Rs.box w.heap.size T l :: H) :=
  S.cons (U2c w _) (U2d w _) (heap_alloc_new w _) (fun b hb => by simp [Rs.box] at hb; subst hb; rw [size_al]; omega)
theorem Uv (hop : o.op = .box T x) (hd : o.dst = some d) (hn : Nat.blt d n = true) (hx : oev L x = some v) (hl : v.cells.toList = l) (S : SH w M X H)
    (h : ∀ g w', SH w' M X (Rs.box g T l :: H) → Kt ((d, .pointer (some ⟨g, 0, none⟩)) :: L) w') : WO P n o L w Kt := by
  subst hl
  refine Ua (v := .pointer (some ⟨w.heap.size, 0, none⟩)) (w' := w.alloc (.cells v.cells T)) hd hn ?_ (h _ _ ?_)
  · intro n c he
    unfold execOp
    simp only [hop, he.eval hx, Instr.box, newVar, newRow, run_newObj, Sem.run_bind, Sem.run_pure, Result.andThen_ok]
    rfl
  · have := S.newbox T v.cells.toList
    rwa [Array.toArray_toList] at this
theorem Uk {zv : Value} (hop : o.op = .alloc T) (hd : o.dst = some d) (hn : Nat.blt d n = true) (hz : (P.info? T).map (·.zero) = some (some zv)) (hl : zv.cells.toList = l) (S : SH w M X H)
    (h : ∀ g w', SH w' M X (Rs.box g T l :: H) → Kt ((d, .pointer (some ⟨g, 0, none⟩)) :: L) w') : WO P n o L w Kt := by
  subst hl
  refine Ua (v := .pointer (some ⟨w.heap.size, 0, none⟩)) (w' := w.alloc (.cells zv.cells T)) hd hn ?_ (h _ _ ?_)
  · intro n c he
    have hzv : (zeroValue T).run P w = .ok zv w := by
      cases hi : P.info? T with
      | none => rw [hi] at hz; cases hz
      | some inf =>
        rw [hi] at hz
        simp only [Option.map_some, Option.some.injEq] at hz
        simp [zeroValue, typeInfo, hi, hz]
    unfold execOp
    simp only [hop, Instr.alloc, hzv, newVar, newRow, run_newObj, Sem.run_bind, Sem.run_pure, Result.andThen_ok]
    rfl
  · have := S.newbox T zv.cells.toList
    rwa [Array.toArray_toList] at this
theorem like_setRow (w : World) (g : Nat) (cs : Array Value) : Like w (w.setRow g cs) := ⟨rfl, rfl, rfl, by simp⟩
theorem keep_setRow (w : World) (g : Nat) (cs : Array Value) : ∀ b, b ≠ g → hp (w.setRow g cs) b = hp w b := fun b hb => setRow_other w g b cs hb
def ones : List Value → Bool
  | [] => true
  | u :: us => u.oneCell' && ones us
theorem ones_spec : ∀ {us : List Value}, ones us = true → ∀ u ∈ us, u.oneCell' = true
  | [], _, u, h => by cases h
  | a :: us, h, u, hu => by
    simp only [ones, Bool.and_eq_true] at h
    rcases List.mem_cons.1 hu with rfl | hu
    · exact h.1
    · exact ones_spec h.2 u hu
theorem run_storeAt {blk : Nat} {us : List Value} {E : TypeId} {cur : Array Value} (hop : o.op = .store T x y) (hx : oev L x = some (.pointer (some ⟨blk, off, none⟩))) (hy : oev L y = some v) (hl : v.cells.toList = us) (hk : (P.info? T).map (·.size) = some us.length)
    (hg : w.heap[blk]? = some (.cells cur E (0, 0))) (hfit : off + us.length ≤ cur.size) (h1 : ∀ u ∈ us, u.oneCell' = true) : RunS P o L w (w.setRow blk (cur.toList.take off ++ us ++ cur.toList.drop (off + us.length)).toArray) := by
  intro n c he
  have hs := run_storeCells_at (P := P) blk off E us 0 cur w hg (by simpa using hfit) h1
  unfold execOp
  subst hl
  have hk' : (P.info? T).map (·.size) = some v.cells.size := by rw [hk]; simp
  simp only [hop, he.eval hx, he.eval hy, Instr.storeAt, Instr.sureAddr, storeVar, Sem.run_bind, Sem.run_pure, Result.andThen_ok, run_sizeOf hk', ne_eq, not_true_eq_false, if_false]
  rw [hs]
  simp
theorem U1a {us l' : List Value} {E : TypeId} (hop : o.op = .store T x y) (hd : o.dst = none) (S : SH w M X H) (hi : nth H i = some (Rs.box g E l)) (hx : oev L x = some (.pointer (some ⟨g, off, none⟩))) (hy : oev L y = some v) (hl : v.cells.toList = us) (hk : (P.info? T).map (·.size) = some us.length)
    (hfit : Nat.ble (off + us.length) l.length = true) (h1 : ones us = true) (hl' : spl l off us = l') (hH : H.set i (Rs.box g E l') = H') (h : ∀ w', SH w' M X H' → Kt L w') : WO P n o L w Kt := by
  have hg : hp w g = some (.cells l.toArray E (0, 0)) := S.get hi
  have hfit' : off + us.length ≤ l.length := by simpa using hfit
  refine wo_runS hd (run_storeAt hop hx hy hl hk hg (by simpa using hfit') (ones_spec h1)) (h _ ?_)
  refine S.step hi hH (like_setRow _ _ _) (fun b _ hb => keep_setRow _ _ _ b (by simpa [Rs.box] using hb)) ?_ (fun b hb => ⟨.inl hb, ?_⟩)
  · show hp _ g = some _
    rw [← hl', spl_eq us l off hfit']
    have := setRow_heap w g l.toArray ((l.toArray).toList.take off ++ us ++ (l.toArray).toList.drop (off + us.length)).toArray E (0, 0) hg
    simpa [hp] using this
  · simp [Rs.box] at hb
    subst hb
    have := U27 hg
    simpa using this
theorem flat_spl {α : Type} {C : Cd α} (ys : List α) (e j : Nat) (us : List Value) (y' : α) (he : e < ys.length) (hj : j + us.length ≤ C.k) (hy : spl (C.f ys[e]) j us = C.f y') : spl (ys.flatMap C.f) (e * C.k + j) us = (ys.set e y').flatMap C.f := by
  have hlen : (ys.flatMap C.f).length = ys.length * C.k := Uw C.hf ys
  have hle : e * C.k + C.k ≤ ys.length * C.k := by rw [← Nat.succ_mul]; exact Nat.mul_le_mul_right _ he
  apply List.ext_getElem?
  intro m
  rw [spl_get us _ _ m (by rw [hlen]; omega)]
  by_cases hm : m < ys.length * C.k
  · have hk0 : 0 < C.k := by
      rcases Nat.eq_zero_or_pos C.k with h | h
      · rw [h, Nat.mul_zero] at hm; omega
      · exact h
    have hmi : m / C.k < ys.length := (Nat.div_lt_iff_lt_mul hk0).2 hm
    have hmj : m % C.k < C.k := Nat.mod_lt _ hk0
    have em : m / C.k * C.k + m % C.k = m := by rw [Nat.mul_comm]; exact Nat.div_add_mod m C.k
    have g1 := U15 C.hf hmi hmj
    have g2 := U15 (xs := ys.set e y') C.hf (i := m / C.k) (j := m % C.k) (by rw [List.length_set]; exact hmi) hmj
    rw [em] at g1 g2
    rw [g2, g1]
    by_cases h1 : e = m / C.k
    · have e2 : (ys.set e y')[m / C.k]'(by rw [List.length_set]; exact hmi) = y' := by subst h1; simp
      rw [e2, ← hy, spl_get us _ j _ (by rw [C.hf]; exact hj)]
      have em' : m = e * C.k + m % C.k := by rw [h1]; exact em.symm
      have e3 : ys[m / C.k] = ys[e] := by congr 1; exact h1.symm
      rw [e3]
      by_cases h2 : j ≤ m % C.k ∧ m % C.k < j + us.length
      · rw [if_pos h2, if_pos (by omega)]; congr 1; omega
      · rw [if_neg h2, if_neg (by omega)]
    · have e2 : (ys.set e y')[m / C.k]'(by rw [List.length_set]; exact hmi) = ys[m / C.k] := by rw [List.getElem_set_ne h1]
      rw [e2, if_neg]
      rintro ⟨h2, h3⟩
      apply h1
      have h4 : e * C.k ≤ m := by omega
      have h5 : m < (e + 1) * C.k := by rw [Nat.succ_mul]; omega
      have := (Nat.le_div_iff_mul_le hk0).2 h4
      have := (Nat.div_lt_iff_lt_mul hk0).2 h5
      omega
  · rw [if_neg (by omega), List.getElem?_eq_none (by omega), List.getElem?_eq_none (by rw [Uw C.hf, List.length_set]; omega)]
theorem Ub {α : Type} [Inhabited α] {C : Cd α} {ys : List α} {us : List Value} {rv : Value} {e j : Nat} (y' : α) (hop : o.op = .store T x y) (hd : o.dst = none) (S : SH w M X H) (hi : nth H i = some (Rs.row C rv ys)) (he : e < ys.length) (hx : oev L x = some (.pointer (some ⟨rb rv, e * C.k + j, none⟩))) (hy : oev L y = some v) (hl : v.cells.toList = us) (hk : (P.info? T).map (·.size) = some us.length)
    (hfit : Nat.ble (j + us.length) C.k = true) (h1 : ones us = true) (hl' : spl (C.f (ga ys e)) j us = C.f y') (hH : H.set i (Rs.row C rv (ys.set e y')) = H') (h : ∀ w', SH w' M X H' → Kt L w') : WO P n o L w Kt := by
  have hfit' : j + us.length ≤ C.k := by simpa using hfit
  rw [U14 he] at hl'
  rcases (S.get hi : U1f C rv ys (hp w)) with ⟨_, h2⟩ | ⟨g, cap, cur, rfl, h2, h3, h4, h5, h6⟩
  · subst h2; simp at he
  · have hcur : e * C.k + j + us.length ≤ cur.size := by
      have h7 : e * C.k + C.k ≤ cap * C.k := by rw [← Nat.succ_mul]; exact Nat.mul_le_mul_right _ (by omega)
      omega
    have hx' : oev L x = some (.pointer (some ⟨g, e * C.k + j, none⟩)) := hx
    refine wo_runS hd (run_storeAt hop hx' hy hl hk h2 hcur (ones_spec h1)) (h _ ?_)
    have hcur' : e * C.k + j + us.length ≤ cur.toList.length := by simpa using hcur
    rw [← spl_eq us cur.toList (e * C.k + j) hcur']
    refine S.step hi hH (like_setRow _ _ _) (fun b _ hb => keep_setRow _ _ _ b (by simpa [Rs.row, Value.ownBlock] using hb)) ?_ (fun b hb => ⟨.inl hb, ?_⟩)
    · have hs := setRow_heap w g cur (spl cur.toList (e * C.k + j) us).toArray C.E (0, 0) h2
      refine .inr ⟨g, cap, (spl cur.toList (e * C.k + j) us).toArray, by rw [List.length_set], hs, by rw [List.length_set]; exact h3, h4, by simp [spl_len, h5], ?_⟩
      rw [List.length_set, ← flat_spl ys e j us y' he hfit' hl', ← h6]
      apply List.ext_getElem?
      intro m
      have hle : e * C.k + C.k ≤ ys.length * C.k := by rw [← Nat.succ_mul]; exact Nat.mul_le_mul_right _ he
      have hys : ys.length * C.k ≤ cur.size := by rw [h5]; exact Nat.mul_le_mul_right _ h3
      rw [List.getElem?_take, spl_get us _ _ _ hcur', spl_get us _ _ _ (by simp; omega), List.getElem?_take]
      by_cases hm : m < ys.length * C.k
      · rw [if_pos hm, if_pos hm]
      · rw [if_neg hm, if_neg hm, if_neg (by omega)]
    · simp [Rs.row, Value.ownBlock] at hb
      subst hb
      have := U27 h2
      simpa using this
end
end Go.Proofs.Ytkcighnochjlgaa
namespace Go.Proofs.Ytkcighnochjlgaa
theorem ls {α : Type _} : (∀ (l : List α) (i : Nat) (x : α), (l.set i x).length = l.length) ∧ (∀ a b : List α, (a ++ b).length = a.length + b.length) ∧ (∀ (n : Nat) (x : α), (List.replicate n x).length = n) ∧ (∀ (x : α) (l : List α), (x :: l).length = l.length + 1) ∧ ([] : List α).length = 0 :=
  ⟨fun l i x => List.length_set, fun a b => List.length_append, fun n x => List.length_replicate, fun x l => List.length_cons, List.length_nil⟩
section
variable {P : Program} {n d : Nat} {C : Ctx} {c : Code} {s : List K} {L : List (Nat × Value)} {w : World} {o : Oper} {x : Operand} {v : Value}
theorem wlo (k k' : Nat) (ho : op c k = some o) (hk : k' = k.succ) (hg : o.guard = none) (h : WO P n o L w (fun L' w' => WL P n C c k' s L' w')) : WL P n C c k s L w := Ud ho hk hg h
theorem wlm (k k' : Nat) (ho : op c k = some o) (hk : k' = k.succ) (hg : o.guard = none) (hd : o.dst = some d) (hn : Nat.blt d n = true) (hm : o.op = .move x) (hx : oev L x = some v) (h : WL P n C c k' s ((d, v) :: L) w) : WL P n C c k s L w := Ud ho hk hg (Ua hd hn (run_move hm hx) h)
def pkL (L : List (Nat × Value)) : List Nat → Option (List (Nat × Value))
  | [] => some []
  | k :: r => match lk L k, pkL L r with
    | some v, some l => some ((k, v) :: l)
    | _, _ => none
theorem pkL_sub {L : List (Nat × Value)} : ∀ {ks : List Nat} {L2 : List (Nat × Value)}, pkL L ks = some L2 → Sub L L2
  | [], _, h => by cases h; exact trivial
  | k :: r, L2, h => by
    unfold pkL at h
    split at h
    · rename_i v l h1 h2
      cases h
      exact ⟨h1, pkL_sub h2⟩
    · cases h
theorem nmk (ks : List Nat) {L2 : List (Nat × Value)} (hs : pkL L ks = some L2) (h : NM P n C s L2 w) : NM P n C s L w := U10 L2 (pkL_sub hs) h
theorem wln (k k' : Nat) {o2 : Oper} {j t : Nat} {b : Bool} {g : Value} (ho : op c k = some o) (hk : k' = k.succ) (hg : o.guard = some (j, b)) (h1 : op c j = some o2) (h2 : o2.dst = some t) (h3 : lk L t = some g) (h4 : isG g b = false) (hd : o.dst = some d) (hn : (Nat.blt d n && gslot c o n) = true) (h : WL P n C c k' s ((d, undef) :: L) w) : WL P n C c k s L w := wl_no ho hk (by rw [hg]; exact ⟨_, _, _, h1, h2, h3, h4⟩) hd hn h
theorem wlg (k k' : Nat) {o2 : Oper} {j t : Nat} {b : Bool} {g : Value} (ho : op c k = some o) (hk : k' = k.succ) (hg : o.guard = some (j, b)) (h1 : op c j = some o2) (h2 : o2.dst = some t) (h3 : lk L t = some g) (h4 : isG g b = true) (hn : gslot c o n = true) (h : WO P n o L w (fun L' w' => WL P n C c k' s L' w')) : WL P n C c k s L w := wl_opG ho hk (by rw [hg]; exact ⟨_, _, _, h1, h2, h3, h4⟩) hn h
theorem wla (k k' : Nat) (ho : op c k = some o) (hk : k' = k.succ) (hg : o.guard = none) (hd : o.dst = some d) (hn : Nat.blt d n = true) (hm : o.op = .assign x) (hx : oev L x = some v) (h : WL P n C c k' s ((d, v) :: L) w) : WL P n C c k s L w := Ud ho hk hg (Ua hd hn (run_assign hm hx) h)
end
end Go.Proofs.Ytkcighnochjlgaa
namespace Go.Proofs.Ytkcighnochjlgaa
open Go.ChangeShapes Go.WideShapes Go.ChangeAt Go.RowKit
section
variable {P : Program} {o : Oper} {L : List (Nat × Value)} {w w' : World} {x y z : Operand} {t t' T E : TypeId} {a b : Int} {v u : Value} {n d : Nat} {Kt : List (Nat × Value) → World → Prop} {M M' : Hp} {X : Fr} {H H' : List Rs} {i g off : Nat} {l : List Value}
theorem add_mul0 (b o e k : Nat) : (⟨b, o, none⟩ : Addr).add (e * k) = ⟨b, o + e * k, none⟩ := by
  unfold Addr.add
  split
  · rename_i h; rw [h]; rfl
  · rfl
theorem run_indexAddr {bo : Nat} {A : Option Addr} {m c : Nat} {e k : Nat} (hop : o.op = .indexAddr T x y) (hx : oev L x = some (.slice A m c)) (hy : oev L y = some (.int .i64 a)) (hu : P.underlying T = some (.slice E)) (hk : (P.info? E).map (·.size) = some k)
    (ha : a = (e : Int)) (he : e < m) (hA : A = some ⟨g, bo, none⟩) : Run P o L w (.pointer (some ⟨g, bo + e * k, none⟩)) w := by
  intro n c he'
  subst hA
  unfold execOp
  have h1 : (0 : Int) ≤ (e : Int) ∧ (e : Int) < (m : Int) := by omega
  simp only [hop, he'.eval hx, he'.eval hy, Instr.indexAt, asIntOf, Sem.run_bind, Sem.run_pure, Result.andThen_ok, run_underlying hu, ha, h1, and_self, if_true, run_sizeOf hk, Int.toNat_natCast, add_mul0]
theorem run_indexM {α : Type} {C : Cd α} {N : Hp} {A : Option Addr} {xs : List α} {c : Nat} (e : Nat) (hop : o.op = .indexAddr T x y) (hx : oev L x = some (.slice A xs.length c)) (hy : oev L y = some (.int .i64 a)) (hT : SlOf P T C)
    (ha : a = (e : Int)) (h : RdA C N A c xs) (he : e < xs.length) : Run P o L w (.pointer (some ⟨adB A, adO A + e * C.k, none⟩)) w := by
  obtain ⟨z, h1, h2, _⟩ := hT
  obtain ⟨inf, hi, _, hs, _⟩ := info_parts h2
  exact run_indexAddr hop hx hy h1 (by rw [hi]; simp [hs]) ha he (h.2.2 (by omega)).1
theorem run_indexR {α : Type} {C : Cd α} {xs : List α} {v : Value} (e : Nat) (hop : o.op = .indexAddr T x y) (hx : oev L x = some v) (hy : oev L y = some (.int .i64 a)) (hT : SlOf P T C) (S : SH w M X H) (hi : nth H i = some (Rs.row C v xs))
    (ha : a = (e : Int)) (he : e < xs.length) : Run P o L w (.pointer (some ⟨rb v, e * C.k, none⟩)) w := by
  obtain ⟨cap, hv, _⟩ := S.some_ hi (by omega)
  obtain ⟨z, h1, h2, _⟩ := hT
  obtain ⟨inf, hi, _, hs, _⟩ := info_parts h2
  have hr : (0 : Nat) + e * C.k = e * C.k := Nat.zero_add _
  rw [hv] at hx
  have := run_indexAddr (P := P) (w := w) hop hx hy h1 (k := C.k) (by rw [hi]; simp [hs]) ha he rfl
  rw [hr] at this
  exact this
theorem run_lenR {α : Type} {C : Cd α} {xs : List α} {v : Value} {ca : Call} {ops : List Operand} {ts : List TypeId} (hop : o.op = .call ca) (hca : ca.callee = .builtin .len) (hxs : ca.args = ops.toArray) (hts : ca.argTypes = ts.toArray) (hx : oevs L ops = some [v]) (ht : nth ts 0 = some t) (hT : SlOf P t C) (S : SH w M X H) (hi : nth H i = some (Rs.row C v xs)) : Run P o L w (.int .i64 (xs.length : Int)) w := by
  obtain ⟨A, c, hv, _⟩ := S.sl hi
  rw [hv] at hx
  obtain ⟨z, h1, _⟩ := hT
  exact run_len hop hca hxs hts hx ht h1
theorem U1y {α : Type} {C : Cd α} (m : Nat) (hop : o.op = .makeSlice T x y) (hd : o.dst = some d) (hn : Nat.blt d n = true) (hx : oev L x = some (.int .i64 a)) (hy : oev L y = some (.int .i64 a)) (hT : SlOf P T C) (ha : a = (m : Int)) (hb : m * C.u8 ≤ 140737488355328) (S : SH w M X H)
    (h : ∀ v w', SH w' M X (Rs.row C v (List.replicate m C.z) :: H) → Kt ((d, v) :: L) w') : WO P n o L w Kt := by
  obtain ⟨zv, h1, h2, h3, h4, h5⟩ := hT
  obtain ⟨inf, hi, hz, hs, h8⟩ := info_parts h2
  have hm : m * 1 ≤ m * C.u8 := Nat.mul_le_mul_left m h5
  have hr := run_make (P := P) w T C.E inf zv h1 hi hz .i64 .i64 (m : Int) (m : Int) (by omega) (by omega) (by
    rw [h8]
    have h : ((C.u8 * m : Nat) : Int) ≤ 140737488355328 := by rw [Nat.mul_comm]; omega
    rw [Int.natCast_mul] at h
    omega) (by omega)
  rw [hs] at hr
  have hmade : (madeCells zv.cells (m * C.k)).toList = (List.replicate m C.z).flatMap C.f := by
    have hk : zv.cells.size = C.k := by rw [← C.hf C.z, ← h3]; simp
    apply List.ext_getElem?
    intro q
    by_cases hq : q < m * C.k
    · have hi : q / C.k < (List.replicate m C.z).length := by rw [List.length_replicate]; exact (Nat.div_lt_iff_lt_mul h4).2 hq
      have hj : q % C.k < C.k := Nat.mod_lt _ h4
      have e := U15 C.hf hi hj
      rw [show q / C.k * C.k + q % C.k = q by rw [Nat.mul_comm]; exact Nat.div_add_mod q C.k] at e
      rw [e, List.getElem_replicate, ← h3]
      simp only [madeCells, hk, Array.toList_map, Array.toList_range, List.getElem?_map, List.getElem?_range hq, Option.map_some]
      rw [Array.getElem!_eq_getD]
      simp [hk, hj]
    · rw [List.getElem?_eq_none, List.getElem?_eq_none]
      · rw [Uw C.hf, List.length_replicate]; omega
      · simp [madeCells]; omega
  refine Ua (v := .slice (some ⟨w.heap.size, 0, none⟩) m m) (w' := w.alloc (.cells (madeCells zv.cells (m * C.k)) C.E)) hd hn ?_ (h _ _ ?_)
  · intro n c he
    unfold execOp
    simp only [hop, he.eval hx, he.eval hy, ha, Sem.run_bind, hr, Result.andThen_ok, Sem.run_pure, Int.toNat_natCast]
  · refine S.cons (U2c w _) (U2d w _) ?_ (fun b hb => by simp [Rs.row, Value.ownBlock] at hb; subst hb; rw [size_al]; omega)
    refine .inr ⟨w.heap.size, m, _, by rw [List.length_replicate], heap_alloc_new w _, by rw [List.length_replicate]; exact Nat.le_refl _, ?_, by simp [madeCells], ?_⟩
    · unfold maxLen; omega
    · rw [hmade, List.length_replicate, List.take_of_length_le]
      rw [Uw C.hf, List.length_replicate]; exact Nat.le_refl _
theorem grown_like {row : Option Nat} (h : w.grownBy w' row) : Like w w' := ⟨h.os, h.tape, h.output, h.size⟩
theorem room_max {m k : Nat} (h0 : 0 < k) (h : m * k ≤ 140737488355328) : m ≤ maxLen := by
  have : m * 1 ≤ m * k := Nat.mul_le_mul_left m h0
  unfold maxLen
  omega
theorem wo_append {α : Type} {C : Cd α} {xs ys : List α} {A : Option Addr} {c : Nat} {ca : Call} {ops : List Operand} {ts : List TypeId} {rv : Value} (hop : o.op = .call ca) (hca : ca.callee = .builtin .append) (hxs : ca.args = ops.toArray) (hts : ca.argTypes = ts.toArray) (hd : o.dst = some d) (hn : Nat.blt d n = true)
    (hx : oevs L ops = some [rv, .slice A ys.length c]) (ht : ts = [t, t]) (hT : SlOf P t C) (S : SH w M X H) (hi : nth H i = some (Rs.row C rv xs))
    (hsrc : ys.length = 0 ∨ ∃ ad, A = some ad ∧ ∀ j u, (ys.flatMap C.f)[j]? = some u → w.cell? (ad.add j) = some u) (hr : (xs.length + ys.length) * C.u8 ≤ 140737488355328)
    (h : ∀ v' w', SH w' M X (H.set i (Rs.row C v' (xs ++ ys))) → Kt ((d, v') :: L) w') : WO P n o L w Kt := by
  obtain ⟨zv, h1, h2, h3, h4, h5⟩ := hT
  obtain ⟨inf, hinf, hz, hs, h8⟩ := info_parts h2
  have hk : zv.cells.size = C.k := by rw [← C.hf C.z, ← h3]; simp
  have hown := U1f.owns (S.get hi : U1f C rv xs (hp w))
  have key : ∃ v' w', (Builtin.append_ #[t, t] o.type #[rv, .slice A ys.length c]).run P w = .ok v' w' ∧ w'.ownsRow 0 C.E C.k v' (xs.length + ys.length) (xs.flatMap C.f ++ ys.flatMap C.f) ∧ w.grownBy w' rv.ownBlock ∧ (v'.ownBlock = rv.ownBlock ∨ v'.ownBlock = some w.heap.size) := by
    rcases Nat.eq_zero_or_pos ys.length with h0 | h0
    · have hy : ys = [] := List.eq_nil_of_length_eq_zero h0
      subst hy
      rcases A with _ | ad
      · refine ⟨rv, w, ?_, by simpa using hown, ⟨rfl, rfl, rfl, Nat.le_refl _, fun _ _ _ => rfl⟩, .inl rfl⟩
        rcases hown.2 with ⟨h6, h7⟩ | ⟨g, cap, cur, h6, _, _, hnc, _⟩
        · rw [h6]
          simp [Builtin.append_, run_underlying h1, sizeOf, typeInfo, hinf, Builtin.lenOf, Builtin.firstCells]
        · rw [h6]
          simp [Builtin.append_, run_underlying h1, sizeOf, typeInfo, hinf, Builtin.lenOf, Builtin.firstCells, hnc, storeCells]
      · obtain ⟨v', w', hrun, r1, r2, _, r3⟩ := run_append_own_at (P := P) w 0 t o.type C.E inf zv C.k C.u8 h1 hinf hz hs h8 hk h4 rv xs.length (xs.flatMap C.f) hown ad 0 c [] (by simp) (by simp) (by simp) (room_max h5 (by simpa using hr)) (by simpa using hr) (Nat.zero_le _)
        exact ⟨v', w', hrun, r1, r2, r3⟩
    · rcases hsrc with h6 | ⟨ad, rfl, hcells⟩
      · omega
      · obtain ⟨v', w', hrun, r1, r2, _, r3⟩ := run_append_own_at (P := P) w 0 t o.type C.E inf zv C.k C.u8 h1 hinf hz hs h8 hk h4 rv xs.length (xs.flatMap C.f) hown ad ys.length c (ys.flatMap C.f) (Uw C.hf ys) hcells (C.flat1 ys) (room_max h5 hr) hr (Nat.zero_le _)
        exact ⟨v', w', hrun, r1, r2, r3⟩
  obtain ⟨v', w', hrun, r1, r2, r3⟩ := key
  refine Ua (v := v') (w' := w') hd hn ?_ (h _ _ ?_)
  · intro n c' he
    unfold execOp
    simp only [hop, resolve, hca, hxs, hts, ht, List.map_toArray, he.evals hx, Sem.run_bind, Sem.run_pure, Result.andThen_ok, invoke, builtin, hrun]
  · refine S.step hi rfl (grown_like r2) (fun b hb hnb => r2.block b hb (fun e => hnb (by simp [Rs.row, ← e]))) ?_ (fun b hb => ?_)
    · refine U1f.of_owns ?_
      rw [List.length_append, List.flatMap_append]
      exact r1
    · have hb' : v'.ownBlock = some b := by simpa [Rs.row] using hb
      refine ⟨?_, (World.ownsRow.lt r1 b hb').2⟩
      rcases r3 with r3 | r3
      · exact .inl (by simp [Rs.row, ← r3, hb'])
      · rw [hb'] at r3; injection r3 with r3; exact .inr (by omega)
theorem wo_appendM {α : Type} {C : Cd α} {xs ys : List α} {N : Hp} {A : Option Addr} {c : Nat} {ca : Call} {ops : List Operand} {ts : List TypeId} {rv : Value} (hop : o.op = .call ca) (hca : ca.callee = .builtin .append) (hxs : ca.args = ops.toArray) (hts : ca.argTypes = ts.toArray) (hd : o.dst = some d) (hn : Nat.blt d n = true)
    (hx : oevs L ops = some [rv, .slice A ys.length c]) (ht : ts = [t, t]) (hT : SlOf P t C) (S : SH w M X H) (hi : nth H i = some (Rs.row C rv xs)) (hy : RdA C N A c ys) (hN : N.le (hp w)) (hr : (xs.length + ys.length) * C.u8 ≤ 140737488355328)
    (h : ∀ v' w', SH w' M X (H.set i (Rs.row C v' (xs ++ ys))) → Kt ((d, v') :: L) w') : WO P n o L w Kt := by
  refine wo_append hop hca hxs hts hd hn hx ht hT S hi ?_ hr h
  rcases Nat.eq_zero_or_pos ys.length with h0 | h0
  · exact .inl h0
  · refine .inr ⟨_, (hy.2.2 h0).1, fun j u hu => ?_⟩
    have := hy.cells hN j u hu
    unfold Addr.add
    split
    · rename_i e; subst e; exact this
    · exact this
def fillL (pl : List (Nat × Nat)) : List Value → List (Nat × Value) → Option (List Value)
  | cs, [] => some cs
  | cs, (i, v) :: r => match nth pl i with
    | none => none
    | some p => match Nat.beq v.cells.toList.length p.2 && Nat.ble (p.1 + p.2) cs.length with
      | true => fillL pl (spl cs p.1 v.cells.toList) r
      | false => none
theorem foldl_set : ∀ (us : List Value) (k off : Nat) (cs : Array Value), ((us.zipIdx k).foldl (fun cs (c, j) => cs.setIfInBounds (off + j) c) cs).toList = spl cs.toList (off + k) us
  | [], k, off, cs => rfl
  | u :: us, k, off, cs => by
    rw [List.zipIdx_cons, List.foldl_cons, foldl_set us (k + 1) off]
    simp [spl, Nat.add_assoc]
theorem fill_eq {pl : List (Nat × Nat)} {place : Nat → Option (Nat × Nat)} (hpl : ∀ i, nth pl i = place i) : ∀ (ps : List (Nat × Value)) (cs : Array Value) (out : List Value), fillL pl cs.toList ps = some out → Instr.fill place cs ps = some out.toArray
  | [], cs, out, h => by
    simp only [fillL, Option.some.injEq] at h
    subst h
    simp [Instr.fill]
  | (i, v) :: r, cs, out, h => by
    unfold fillL at h
    unfold Instr.fill
    rw [← hpl i]
    split at h
    · cases h
    · rename_i p hp
      simp only [hp]
      split at h
      · rename_i hc
        simp only [Bool.and_eq_true] at hc
        have h1 : v.cells.size = p.2 := by have := Nat.eq_of_beq_eq_true hc.1; simpa using this
        have h2 : p.1 + p.2 ≤ cs.size := by have := Nat.le_of_ble_eq_true hc.2; simpa using this
        obtain ⟨po, ps⟩ := p
        simp only at h1 h2 h ⊢
        rw [if_neg (by simp [h1]; omega)]
        refine fill_eq hpl r _ out ?_
        rw [← Array.foldl_toList, Array.toList_zipIdx, foldl_set, Nat.add_zero]
        exact h
      · cases h
def partL (L : List (Nat × Value)) : List (Nat × Operand) → Option (List (Nat × Value))
  | [] => some []
  | (i, x) :: r => match oev L x, partL L r with
    | some v, some vs => some ((i, v) :: vs)
    | _, _ => none
theorem partL_eq {n : Nat} {a : Act} (h : Env n L a) : ∀ {ps : List (Nat × Operand)} {vs : List (Nat × Value)}, partL L ps = some vs → ps.map (fun p => (p.1, a.eval p.2)) = vs
  | [], vs, hx => by simp only [partL, Option.some.injEq] at hx; subst hx; rfl
  | (i, x) :: r, vs, hx => by
    simp only [partL] at hx
    split at hx
    · rename_i v vs' h1 h2
      simp only [Option.some.injEq] at hx
      subst hx
      rw [List.map_cons, h.eval h1, partL_eq h h2]
    · cases hx
def Al2 {α β : Type} (R : α → β → Prop) : List α → List β → Prop
  | [], [] => True
  | x :: xs, y :: ys => R x y ∧ Al2 R xs ys
  | _, _ => False
def FldIs (P : Program) (f : Field) (p : Nat × Nat) : Prop := p.1 = f.offset ∧ (P.info? f.type).map (·.size) = some p.2
def StOf (P : Program) (T : TypeId) (pl : List (Nat × Nat)) (z : List Value) : Prop :=
  ∃ fs : List Field, P.underlying T = some (.struct fs.toArray) ∧ (P.info? T).map (·.zero) = some (some (.agg z.toArray)) ∧ Al2 (FldIs P) fs pl
theorem run_zero {zv : Value} (hz : (P.info? T).map (·.zero) = some (some zv)) (w : World) : (zeroValue T).run P w = .ok zv w := by
  cases hi : P.info? T with
  | none => rw [hi] at hz; cases hz
  | some inf =>
    rw [hi] at hz
    simp only [Option.map_some, Option.some.injEq] at hz
    simp [zeroValue, typeInfo, hi, hz]
theorem places_eq (w : World) : ∀ {fs : List Field} {pl : List (Nat × Nat)}, Al2 (FldIs P) fs pl → (fs.mapM (fun f => do pure (f.offset, ← sizeOf f.type) : Field → Sem (Nat × Nat))).run P w = .ok pl w
  | [], [], _ => by simp
  | f :: fs, p :: pl, h => by
    obtain ⟨⟨h1, h2⟩, h3⟩ := h
    simp only [List.mapM_cons, Sem.run_bind, run_sizeOf h2, Result.andThen_ok, Sem.run_pure, places_eq w h3]
    rw [← h1]
  | [], _ :: _, h => False.elim h
  | _ :: _, [], h => False.elim h
theorem run_build {pl : List (Nat × Nat)} {zl : List Value} {ps : List (Nat × Operand)} {vs : List (Nat × Value)} {pa : Array (Nat × Operand)} (hop : o.op = .build T pa) (hpa : pa = ps.toArray) (hT : StOf P T pl zl) (hps : partL L ps = some vs) (hl : fillL pl zl vs = some l) : Run P o L w (.agg l.toArray) w := by
  obtain ⟨fs, h1, h2, h3⟩ := hT
  intro n c he
  subst hpa
  unfold execOp
  have e := partL_eq he hps
  have hm : (fs.toArray.mapM (fun f => do pure (f.offset, ← sizeOf f.type) : Field → Sem (Nat × Nat))).run P w = .ok pl.toArray w := by
    rw [List.mapM_toArray, ← bind_pure_comp, Sem.run_bind, places_eq w h3]
    rfl
  have hf := fill_eq (pl := pl) (place := fun i => pl.toArray[i]?) (fun i => by rw [Up]; simp) vs zl.toArray l (by simpa using hl)
  simp only [hop, Instr.build, run_zero h2, run_underlying h1, Sem.run_bind, Sem.run_pure, Result.andThen_ok, hm, List.map_toArray, e]
  rw [show Value.cells (.agg zl.toArray) = zl.toArray from rfl, hf]
  rfl
theorem Uh {α : Type} {C : Cd α} {pa : Array (Nat × Operand)} {x : Operand} (hop : o.op = .buildSlice T 1 pa) (hpa : pa = #[(0, x)]) (hd : o.dst = some d) (hn : Nat.blt d n = true) (hT : SlOf P T C) (hx : oev L x = some v) (hl : v.cells.toList = l) (hk : l.length = C.k) (hsm : Nat.ble C.k 16777216 = true) (S : SH w M X H)
    (h : ∀ g w', SH w' M X (Rs.box g C.E l :: H) → Kt ((d, .slice (some ⟨g, 0, none⟩) 1 1) :: L) w') : WO P n o L w Kt := by
  obtain ⟨zv, h1, h2, h3, h4, h5⟩ := hT
  obtain ⟨inf, hinf, hz, hs, h8⟩ := info_parts h2
  have hzk : zv.cells.size = C.k := by rw [← C.hf C.z, ← h3]; simp
  subst hl
  have hvk : v.cells.size = C.k := by simpa using hk
  have hf : Instr.fill (fun i => some (i * C.k, C.k)) ((Array.range (1 * C.k)).map (zv.cells[· % zv.cells.size]!)) [(0, v)] = some v.cells := by
    simp only [Instr.fill]
    rw [if_neg (by simp [hvk])]
    congr 1
    apply Array.ext'
    rw [← Array.foldl_toList, Array.toList_zipIdx, foldl_set, spl_eq _ _ _ (by simp [hvk])]
    simp [hvk]
  have hr := run_buildSlice (P := P) w T C.E 1 #[(0, v)] v.cells inf zv h1 hinf hz (by rw [hs]; have := Nat.le_of_ble_eq_true hsm; omega) (by rw [hs]; omega) (by rw [hs]; exact hf)
  refine Ua (v := .slice (some ⟨w.heap.size, 0, none⟩) 1 1) (w' := w.alloc (.cells v.cells C.E)) hd hn ?_ (h _ _ ?_)
  · intro n c he
    unfold execOp
    subst hpa
    simp only [hop, List.map_toArray, List.map_cons, List.map_nil, he.eval hx, hr, Sem.run_bind, Sem.run_pure, Result.andThen_ok]
  · have := S.newbox C.E v.cells.toList
    rwa [Array.toArray_toList] at this
end
end Go.Proofs.Ytkcighnochjlgaa
namespace Go.Proofs.Ytkcighnochjlgaa
open Go.ChangeShapes Go.WideShapes Go.ChangeAt Go.RowKit
section
variable {P : Program} {ops : Array Oper} {Q : Exit → Act → World → Prop} {md : Region.Mode}
theorem wp_shift {o : Oper} {a b : Act} {w : World} {K L : Act → World → Prop} (he : execOp a.eval o = execOp b.eval o) (hK : ∀ v w', K (a.put o.dst v) w' → L (b.put o.dst v) w')
    (hD : ∀ d w', K (({ a with defers := d :: a.defers } : Act).put o.dst undef) w' → L (({ b with defers := d :: b.defers } : Act).put o.dst undef) w') (hQ : ∀ c w', Q (.panic c) a w' → Q (.panic c) b w')
    (h : o.wp P a w K Q) : o.wp P b w L Q := by
  unfold Oper.wp at *
  rw [← he]
  generalize (execOp a.eval o).run P w = r at *
  cases r with
  | ok n w' =>
    cases n <;> simp only [Oper.upon] at h ⊢
    case value u => exact hK u _ h
    case skip => exact hK _ _ h
    case defer d => exact hD d _ h
    case enter f args =>
      refine Calls.mono h fun e w2 he => ?_
      cases e with
      | returned u => exact hK u _ he
      | panicked c => exact hQ c _ he
      | outgrown => exact he
    case row row args => exact Rows.mono h fun u w2 he => hK u _ he
  | halt x w' =>
    cases x <;> simp only [Oper.upon] at h ⊢
    case panic u => exact hQ _ _ h
theorem asks_shift {o : Oper} {a b : Act} {w : World} (he : execOp a.eval o = execOp b.eval o) (h : o.asks P a w) : o.asks P b w := by
  unfold Oper.asks at *
  rw [← he]
  exact h
def predsOf (md : Region.Mode) (ops : Array Oper) (j : Nat) : List Nat := match ops[j]? with
  | some o => (o.after.toList.filter fun e => Region.binds md e).map (·.on)
  | none => []
def allBefore (md : Region.Mode) (ops : Array Oper) : Nat → Nat → List Nat
  | 0, _ => []
  | f + 1, j => predsOf md ops j ++ (predsOf md ops j).flatMap (allBefore md ops f)
def Down (md : Region.Mode) (ops : Array Oper) (l : Array Bool) : Prop := ∀ k, l.getD k false = true → ∀ p ∈ predsOf md ops k, l.getD p false = true
theorem down_start (n : Nat) : Down md ops (Array.replicate n false) := by
  intro k hk
  rw [Array.getD_eq_getD_getElem?, Array.getElem?_replicate] at hk
  split at hk <;> simp at hk
theorem ready_preds {l : Array Bool} {j : Nat} (h : j ∈ Region.ready md ops l) : ∀ p ∈ predsOf md ops j, l.getD p false = true := by
  intro p hp
  obtain ⟨_, o, ho, hall⟩ := mem_ready.1 h
  simp only [predsOf, ho, List.mem_map, List.mem_filter] at hp
  obtain ⟨e, ⟨he, hb⟩, rfl⟩ := hp
  exact hall e (Array.mem_def.2 he) hb
theorem down_set {l : Array Bool} {j : Nat} (hd : Down md ops l) (h : j ∈ Region.ready md ops l) : Down md ops (l.setIfInBounds j true) := by
  intro k hk p hp
  by_cases hkj : k = j
  · subst hkj
    exact getD_set_true (ready_preds h p hp)
  · rw [getD_set_ne false (Ne.symm hkj)] at hk
    exact getD_set_true (hd k hk p hp)
theorem down_all {l : Array Bool} (hd : Down md ops l) : ∀ (f j : Nat), (∀ p ∈ predsOf md ops j, l.getD p false = true) → ∀ k ∈ allBefore md ops f j, l.getD k false = true := by
  intro f
  induction f with
  | zero => intro j _ k hk; simp [allBefore] at hk
  | succ f ih =>
    intro j hp k hk
    simp only [allBefore, List.mem_append, List.mem_flatMap] at hk
    rcases hk with hk | ⟨p, hp1, hk⟩
    · exact hp k hk
    · exact ih p (hd p (hp p hp1)) k hk
end
end Go.Proofs.Ytkcighnochjlgaa
namespace Go.Proofs.Ytkcighnochjlgaa
open Go.ChangeShapes Go.WideShapes Go.ChangeAt Go.RowKit
section
variable {P : Program} {ops : Array Oper} {Q : Exit → Act → World → Prop} {md : Region.Mode} {X : Fr}
def pureOp (ops : Array Oper) (k : Nat) : Bool := match ops[k]? with
  | some o => (match o.op with
    | .move _ => true
    | .assign _ => true
    | .pick _ _ _ => true
    | .binOp _ _ _ _ _ => true
    | .unOp _ _ _ => true
    | .field _ _ _ => true
    | .extract _ _ => true
    | .fieldAddr _ _ _ => true
    | .nilCheck _ => true
    | .alloc _ => true
    | .box _ _ => true
    | .store _ _ _ => true
    | .buildSlice _ _ _ => true
    | .makeSlice _ _ _ => true
    | _ => false)
  | none => false
def closP (md : Region.Mode) (ops : Array Oper) (l : Array Bool) (j : Nat) : Bool := (List.range ops.size).all fun k => !l.getD k false || pureOp ops k || (allBefore md ops ops.size j).contains k
theorem closP_not {l : Array Bool} (hd : Down md ops l) {i j : Nat} (hj : j ∈ Region.ready md ops l) (hc : closP md ops (l.setIfInBounds i true) j = true) (hs : pureOp ops i = false) (hlt : i < ops.size) (hil : ¬ l.getD i false = true) (hsz : i < l.size) : False := by
  have := List.all_eq_true.1 hc i (by simpa using hlt)
  have e : (l.setIfInBounds i true).getD i false = true := by simp [Array.getD_eq_getD_getElem?, hsz]
  simp only [e, Bool.not_true, hs, Bool.false_or] at this
  exact hil (down_all hd ops.size j (ready_preds hj) i (List.contains_iff_mem.1 this))
def Grown (Mb : Hp) (Hb : List Rs) (M : Hp) (H : List Rs) : Prop := Mb.le M ∧ ∃ N, H = N ++ Hb
theorem Grown.refl (M : Hp) (H : List Rs) : Grown M H M H := ⟨Hp.le_refl _, [], rfl⟩
theorem Grown.trans {Ma Mb M : Hp} {Ha Hb H : List Rs} (h : Grown Ma Ha Mb Hb) (k : Grown Mb Hb M H) : Grown Ma Ha M H := by
  obtain ⟨h1, N, rfl⟩ := h
  obtain ⟨k1, N', rfl⟩ := k
  exact ⟨h1.trans k1, N' ++ N, by rw [List.append_assoc]⟩
def AnyM (P : Program) (md : Region.Mode) (ops : Array Oper) (Q : Exit → Act → World → Prop) (X : Fr) : Nat → Array Bool → Act → Hp → List Rs → Hp → List Rs → Prop
  | 0, l, a, _, _, M, H => ∀ w, SH w M X H → Region.ready md ops l = [] ∧ Q .normal a w
  | f + 1, l, a, Mb, Hb, M, H => ∀ w, SH w M X H → Down md ops l → (Region.ready md ops l = [] → Q .normal a w) ∧
    ∀ j ∈ Region.ready md ops l, wpOp P ops Q j (fun a2 w2 => ∃ M2 H2, SH w2 M2 X H2 ∧
      ((Grown Mb Hb M2 H2 ∧ AnyM P md ops Q X f (l.setIfInBounds j true) a2 Mb Hb M2 H2) ∨ (closP md ops l j = true ∧ AnyM P md ops Q X f (l.setIfInBounds j true) a2 M2 H2 M2 H2))) a w
theorem AnyM.any : ∀ (f : Nat) (l : Array Bool) (a : Act) (Mb : Hp) (Hb : List Rs) (M : Hp) (H : List Rs) (w : World), SH w M X H → Down md ops l → AnyM P md ops Q X f l a Mb Hb M H → wpAny P md ops Q f l a w := by
  intro f
  induction f with
  | zero => intro l a Mb Hb M H w S _ h; exact h w S
  | succ f ih =>
    intro l a Mb Hb M H w S hd h
    obtain ⟨h0, h1⟩ := h w S hd
    refine ⟨h0, fun j hj => wpOp_mono (fun a2 w2 hc => ?_) (h1 j hj)⟩
    obtain ⟨M2, H2, S2, ⟨_, hc⟩ | ⟨_, hc⟩⟩ := hc
    · exact ih _ _ _ _ _ _ _ S2 (down_set hd hj) hc
    · exact ih _ _ _ _ _ _ _ S2 (down_set hd hj) hc
def YieldM (P : Program) (ops : Array Oper) (X : Fr) (o : Oper) (v : Value) (a : Act) (M : Hp) (H : List Rs) : Prop :=
  (Region.wanted o (yielded ops a.tmps) = true ∧ ∀ M2 N w, M.le M2 → SH w M2 X (N ++ H) → match (execOp a.eval o).run P w with
    | .ok (.value u) w2 => u = v ∧ SH w2 M2 X (N ++ H)
    | .ok .skip w2 => v = undef ∧ SH w2 M2 X (N ++ H)
    | .ok (.enter f args) w2 => Calls P f args w2 fun e w3 => e = .returned v ∧ SH w3 M2 X (N ++ H)
    | .ok (.row row args) w2 => Rows P row args w2 fun u w3 => u = v ∧ SH w3 M2 X (N ++ H)
    | _ => False) ∨ (Region.wanted o (yielded ops a.tmps) = false ∧ v = undef)
theorem YieldM.of_same {o : Oper} {v : Value} {a b : Act} {M : Hp} {H : List Rs} (h : YieldM P ops X o v a M H) (he : execOp b.eval o = execOp a.eval o) (hw : Region.wanted o (yielded ops b.tmps) = Region.wanted o (yielded ops a.tmps)) : YieldM P ops X o v b M H := by
  unfold YieldM at *
  rw [he, hw]
  exact h
theorem YieldM.wpOp {i : Nat} {o : Oper} {v : Value} {a : Act} {Mb M : Hp} {Hb H : List Rs} {w : World} (S : SH w M X H) (hg : Grown Mb Hb M H) (hi : ops[i]? = some o) (hy : YieldM P ops X o v a Mb Hb) {K : Act → World → Prop} (h : ∀ w2, SH w2 M X H → K (a.put o.dst v) w2) : wpOp P ops Q i K a w := by
  obtain ⟨hle, N0, rfl⟩ := hg
  unfold Go.wpOp
  simp only [hi]
  rcases hy with ⟨hw, hv⟩ | ⟨hw, rfl⟩
  · simp only [hw, if_true]
    refine .inl ?_
    have h1 := hv M N0 w hle S
    unfold Oper.wp
    generalize (execOp a.eval o).run P w = r at *
    cases r with
    | ok n w' =>
      cases n <;> simp only [Oper.upon] at h1 ⊢
      case value u => rw [h1.1]; exact h _ h1.2
      case skip => rw [← h1.1]; exact h _ h1.2
      case row row args => exact Rows.mono h1 fun u w3 he => by rw [he.1]; exact h _ he.2
      case enter f args => exact Calls.mono h1 fun e w3 he => by rw [he.1]; exact h _ he.2
    | halt x w' => exact h1.elim
  · simp only [hw, Bool.false_eq_true, if_false]
    exact h _ S
def YieldA (P : Program) (ops : Array Oper) (X : Fr) (i : Nat) (o : Oper) (v : Value) (a : Act) (M : Hp) (H : List Rs) : Prop :=
  YieldM P ops X o v a M H ∧ (pureOp ops i = true → ∀ M H, YieldM P ops X o v a M H)
theorem AnyM.first_ {i : Nat} {oi : Oper} {v : Value} (hi : ops[i]? = some oi) (hsel : ∀ (j : Nat) (o : Oper) cs b, ops[j]? = some o → o.op ≠ .select cs b) (hQ : ∀ c a w, Q (.panic c) (a.put oi.dst v) w → Q (.panic c) a w) :
    ∀ (f : Nat) (l : Array Bool) (a : Act) (Mb : Hp) (Hb : List Rs) (M : Hp) (H : List Rs),
      (∀ j oj, ops[j]? = some oj → j ≠ i → l.getD j true = false → (∀ e ∈ oj.after, Region.binds md e = true → e.on ≠ i) → oi.apart ops oj = true) →
      i ∈ Region.ready md ops l → Grown Mb Hb M H → YieldA P ops X i oi v a Mb Hb → AnyM P md ops Q X f (l.setIfInBounds i true) (a.put oi.dst v) Mb Hb M H → AnyM P md ops Q X (f + 1) l a Mb Hb M H := by
  intro f
  induction f with
  | zero =>
    intro l a Mb Hb M H _ hr hg hy hH w S hd
    refine ⟨fun h => (by rw [h] at hr; cases hr), fun j hj => ?_⟩
    by_cases hji : j = i
    · subst hji
      exact hy.1.wpOp S hg hi fun w2 S2 => ⟨M, H, S2, .inl ⟨hg, hH⟩⟩
    · have := ready_mono hj hji
      rw [(hH w S).1] at this
      cases this
  | succ f ih =>
    intro l a Mb Hb M H hfree hr hg hy hH w S hd
    refine ⟨fun h => (by rw [h] at hr; cases hr), fun j hj => ?_⟩
    by_cases hji : j = i
    · subst hji
      exact hy.1.wpOp S hg hi fun w2 S2 => ⟨M, H, S2, .inl ⟨hg, hH⟩⟩
    · have h1 := (hH w S (down_set hd hr)).2 j (ready_mono hj hji)
      obtain ⟨hjun, oj, hoj, hall⟩ := mem_ready.1 hj
      have hiun := (mem_ready.1 hr).1
      have hilt : i < ops.size := (Array.getElem?_eq_some_iff.1 hi).1
      have hisz : i < l.size := by
        rcases Nat.lt_or_ge i l.size with h' | h'
        · exact h'
        · simp [Array.getD_eq_getD_getElem?, Array.getElem?_eq_none h'] at hiun
      have hnl : ¬ l.getD i false = true := by
        intro h
        simp [hisz] at h hiun; rw [hiun] at h; cases h
      have hnot : ∀ e ∈ oj.after, Region.binds md e = true → e.on ≠ i := fun e he hb heq => hnl (by have h2 := hall e he hb; rw [heq] at h2; exact h2)
      have hap := hfree j oj hoj hji hjun hnot
      obtain ⟨p1, p2, p3⟩ := Oper.apart_spec hap
      have hfree' : ∀ k ok, ops[k]? = some ok → k ≠ i → (l.setIfInBounds j true).getD k true = false → (∀ e ∈ ok.after, Region.binds md e = true → e.on ≠ i) → oi.apart ops ok = true := fun k ok hk hki hun hno => by
        refine hfree k ok hk hki ?_ hno
        by_cases hjk : j = k
        · subst hjk; exact hjun
        · rw [getD_set_ne true hjk] at hun; exact hun
      have keep1 : ∀ (b : Act) (M : Hp) (H : List Rs), YieldM P ops X oi v b M H → ∀ u, YieldM P ops X oi v (b.put oj.dst u) M H := fun b M H hb u => hb.of_same (execOp_put oi (fun cs b => hsel i oi cs b hi) b oj.dst u p3) (wanted_put oi b oj.dst u p3)
      have keep : ∀ (b : Act), YieldA P ops X i oi v b Mb Hb → ∀ u, YieldA P ops X i oi v (b.put oj.dst u) Mb Hb := fun b hb u => ⟨keep1 b Mb Hb hb.1 u, fun hp M' H' => keep1 b M' H' (hb.2 hp M' H') u⟩
      have cont : ∀ (b : Act) (w2 : World), YieldA P ops X i oi v b Mb Hb → (∃ M2 H2, SH w2 M2 X H2 ∧ ((Grown Mb Hb M2 H2 ∧ AnyM P md ops Q X f ((l.setIfInBounds i true).setIfInBounds j true) (b.put oi.dst v) Mb Hb M2 H2) ∨ (closP md ops (l.setIfInBounds i true) j = true ∧ AnyM P md ops Q X f ((l.setIfInBounds i true).setIfInBounds j true) (b.put oi.dst v) M2 H2 M2 H2))) →
          (∃ M2 H2, SH w2 M2 X H2 ∧ ((Grown Mb Hb M2 H2 ∧ AnyM P md ops Q X (f + 1) (l.setIfInBounds j true) b Mb Hb M2 H2) ∨ (closP md ops l j = true ∧ AnyM P md ops Q X (f + 1) (l.setIfInBounds j true) b M2 H2 M2 H2))) := by
        intro b w2 hb hc
        obtain ⟨M2, H2, S2, ⟨hg2, hc⟩ | ⟨hx, hc⟩⟩ := hc
        · rw [Array.setIfInBounds_comm _ _ (Ne.symm hji)] at hc
          exact ⟨M2, H2, S2, .inl ⟨hg2, ih (l.setIfInBounds j true) b Mb Hb M2 H2 hfree' (ready_mono hr (Ne.symm hji)) hg2 hb hc⟩⟩
        · cases hp : pureOp ops i with
          | false => exact (closP_not hd hj hx hp hilt hnl hisz).elim
          | true =>
            rw [Array.setIfInBounds_comm _ _ (Ne.symm hji)] at hc
            refine ⟨M2, H2, S2, .inr ⟨?_, ih (l.setIfInBounds j true) b M2 H2 M2 H2 hfree' (ready_mono hr (Ne.symm hji)) (Grown.refl _ _) ⟨hb.2 hp M2 H2, hb.2⟩ hc⟩⟩
            refine List.all_eq_true.2 fun k hk => ?_
            have := List.all_eq_true.1 hx k hk
            by_cases hki : i = k
            · subst hki; simp [hp]
            · rw [getD_set_ne false hki] at this
              exact this
      unfold Go.wpOp at h1 ⊢
      simp only [hoj] at h1 ⊢
      rw [wanted_put oj a oi.dst v p1] at h1
      have hse := execOp_put oj (fun cs b => hsel j oj cs b hoj) a oi.dst v p1
      split
      · rename_i hw
        simp only [hw, if_true] at h1
        rcases h1 with h1 | ⟨hasks, hlets⟩
        · refine .inl (wp_shift hse (fun u w2 hk => ?_) (fun d w2 hk => ?_) (fun c w2 hq => hQ c _ _ hq) h1)
          · refine cont _ w2 (keep a hy u) ?_
            rw [← Act.put_comm a v u p2]
            exact hk
          · have hd0 : YieldA P ops X i oi v ({ a with defers := d :: a.defers } : Act) Mb Hb := ⟨hy.1.of_same rfl rfl, fun hp M' H' => (hy.2 hp M' H').of_same rfl rfl⟩
            refine cont _ w2 (keep { a with defers := d :: a.defers } hd0 _) ?_
            rw [← Act.put_comm _ v undef p2, ← Act.put_defers]
            exact hk
        · exact .inr ⟨asks_shift hse hasks, hlets⟩
      · rename_i hw
        simp only [hw] at h1
        refine cont _ w (keep a hy _) ?_
        rw [← Act.put_comm a v undef p2]
        exact h1
end
section
variable {P : Program} {n : Nat} {C : Ctx} {c : Code} {s : List K} {L : List (Nat × Value)} {w : World} {Mb M : Hp} {X : Fr} {Hb H : List Rs} {l : Array Bool} {f : Nat}
def WA (P : Program) (n : Nat) (C : Ctx) (c : Code) (s : List K) (X : Fr) (f : Nat) (l : Array Bool) (L : List (Nat × Value)) (Mb : Hp) (Hb : List Rs) (M : Hp) (H : List Rs) : Prop := Grown Mb Hb M H → ∀ a, Env n L a → AnyM P .any (rg c) (post P C s) X f l a Mb Hb M H
theorem U1v {ch : List PanicEntry} : ∀ {s : List K} {a b : Act} {w : World}, a.defers = b.defers → post P C s (.panic ch) a w → post P C s (.panic ch) b w
  | [], a, b, w, e, h => ⟨e ▸ h.1, h.2⟩
  | .thn c :: s, a, b, w, e, h => U1v (s := s) e h
  | .lp I :: s, a, b, w, e, h => U1v (s := s) e h
  | .blk i :: s, a, b, w, e, h => U1v (s := s) e h
theorem put_defers' (a : Act) (dst : Option Tmp) (v : Value) : (a.put dst v).defers = a.defers := by cases dst <;> rfl
theorem ws_draw (hk : kind c = 8) (hm : P.follows .mixedOrders = true) (S : SH w M X H) (f : Nat) (hf : (rg c).size = f) (h : WA P n C c s X f (Array.replicate f false) L M H M H) : WS P n C c s L w := by
  intro a ha
  rw [kind_draw hk]
  refine wp_region_any hm ?_
  rw [hf]
  exact AnyM.any _ _ _ _ _ _ _ _ (S.kp ⟨rfl, rfl, rfl, Nat.le_refl _⟩ fun _ _ => rfl) (down_start _) (h (Grown.refl _ _) a ha)
theorem op_get {k : Nat} {o : Oper} (ho : op c k = some o) : (rg c)[k]? = some o := by
  unfold op at ho
  rw [Up] at ho
  simpa using ho
theorem wa_end (hr : Region.ready .any (rg c) l = []) (h : ∀ w, SH w M X H → NM P n C s L w) : WA P n C c s X f l L Mb Hb M H := by
  intro _ a ha
  cases f with
  | zero => exact fun w S => ⟨hr, h w S a ha⟩
  | succ f => exact fun w S _ => ⟨fun _ => h w S a ha, by rw [hr]; simp⟩
theorem wa_take {i d : Nat} {o : Oper} {v : Value} (f : Nat) (ho : op c i = some o) (hs : (Region.noSelect (rg c) && !pureOp (rg c) i) = true) (hf : Region.free .any (rg c) l i = true) (hr : (Region.ready .any (rg c) l).contains i = true)
    (hg : Wanted c L o.guard true) (hd : o.dst = some d) (hn : (Nat.blt d n && gslot c o n) = true)
    (hy : ∀ M2 N w, Mb.le M2 → SH w M2 X (N ++ Hb) → (Run P o L w v w ∨ ∃ fid vs, (∀ n a, Env n L a → (execOp a.eval o).run P w = .ok (.enter fid vs) w) ∧ Calls P fid vs w fun e w3 => e = .returned v ∧ SH w3 M2 X (N ++ Hb)))
    (h : WA P n C c s X f (l.setIfInBounds i true) ((d, v) :: L) Mb Hb M H) : WA P n C c s X (f + 1) l L Mb Hb M H := by
  intro hg0 a ha
  simp only [Bool.and_eq_true] at hn
  simp only [Bool.and_eq_true, Bool.not_eq_true'] at hs
  refine AnyM.first_ (v := v) (op_get ho) (Region.noSelect_spec hs.1) (fun ch b w hq => U1v (put_defers' _ _ _) hq) f l a Mb Hb M H (Region.free_spec (op_get ho) hf) (by simpa using hr) hg0 ⟨?_, fun hp => by rw [hs.2] at hp; cases hp⟩ ?_
  · refine .inl ⟨U28 ha hg (U1x hn.2), fun M2 N w k S => ?_⟩
    rcases hy M2 N w k S with hrun | ⟨fid, vs, h1, h2⟩
    · rw [hrun n a ha]
      exact ⟨rfl, S⟩
    · rw [h1 n a ha]
      exact h2
  · rw [hd]
    exact h hg0 _ (ha.put (by simpa using hn.1) v)
theorem wa_takeP {i d : Nat} {o : Oper} {v : Value} (f : Nat) (ho : op c i = some o) (hs : Region.noSelect (rg c) = true) (hf : Region.free .any (rg c) l i = true) (hr : (Region.ready .any (rg c) l).contains i = true)
    (hg : Wanted c L o.guard true) (hd : o.dst = some d) (hn : (Nat.blt d n && gslot c o n) = true) (hy : ∀ w, Run P o L w v w)
    (h : WA P n C c s X f (l.setIfInBounds i true) ((d, v) :: L) Mb Hb M H) : WA P n C c s X (f + 1) l L Mb Hb M H := by
  intro hg0 a ha
  simp only [Bool.and_eq_true] at hn
  have key : ∀ M H, YieldM P (rg c) X o v a M H := fun M H => .inl ⟨U28 ha hg (U1x hn.2), fun M2 N w k S => by
    rw [hy w n a ha]
    exact ⟨rfl, S⟩⟩
  refine AnyM.first_ (v := v) (op_get ho) (Region.noSelect_spec hs) (fun ch b w hq => U1v (put_defers' _ _ _) hq) f l a Mb Hb M H (Region.free_spec (op_get ho) hf) (by simpa using hr) hg0 ⟨key Mb Hb, fun _ => key⟩ ?_
  rw [hd]
  exact h hg0 _ (ha.put (by simpa using hn.1) v)
theorem wa_no {i d : Nat} {o : Oper} (f : Nat) (ho : op c i = some o) (hs : Region.noSelect (rg c) = true) (hf : Region.free .any (rg c) l i = true) (hr : (Region.ready .any (rg c) l).contains i = true)
    (hg : Wanted c L o.guard false) (hd : o.dst = some d) (hn : (Nat.blt d n && gslot c o n) = true)
    (h : WA P n C c s X f (l.setIfInBounds i true) ((d, undef) :: L) Mb Hb M H) : WA P n C c s X (f + 1) l L Mb Hb M H := by
  intro hg0 a ha
  simp only [Bool.and_eq_true] at hn
  have key : ∀ M H, YieldM P (rg c) X o undef a M H := fun M H => .inr ⟨U28 ha hg (U1x hn.2), rfl⟩
  refine AnyM.first_ (v := undef) (op_get ho) (Region.noSelect_spec hs) (fun ch b w hq => U1v (put_defers' _ _ _) hq) f l a Mb Hb M H (Region.free_spec (op_get ho) hf) (by simpa using hr) hg0 ⟨key Mb Hb, fun _ => key⟩ ?_
  rw [hd]
  exact h hg0 _ (ha.put (d := d) (by simpa using hn.1) undef)
def LeftW (P : Program) (n : Nat) (C : Ctx) (c : Code) (s : List K) (X : Fr) (f : Nat) (l : Array Bool) (j : Nat) (Mb : Hp) (Hb : List Rs) (L' : List (Nat × Value)) (w' : World) : Prop :=
  ∃ M2 H2, SH w' M2 X H2 ∧ ((Grown Mb Hb M2 H2 ∧ WA P n C c s X f (l.setIfInBounds j true) L' Mb Hb M2 H2) ∨ (closP .any (rg c) l j = true ∧ WA P n C c s X f (l.setIfInBounds j true) L' M2 H2 M2 H2))
theorem LeftW.grow {j : Nat} {L' : List (Nat × Value)} {w' : World} {M2 : Hp} (N : List Rs) (k : Mb.le M2) (S : SH w' M2 X (N ++ Hb)) (h : WA P n C c s X f (l.setIfInBounds j true) L' Mb Hb M2 (N ++ Hb)) : LeftW P n C c s X f l j Mb Hb L' w' := ⟨M2, N ++ Hb, S, .inl ⟨⟨k, N, rfl⟩, h⟩⟩
theorem LeftW.turn {j : Nat} {L' : List (Nat × Value)} {w' : World} {M2 : Hp} {H2 : List Rs} (hc : closP .any (rg c) l j = true) (S : SH w' M2 X H2) (h : WA P n C c s X f (l.setIfInBounds j true) L' M2 H2 M2 H2) : LeftW P n C c s X f l j Mb Hb L' w' := ⟨M2, H2, S, .inr ⟨hc, h⟩⟩
theorem LeftW.out {j : Nat} {L' : List (Nat × Value)} {w' : World} {a' : Act} (he : Env n L' a') (h : LeftW P n C c s X f l j Mb Hb L' w') : ∃ M2 H2, SH w' M2 X H2 ∧
      ((Grown Mb Hb M2 H2 ∧ AnyM P .any (rg c) (post P C s) X f (l.setIfInBounds j true) a' Mb Hb M2 H2) ∨ (closP .any (rg c) l j = true ∧ AnyM P .any (rg c) (post P C s) X f (l.setIfInBounds j true) a' M2 H2 M2 H2)) := by
  obtain ⟨M2, H2, S, ⟨hg, h⟩ | ⟨hc, h⟩⟩ := h
  · exact ⟨M2, H2, S, .inl ⟨hg, h hg a' he⟩⟩
  · exact ⟨M2, H2, S, .inr ⟨hc, h (Grown.refl _ _) a' he⟩⟩
theorem wp_left {i : Nat} {o : Oper} {a : Act} (ho : op c i = some o) (ha : Env n L a) (hg : Wanted c L o.guard true) (hs : gslot c o n = true) (h : WO P n o L w (LeftW P n C c s X f l i Mb Hb)) : Go.wpOp P (rg c) (post P C s) i (fun a2 w2 => ∃ M2 H2, SH w2 M2 X H2 ∧
      ((Grown Mb Hb M2 H2 ∧ AnyM P .any (rg c) (post P C s) X f (l.setIfInBounds i true) a2 Mb Hb M2 H2) ∨ (closP .any (rg c) l i = true ∧ AnyM P .any (rg c) (post P C s) X f (l.setIfInBounds i true) a2 M2 H2 M2 H2))) a w := by
  unfold Go.wpOp
  simp only [op_get ho]
  rw [if_pos (U28 ha hg (U1x hs))]
  exact .inl (h a ha _ _ fun L' a' w' he hl => hl.out he)
theorem wa_only {i : Nat} {o : Oper} (f : Nat) (ho : op c i = some o) (hr : Region.ready .any (rg c) l = [i]) (hg : Wanted c L o.guard true) (hs : gslot c o n = true)
    (h : ∀ w, SH w M X H → WO P n o L w (LeftW P n C c s X f l i Mb Hb)) : WA P n C c s X (f + 1) l L Mb Hb M H := by
  intro _ a ha w S hd
  refine ⟨fun h0 => (by rw [hr] at h0; cases h0), fun k hk => ?_⟩
  rw [hr, List.mem_singleton] at hk
  subst hk
  exact wp_left ho ha hg hs (h w S)
theorem SH.suf {N : List Rs} (S : SH w M X (N ++ H)) : SH w M X H := by
  have hg : ∀ (j : Nat) r, H[j]? = some r → (N ++ H)[N.length + j]? = some r := fun j r h => by rw [List.getElem?_append_right (by omega)]; simpa using h
  exact ⟨S.m, S.x, S.mx, fun s hs => S.ok s (List.mem_append_right _ hs), fun s hs => S.bl s (List.mem_append_right _ hs), fun i j r t hij hr ht => S.ap (N.length + i) (N.length + j) r t (by omega) (hg i r hr) (hg j t ht), S.like⟩
theorem enter_of {o : Oper} {fid : FuncId} {vs : List Value} {ca : Call} {fo : Operand} {xs : List Operand} (hop : o.op = .call ca) (hca : ca.callee = .value fo) (hfo : oev L fo = some (.func (.func fid) #[] #[]))
    (hxs : ca.args = xs.toArray) (hvs : oevs L xs = some vs) (hen : ∀ args w, (callFunc fid args).run P w = .ok (.enter fid args) w) : ∀ n a, Env n L a → (execOp a.eval o).run P w = .ok (.enter fid vs.toArray) w := by
  intro n a ha
  unfold execOp
  simp only [hop, resolve, hca, ha.eval hfo, hxs, List.map_toArray, ha.evals hvs, Deferred.ofValue, Sem.run_bind, Sem.run_pure, Result.andThen_ok, invoke, Array.empty_append, Array.append_empty]
  exact hen _ _
theorem U1j {o : Oper} {fid : FuncId} {vs : List Value} {ca : Call} {fo : Operand} {xs : List Operand} {v : Value} (hop : o.op = .call ca) (hca : ca.callee = .value fo) (hfo : oev L fo = some (.func (.func fid) #[] #[]))
    (hxs : ca.args = xs.toArray) (hvs : oevs L xs = some vs) (hen : ∀ args w, (callFunc fid args).run P w = .ok (.enter fid args) w) (S : SH w M X H) (hc : Cq P fid vs w M (XH w X H) (fun u => u = v)) :
    Run P o L w v w ∨ ∃ fid vs, (∀ n a, Env n L a → (execOp a.eval o).run P w = .ok (.enter fid vs) w) ∧ Calls P fid vs w fun e w3 => e = .returned v ∧ SH w3 M X H :=
  .inr ⟨fid, vs.toArray, enter_of hop hca hfo hxs hvs hen, hc.mono fun e w3 ⟨u, h1, h2, h3⟩ => ⟨by rw [h1, h3], S.back h2⟩⟩
end
end Go.Proofs.Ytkcighnochjlgaa
