/- A walk that carries a short list of what the slots hold. Nothing of one program stands here. -/
import Derived.Test.YtkcighnochjlgaaRows
import Derived.WalkKit
import Derived.ProofKit
import Derived.OpenShut
import Derived.BigQuiet
import Derived.IntWalk
import Derived.Lib.Hide
import Derived.SizedLaws
import Derived.Maps.AppendAt
import Derived.Conc.MuLone
namespace Go.Proofs.Ytkcighnochjlgaa
open Go.ChangeShapes Go.WideShapes Go.ChangeAt Go.RowKit

/-! ### What the slots hold -/

def lk : List (Nat × Value) → Nat → Option Value
  | [], _ => none
  | (d, v) :: r, t => match Nat.beq d t with
    | true => some v
    | false => lk r t
def oev (L : List (Nat × Value)) : Operand → Option Value
  | .tmp t => lk L t
  | .const v => some v
  | .global g => some (.pointer (some ⟨g, 0, none⟩))
  | .func f => some (.func (.func f) #[] #[])
def oevs (L : List (Nat × Value)) : List Operand → Option (List Value)
  | [] => some []
  | x :: r => match oev L x, oevs L r with
    | some v, some vs => some (v :: vs)
    | _, _ => none
structure Env (n : Nat) (L : List (Nat × Value)) (a : Act) : Prop where
  sz : a.tmps.size = n
  df : a.defers = []
  at_ : ∀ t v, lk L t = some v → a.tmps.getD t undef = v
theorem Env.eval {n : Nat} {L : List (Nat × Value)} {a : Act} (h : Env n L a) {x : Operand} {v : Value} (hx : oev L x = some v) : a.eval x = v := by
  cases x with
  | tmp t => exact h.at_ t v hx
  | const u => simp only [oev, Option.some.injEq] at hx; exact hx
  | global g => simp only [oev, Option.some.injEq] at hx; exact hx
  | func f => simp only [oev, Option.some.injEq] at hx; exact hx
theorem Env.evals {n : Nat} {L : List (Nat × Value)} {a : Act} (h : Env n L a) : ∀ {xs : List Operand} {vs : List Value}, oevs L xs = some vs → xs.map a.eval = vs
  | [], vs, hx => by simp only [oevs, Option.some.injEq] at hx; subst hx; rfl
  | x :: r, vs, hx => by
    simp only [oevs] at hx
    split at hx
    · rename_i v vs' h1 h2
      simp only [Option.some.injEq] at hx
      subst hx
      rw [List.map_cons, h.eval h1, h.evals h2]
    · cases hx
theorem lk_cons (d t : Nat) (v : Value) (L : List (Nat × Value)) : lk ((d, v) :: L) t = if d = t then some v else lk L t := by
  by_cases h : d = t
  · subst h
    rw [if_pos rfl]
    simp only [lk, Nat.beq_refl]
  · rw [if_neg h]
    have : Nat.beq d t = false := by cases hb : Nat.beq d t with
      | false => rfl
      | true => exact absurd (Nat.eq_of_beq_eq_true hb) h
    conv => lhs; unfold lk
    simp only [this]
theorem Env.put {n : Nat} {L : List (Nat × Value)} {a : Act} (h : Env n L a) {d : Nat} (hd : d < n) (v : Value) : Env n ((d, v) :: L) (a.put (some d) v) := by
  refine ⟨by simp [Act.put, h.sz], h.df, fun t u hu => ?_⟩
  rw [lk_cons] at hu
  simp only [Act.put]
  by_cases hdt : d = t
  · subst hdt
    rw [if_pos rfl] at hu
    injection hu with hu
    subst hu
    simp [Array.getD_eq_getD_getElem?, h.sz, hd]
  · rw [if_neg hdt] at hu
    rw [← h.at_ t u hu]
    simp [Array.getD_eq_getD_getElem?, Array.getElem?_setIfInBounds_ne hdt]
/-- All that L2 tells, L tells. -/
def Sub (L : List (Nat × Value)) : List (Nat × Value) → Prop
  | [] => True
  | (d, v) :: r => lk L d = some v ∧ Sub L r
theorem Sub.lk {L : List (Nat × Value)} : ∀ {L2 : List (Nat × Value)}, Sub L L2 → ∀ t v, lk L2 t = some v → Go.Proofs.Ytkcighnochjlgaa.lk L t = some v
  | [], _, t, v, h => by cases h
  | (d, u) :: r, h, t, v, hv => by
    rw [lk_cons] at hv
    by_cases hdt : d = t
    · rw [if_pos hdt] at hv
      injection hv with hv
      subst hdt; subst hv
      exact h.1
    · rw [if_neg hdt] at hv
      exact Sub.lk h.2 t v hv
theorem Env.sub {n : Nat} {L L2 : List (Nat × Value)} {a : Act} (h : Env n L a) (hs : Sub L L2) : Env n L2 a := ⟨h.sz, h.df, fun t v hv => h.at_ t v (hs.lk t v hv)⟩

/-! ### What comes behind -/

inductive K where
  | thn (c : Code)
  | blk (id : Nat)
  | lp (I : Act → World → Prop)
structure Ctx where
  fn : Func
  R : Ending → World → Prop
def post (P : Program) (C : Ctx) : List K → Exit → Act → World → Prop
  | [] => bodyPost P C.fn C.R
  | .thn c :: s => Exit.then (c.wp P (post P C s)) (post P C s)
  | .blk id :: s => Exit.inBlock id (post P C s)
  | .lp I :: s => Exit.then I (post P C s)
def popTo (id : Nat) : List K → Option (List K)
  | [] => none
  | .thn _ :: s => popTo id s
  | .lp _ :: s => popTo id s
  | .blk i :: s => match Nat.beq i id with
    | true => some s
    | false => popTo id s
def cL : Code → Code
  | .seq a _ => a
  | .cond _ a _ => a
  | .block _ c => c
  | .loop c => c
  | c => c
def cR : Code → Code
  | .seq _ b => b
  | .cond _ _ b => b
  | c => c
def cId : Code → Nat
  | .block i _ => i
  | .exit i => i
  | .region i _ _ => i
  | _ => 0
def cX : Code → Operand
  | .cond x _ _ => x
  | _ => .tmp 0
def kind : Code → Nat
  | .seq _ _ => 1
  | .cond _ _ _ => 2
  | .block _ _ => 3
  | .loop _ => 4
  | .exit _ => 5
  | .ret => 6
  | .region _ _ false => 7
  | .region _ _ true => 8
  | .skip => 9
  | _ => 0
def rg : Code → Array Oper
  | .region _ ops _ => ops
  | _ => #[]
def nth {α : Type} : List α → Nat → Option α
  | [], _ => none
  | x :: r, k => match k with
    | 0 => some x
    | k + 1 => nth r k
theorem nth_eq {α : Type} : ∀ (l : List α) (k : Nat), nth l k = l[k]?
  | [], k => by simp [nth]
  | x :: r, 0 => rfl
  | x :: r, k + 1 => by simpa [nth] using nth_eq r k
def op (c : Code) (k : Nat) : Option Oper := nth (rg c).toList k

theorem kind_seq {c : Code} (h : kind c = 1) : c = .seq (cL c) (cR c) := by
  cases c with
  | region i o d => cases d <;> cases h
  | seq a b => rfl
  | _ => cases h
theorem kind_cond {c : Code} (h : kind c = 2) : c = .cond (cX c) (cL c) (cR c) := by
  cases c with
  | region i o d => cases d <;> cases h
  | cond x a b => rfl
  | _ => cases h
theorem kind_block {c : Code} (h : kind c = 3) : c = .block (cId c) (cL c) := by
  cases c with
  | region i o d => cases d <;> cases h
  | block i b => rfl
  | _ => cases h
theorem kind_loop {c : Code} (h : kind c = 4) : c = .loop (cL c) := by
  cases c with
  | region i o d => cases d <;> cases h
  | loop b => rfl
  | _ => cases h
theorem kind_exit {c : Code} (h : kind c = 5) : c = .exit (cId c) := by
  cases c with
  | region i o d => cases d <;> cases h
  | exit b => rfl
  | _ => cases h
theorem kind_ret {c : Code} (h : kind c = 6) : c = .ret := by
  cases c with
  | region i o d => cases d <;> cases h
  | ret => rfl
  | _ => cases h
theorem kind_skip {c : Code} (h : kind c = 9) : c = .skip := by
  cases c with
  | region i o d => cases d <;> cases h
  | skip => rfl
  | _ => cases h
theorem kind_region {c : Code} (h : kind c = 7) : c = .region (cId c) (rg c) false := by
  cases c with
  | region i o d => cases d <;> first | rfl | cases h
  | _ => cases h
theorem kind_draw {c : Code} (h : kind c = 8) : c = .region (cId c) (rg c) true := by
  cases c with
  | region i o d => cases d <;> first | rfl | cases h
  | _ => cases h

def WS (P : Program) (n : Nat) (C : Ctx) (c : Code) (s : List K) (L : List (Nat × Value)) (w : World) : Prop := ∀ a, Env n L a → c.wp P (post P C s) a w
def NM (P : Program) (n : Nat) (C : Ctx) (s : List K) (L : List (Nat × Value)) (w : World) : Prop := ∀ a, Env n L a → post P C s .normal a w
/-- What is left of a region, from operation k on. -/
def WL (P : Program) (n : Nat) (C : Ctx) (c : Code) (k : Nat) (s : List K) (L : List (Nat × Value)) (w : World) : Prop := ∀ a, Env n L a → wpList P (rg c) (post P C s) ((rg c).toList.drop k) a w

section
variable {P : Program} {n : Nat} {C : Ctx} {c : Code} {s : List K} {L : List (Nat × Value)} {w : World}

theorem ws_sub (L2 : List (Nat × Value)) (hs : Sub L L2) (h : WS P n C c s L2 w) : WS P n C c s L w := fun a ha => h a (ha.sub hs)
theorem nm_sub (L2 : List (Nat × Value)) (hs : Sub L L2) (h : NM P n C s L2 w) : NM P n C s L w := fun a ha => h a (ha.sub hs)
theorem ws_seq (hk : kind c = 1) (h : WS P n C (cL c) (.thn (cR c) :: s) L w) : WS P n C c s L w := by
  intro a ha
  rw [kind_seq hk]
  exact wp_seq (h a ha)
theorem ws_block (hk : kind c = 3) (h : WS P n C (cL c) (.blk (cId c) :: s) L w) : WS P n C c s L w := by
  intro a ha
  rw [kind_block hk]
  exact wp_block (h a ha)
theorem ws_skip (hk : kind c = 9) (h : NM P n C s L w) : WS P n C c s L w := by
  intro a ha
  rw [kind_skip hk]
  exact wp_skip (h a ha)
theorem nm_thn (h : WS P n C c s L w) : NM P n C (.thn c :: s) L w := fun a ha => h a ha
theorem nm_blk {id : Nat} (h : NM P n C s L w) : NM P n C (.blk id :: s) L w := fun a ha => h a ha
theorem nm_lp {I : Act → World → Prop} (h : ∀ a, Env n L a → I a w) : NM P n C (.lp I :: s) L w := fun a ha => h a ha
theorem post_exit {id : Nat} : ∀ {s s' : List K}, popTo id s = some s' → ∀ a w, post P C s' .normal a w → post P C s (.exit id) a w
  | [], s', h, a, w, hq => by cases h
  | .thn c :: s, s', h, a, w, hq => post_exit (s := s) h a w hq
  | .lp I :: s, s', h, a, w, hq => post_exit (s := s) h a w hq
  | .blk i :: s, s', h, a, w, hq => by
    simp only [popTo] at h
    simp only [post, Exit.inBlock]
    by_cases hi : i = id
    · subst hi
      simp only [Nat.beq_refl, Option.some.injEq] at h
      subst h
      rw [if_pos rfl]
      exact hq
    · have h2 : Nat.beq i id = false := by
        cases hb : Nat.beq i id with
        | false => rfl
        | true => exact absurd (Nat.eq_of_beq_eq_true hb) hi
      simp only [h2] at h
      rw [if_neg (fun e => hi e.symm)]
      exact post_exit (s := s) h a w hq
theorem ws_exit {s' : List K} (hk : kind c = 5) (hp : popTo (cId c) s = some s') (h : NM P n C s' L w) : WS P n C c s L w := by
  intro a ha
  rw [kind_exit hk]
  exact wp_exit (post_exit hp a w (h a ha))
theorem ws_cond {b : Bool} (hk : kind c = 2) (hx : oev L (cX c) = some (.bool b)) (ht : b = true → WS P n C (cL c) s L w) (hf : b = false → WS P n C (cR c) s L w) : WS P n C c s L w := by
  intro a ha
  rw [kind_cond hk]
  exact wp_cond_split (ha.eval hx) (fun h => ht h a ha) (fun h => hf h a ha)
theorem ws_condT (hk : kind c = 2) (hx : oev L (cX c) = some (.bool true)) (h : WS P n C (cL c) s L w) : WS P n C c s L w := ws_cond hk hx (fun _ => h) (fun e => by cases e)
theorem ws_condF (hk : kind c = 2) (hx : oev L (cX c) = some (.bool false)) (h : WS P n C (cR c) s L w) : WS P n C c s L w := ws_cond hk hx (fun e => by cases e) (fun _ => h)
theorem post_ret : ∀ {s : List K} {a : Act} {w : World}, post P C [] .ret a w → post P C s .ret a w
  | [], a, w, h => h
  | .thn c :: s, a, w, h => post_ret (s := s) h
  | .lp I :: s, a, w, h => post_ret (s := s) h
  | .blk i :: s, a, w, h => post_ret (s := s) h
/-- A result's slot. -/
def ResIs (P : Program) (L : List (Nat × Value)) (w : World) : List ResultVar → List Value → Prop
  | [], [] => True
  | .tmp t :: r, v :: vs => lk L t = some v ∧ ResIs P L w r vs
  | .cell a t :: r, v :: vs => (∃ p, lk L a = some (.pointer (some p)) ∧ (loadVar t p).run P w = .ok v w) ∧ ResIs P L w r vs
  | _, _ => False
def resF (a : Act) : ResultVar → Sem Value
  | .tmp t => pure (a.tmps.getD t undef)
  | .cell x t => do loadVar t (← asAddr (a.tmps.getD x undef))
theorem res_list {a : Act} (ha : Env n L a) : ∀ (rs : List ResultVar) (vs : List Value), ResIs P L w rs vs → Sem.run P (rs.mapM (resF a)) w = Result.ok vs w
  | [], [], _ => by simp
  | .tmp t :: r, v :: vs, h => by
    have e := ha.at_ t v h.1
    have ih := res_list ha r vs h.2
    simp only [List.mapM_cons, Sem.run_bind, Sem.run_pure, Result.andThen_ok, e, resF, ih]
  | .cell x t :: r, v :: vs, h => by
    obtain ⟨⟨p, hp, hl⟩, h2⟩ := h
    have e := ha.at_ x _ hp
    have ih := res_list ha r vs h2
    simp only [List.mapM_cons, Sem.run_bind, Sem.run_pure, Result.andThen_ok, e, resF, asAddr, hl, ih]
  | [], _ :: _, h => False.elim h
  | .tmp _ :: _, [], h => False.elim h
  | .cell _ _ :: _, [], h => False.elim h
def tup : List Value → Value
  | [v] => v
  | vs => .tuple vs.toArray
theorem run_results {fn : Func} {a : Act} (ha : Env n L a) {rs : List ResultVar} {vs : List Value} (hr : fn.results = rs.toArray) (h : ResIs P L w rs vs) : (results fn a.tmps).run P w = .ok (tup vs) w := by
  have h1 := res_list ha rs vs h
  unfold results
  rw [hr, List.mapM_toArray]
  change Sem.run P (do let vs ← Functor.map List.toArray (rs.mapM (resF a)); pure (if h : vs.size = 1 then vs[0] else Value.tuple vs)) w = _
  have h2 : Sem.run P (Functor.map List.toArray (rs.mapM (resF a))) w = Result.ok vs.toArray w := by
    rw [← bind_pure_comp, Sem.run_bind, h1]
    rfl
  rw [Sem.run_bind, h2]
  simp only [Result.andThen_ok, Sem.run_pure]
  congr 1
  match vs with
  | [] => rfl
  | [v] => rfl
  | v :: u :: vs => simp [tup]
theorem ws_ret {fn : Func} {R : Ending → World → Prop} (hC : C = ⟨fn, R⟩) {rs : List ResultVar} (vs : List Value) (hr : fn.results = rs.toArray) (hk : kind c = 6) (h : ResIs P L w rs vs) (hR : R (.returned (tup vs)) w) : WS P n C c s L w := by
  intro a ha
  subst hC
  rw [kind_ret hk]
  refine wp_ret (post_ret ?_)
  exact ⟨ha.df, tup vs, run_results ha hr h, hR⟩
theorem nm_end {fn : Func} {R : Ending → World → Prop} (hC : C = ⟨fn, R⟩) {rs : List ResultVar} (vs : List Value) (hr : fn.results = rs.toArray) (h : ResIs P L w rs vs) (hR : R (.returned (tup vs)) w) : NM P n C [] L w := by
  intro a ha
  subst hC
  exact ⟨ha.df, tup vs, run_results ha hr h, hR⟩

/-- A loop: I k holds at its head, k the measure. -/
theorem ws_loop (I : Nat → Act → World → Prop) (hk : kind c = 4) (k0 : Nat) (h0 : ∀ a, Env n L a → I k0 a w)
    (round : ∀ k a w, I k a w → (cL c).wp P (post P C (.lp (fun a' w' => ∃ k', k' < k ∧ I k' a' w') :: s)) a w) : WS P n C c s L w := by
  intro a ha
  rw [kind_loop hk]
  have key : ∀ m k, k < m → ∀ a w, I k a w → Code.rounds P (cL c) (post P C s) m a w := by
    intro m
    induction m with
    | zero => intro k hk; omega
    | succ m ih =>
      intro k hk a w hi
      rw [rounds_succ]
      refine Code.wp_mono (fun e a w q => ?_) (round k a w hi)
      cases e with
      | normal =>
        obtain ⟨k', hlt, hi'⟩ := q
        exact ih k' (by omega) a w hi'
      | _ => exact q
  exact wp_loop_rounds (k0 + 1) (key (k0 + 1) k0 (by omega) a w (h0 a ha))

/-! ### Regions in the text's order -/

theorem ws_region (hk : kind c = 7) (h : WL P n C c 0 s L w) : WS P n C c s L w := by
  intro a ha
  rw [kind_region hk]
  exact wp_region_list (h a ha)
theorem wl_end {k : Nat} (hk : op c k = none) (h : NM P n C s L w) : WL P n C c k s L w := by
  intro a ha
  have : ((rg c).toList.drop k) = [] := by
    unfold op at hk
    rw [nth_eq] at hk
    exact List.drop_eq_nil_of_le (by simpa using hk)
  rw [this]
  exact wpList_nil (h a ha)
def Run (P : Program) (o : Oper) (L : List (Nat × Value)) (w : World) (v : Value) (w' : World) : Prop := ∀ n a, Env n L a → (execOp a.eval o).run P w = .ok (.value v) w'
def RunS (P : Program) (o : Oper) (L : List (Nat × Value)) (w w' : World) : Prop := ∀ n a, Env n L a → (execOp a.eval o).run P w = .ok .skip w'
theorem drop_op {k : Nat} {o : Oper} (ho : op c k = some o) : (rg c).toList.drop k = o :: (rg c).toList.drop k.succ := by
  unfold op at ho
  rw [nth_eq] at ho
  obtain ⟨hlt, he⟩ := List.getElem?_eq_some_iff.1 ho
  rw [← he]
  exact List.drop_eq_getElem_cons hlt
/-- Is the operation carried out? -/
def isG : Value → Bool → Bool
  | .bool g, b => g == b
  | _, _ => false
def Wanted (c : Code) (L : List (Nat × Value)) : Option (Nat × Bool) → Bool → Prop
  | none, y => y = true
  | some (j, b), y => ∃ o t g, op c j = some o ∧ o.dst = some t ∧ lk L t = some g ∧ isG g b = y
theorem wanted_eq {a : Act} (ha : Env n L a) {o : Oper} {y : Bool} (h : Wanted c L o.guard y) (hn : ∀ j b o' t, o.guard = some (j, b) → op c j = some o' → o'.dst = some t → t < n) : Region.wanted o (yielded (rg c) a.tmps) = y := by
  unfold Region.wanted
  cases hg : o.guard with
  | none => rw [hg] at h; exact h.symm
  | some p =>
    obtain ⟨j, b⟩ := p
    rw [hg] at h
    obtain ⟨o', t, g, h1, h2, h3, h4⟩ := h
    have hlt := hn j b o' t hg h1 h2
    have e := ha.at_ t _ h3
    unfold op at h1
    rw [nth_eq, Array.getElem?_toList] at h1
    simp only [yielded, h1, Option.bind_some, h2]
    have : a.tmps[t]? = some g := by
      rw [Array.getD_eq_getD_getElem?] at e
      rw [Array.getElem?_eq_getElem (by rw [ha.sz]; exact hlt)] at e ⊢
      simpa using e
    simp only [this]
    rw [← h4]
    cases g <;> simp [isG]
def gslot (c : Code) (o : Oper) (n : Nat) : Bool := match o.guard with
  | none => true
  | some (j, _) => match op c j with
    | some o' => match o'.dst with
      | some t => Nat.blt t n
      | none => true
    | none => true
theorem gslot_spec {o : Oper} (h : gslot c o n = true) : ∀ j b o' t, o.guard = some (j, b) → op c j = some o' → o'.dst = some t → t < n := by
  intro j b o' t h1 h2 h3
  simp only [gslot, h1, h2, h3] at h
  simpa using h
theorem wl_run {k k' d : Nat} {o : Oper} {v : Value} {w' : World} (ho : op c k = some o) (hk : k' = k.succ) (hg : o.guard = none) (hd : o.dst = some d) (hr : Run P o L w v w') (hn : Nat.blt d n = true) (h : WL P n C c k' s ((d, v) :: L) w') : WL P n C c k s L w := by
  intro a ha
  rw [drop_op ho]
  subst hk
  refine wpList_plain hg fun K hK => ?_
  unfold Oper.wp
  rw [hr n a ha]
  rw [Oper.upon_value, hd]
  exact hK _ _ (h _ (ha.put (by simpa using hn) v))
theorem wl_runS {k k' : Nat} {o : Oper} {w' : World} (ho : op c k = some o) (hk : k' = k.succ) (hg : o.guard = none) (hd : o.dst = none) (hr : RunS P o L w w') (h : WL P n C c k' s L w') : WL P n C c k s L w := by
  intro a ha
  rw [drop_op ho]
  subst hk
  refine wpList_plain hg fun K hK => ?_
  unfold Oper.wp
  rw [hr n a ha, Oper.upon_skip, hd]
  exact hK _ _ (h _ ha)
theorem wl_runG {k k' d : Nat} {o : Oper} {v : Value} {w' : World} (ho : op c k = some o) (hk : k' = k.succ) (hg : Wanted c L o.guard true) (hd : o.dst = some d) (hr : Run P o L w v w') (hn : (Nat.blt d n && gslot c o n) = true) (h : WL P n C c k' s ((d, v) :: L) w') : WL P n C c k s L w := by
  intro a ha
  rw [drop_op ho]
  subst hk
  simp only [Bool.and_eq_true] at hn
  refine wpList_step fun K hK => ?_
  rw [if_pos (wanted_eq ha hg (gslot_spec hn.2))]
  unfold Oper.wp
  rw [hr n a ha]
  rw [Oper.upon_value, hd]
  exact hK _ _ (h _ (ha.put (by simpa using hn.1) v))
theorem wl_no {k k' d : Nat} {o : Oper} (ho : op c k = some o) (hk : k' = k.succ) (hg : Wanted c L o.guard false) (hd : o.dst = some d) (hn : (Nat.blt d n && gslot c o n) = true) (h : WL P n C c k' s ((d, undef) :: L) w) : WL P n C c k s L w := by
  intro a ha
  rw [drop_op ho]
  subst hk
  simp only [Bool.and_eq_true] at hn
  refine wpList_step fun K hK => ?_
  rw [if_neg (by rw [wanted_eq ha hg (gslot_spec hn.2)]; simp), hd]
  exact hK _ _ (h _ (ha.put (d := d) (by simpa using hn.1) undef))
/-- A test's two ways, told apart before the region's end. -/
theorem wl_split {k t : Nat} {b : Bool} (hl : lk L t = some (.bool b)) (ht : b = true → WL P n C c k s ((t, .bool true) :: L) w) (hf : b = false → WL P n C c k s ((t, .bool false) :: L) w) : WL P n C c k s L w := by
  have key : ∀ b', b = b' → WL P n C c k s ((t, .bool b') :: L) w → WL P n C c k s L w := by
    intro b' e h a ha
    refine h a ⟨ha.sz, ha.df, fun u v hv => ?_⟩
    rw [lk_cons] at hv
    split at hv
    · rename_i e2; subst e2; injection hv with hv; subst hv; subst e; exact ha.at_ _ _ hl
    · exact ha.at_ _ _ hv
  cases b
  · exact key false rfl (hf rfl)
  · exact key true rfl (ht rfl)
theorem wl_sub {k : Nat} (L2 : List (Nat × Value)) (hs : Sub L L2) (h : WL P n C c k s L2 w) : WL P n C c k s L w := fun a ha => h a (ha.sub hs)

/-! ### A call -/

theorem wl_call {k k' d : Nat} {o : Oper} {f : FuncId} {vs : List Value} {ca : Call} {fo : Operand} {xs : List Operand} (ho : op c k = some o) (hk : k' = k.succ) (hg : o.guard = none) (hd : o.dst = some d) (hop : o.op = .call ca) (hca : ca.callee = .value fo) (hfo : oev L fo = some (.func (.func f) #[] #[]))
    (hxs : ca.args = xs.toArray) (hvs : oevs L xs = some vs) (hn : Nat.blt d n = true) (hen : ∀ args w, (callFunc f args).run P w = .ok (.enter f args) w)
    {R : Value → World → Prop} (hcall : Calls P f vs.toArray w fun e w' => ∃ v, e = .returned v ∧ R v w') (h : ∀ v w', R v w' → WL P n C c k' s ((d, v) :: L) w') : WL P n C c k s L w := by
  intro a ha
  rw [drop_op ho]
  subst hk
  refine wpList_plain hg fun K hK => ?_
  have hr : (execOp a.eval o).run P w = .ok (.enter f vs.toArray) w := by
    unfold execOp
    simp only [hop, resolve, hca, ha.eval hfo, hxs, List.map_toArray, ha.evals hvs, Deferred.ofValue, Sem.run_bind, Sem.run_pure, Result.andThen_ok, invoke, Array.empty_append, Array.append_empty]
    exact hen _ _
  unfold Oper.wp
  rw [hr, Oper.upon_enter, hd]
  refine hcall.mono ?_
  rintro e w' ⟨v, rfl, hR⟩
  exact hK _ _ (h v w' hR _ (ha.put (by simpa using hn) v))
theorem calls_ws {f : FuncId} {fn : Func} {b : Code} {args : List Value} {w : World} {R : Ending → World → Prop} (hf : P.funcs[f]? = some fn) (hb : fn.body = some b) {n : Nat} (hn : fn.ntmps = n) (L : List (Nat × Value)) (hL : ∀ t v, lk L t = some v → args[t]? = some v) (hsz : args.length ≤ n)
    (h : ∀ C : Ctx, C = ⟨fn, R⟩ → WS P n C b [] L w) : Calls P f args.toArray w R := by
  refine calls_of_wp hf hb (h ⟨fn, R⟩ rfl _ ⟨?_, rfl, fun t v hv => ?_⟩)
  · simp [hn]; omega
  · have := hL t v hv
    have hlt := (List.getElem?_eq_some_iff.1 this).1
    simp only [Array.getD_eq_getD_getElem?]
    rw [Array.getElem?_append_left (by simpa using hlt)]
    simp [this]
def argL : Nat → List Value → List (Nat × Value)
  | _, [] => []
  | i, v :: vs => (i, v) :: argL (i + 1) vs
theorem lk_argL : ∀ (vs : List Value) (i t : Nat) (v : Value), lk (argL i vs) t = some v → i ≤ t ∧ vs[t - i]? = some v
  | [], i, t, v, h => by cases h
  | u :: vs, i, t, v, h => by
    unfold argL at h
    rw [lk_cons] at h
    split at h
    · rename_i e; subst e; exact ⟨Nat.le_refl _, by simpa using h⟩
    · obtain ⟨h1, h2⟩ := lk_argL vs (i + 1) t v h
      refine ⟨by omega, ?_⟩
      rw [show t - i = (t - (i + 1)) + 1 by omega]
      simpa using h2
theorem calls_in {f : FuncId} {fn : Func} {b : Code} {args : List Value} {w : World} {R : Ending → World → Prop} (hf : P.funcs[f]? = some fn) (hb : fn.body = some b) {n : Nat} (hn : fn.ntmps = n) (hsz : Nat.ble args.length n = true)
    (h : ∀ C : Ctx, C = ⟨fn, R⟩ → WS P n C b [] (argL 0 args) w) : Calls P f args.toArray w R :=
  calls_ws hf hb hn (argL 0 args) (fun t v hv => by simpa using (lk_argL args 0 t v hv).2) (by simpa using hsz) h
end

/-! ### Operations that leave memory alone -/

section
variable {P : Program} {o : Oper} {L : List (Nat × Value)} {w : World} {x y z : Operand} {t t' : TypeId} {a b : Int} {v u : Value}

theorem run_move (ho : o.op = .move x) (hx : oev L x = some v) : Run P o L w v w := by
  intro n c hc; unfold execOp; simp only [ho, hc.eval hx]; rfl
theorem run_assign (ho : o.op = .assign x) (hx : oev L x = some v) : Run P o L w v w := by
  intro n c hc; unfold execOp; simp only [ho, hc.eval hx]; rfl
theorem run_bin {bo : BinOp} (ho : o.op = .binOp bo t x y t') (hx : oev L x = some (.int .i64 a)) (hy : oev L y = some (.int .i64 b)) (h : ∀ w, (binOp bo t (.int .i64 a) (.int .i64 b)).run P w = .ok v w) : Run P o L w v w := by
  intro n c hc
  unfold execOp
  simp only [ho, hc.eval hx, hc.eval hy]
  have : ∀ w, (eqGuard bo t x y (.int .i64 a) (.int .i64 b)).run P w = .ok () w := by
    intro w
    unfold eqGuard
    split <;> simp
  simp [this, h]
theorem run_add (ho : o.op = .binOp .add t x y t') (hx : oev L x = some (.int .i64 a)) (hy : oev L y = some (.int .i64 b)) (h : -9223372036854775808 ≤ a + b ∧ a + b ≤ 9223372036854775807) : Run P o L w (.int .i64 (a + b)) w :=
  run_bin ho hx hy fun w => by simp [binOp, Op.intArith, IntWalk.i64_in _ h]
theorem run_sub (ho : o.op = .binOp .sub t x y t') (hx : oev L x = some (.int .i64 a)) (hy : oev L y = some (.int .i64 b)) (h : -9223372036854775808 ≤ a - b ∧ a - b ≤ 9223372036854775807) : Run P o L w (.int .i64 (a - b)) w :=
  run_bin ho hx hy fun w => by simp [binOp, Op.intArith, IntWalk.i64_in _ h]
theorem run_mul (ho : o.op = .binOp .mul t x y t') (hx : oev L x = some (.int .i64 a)) (hy : oev L y = some (.int .i64 b)) (h : -9223372036854775808 ≤ a * b ∧ a * b ≤ 9223372036854775807) : Run P o L w (.int .i64 (a * b)) w :=
  run_bin ho hx hy fun w => by simp [binOp, Op.intArith, IntWalk.i64_in _ h]
theorem run_quo (ho : o.op = .binOp .quo t x y t') (hx : oev L x = some (.int .i64 a)) (hy : oev L y = some (.int .i64 b)) (h : 0 ≤ a ∧ a ≤ 9223372036854775807 ∧ 0 < b) : Run P o L w (.int .i64 (a / b)) w :=
  run_bin ho hx hy fun w => by
    have e : a.tdiv b = a / b := Int.tdiv_eq_ediv_of_nonneg h.1
    have h1 : 0 ≤ a / b := Int.ediv_nonneg h.1 (by omega)
    have h2 : a / b ≤ a := Int.ediv_le_self _ h.1
    simp [binOp, Op.intDiv, show b ≠ 0 by omega, e, IntWalk.i64_in (a / b) (by omega)]
theorem run_rem (ho : o.op = .binOp .rem t x y t') (hx : oev L x = some (.int .i64 a)) (hy : oev L y = some (.int .i64 b)) (h : 0 ≤ a ∧ 0 < b) : Run P o L w (.int .i64 (a % b)) w :=
  run_bin ho hx hy fun w => by simp [binOp, Op.intDiv, show b ≠ 0 by omega, Int.tmod_eq_emod_of_nonneg h.1]
theorem run_tquo (ho : o.op = .binOp .quo t x y t') (hx : oev L x = some (.int .i64 a)) (hy : oev L y = some (.int .i64 b)) (h : b ≠ 0) (h2 : -9223372036854775808 ≤ a.tdiv b ∧ a.tdiv b ≤ 9223372036854775807) : Run P o L w (.int .i64 (a.tdiv b)) w :=
  run_bin ho hx hy fun w => by simp [binOp, Op.intDiv, h, IntWalk.i64_in _ h2]
theorem run_trem (ho : o.op = .binOp .rem t x y t') (hx : oev L x = some (.int .i64 a)) (hy : oev L y = some (.int .i64 b)) (h : b ≠ 0) : Run P o L w (.int .i64 (a.tmod b)) w :=
  run_bin ho hx hy fun w => by simp [binOp, Op.intDiv, h]
theorem run_lss (ho : o.op = .binOp .lss t x y t') (hx : oev L x = some (.int .i64 a)) (hy : oev L y = some (.int .i64 b)) : Run P o L w (.bool (decide (a < b))) w := run_bin ho hx hy fun w => by simp [binOp, Op.intCmp]
theorem run_leq (ho : o.op = .binOp .leq t x y t') (hx : oev L x = some (.int .i64 a)) (hy : oev L y = some (.int .i64 b)) : Run P o L w (.bool (decide (a ≤ b))) w := run_bin ho hx hy fun w => by simp [binOp, Op.intCmp]
theorem run_gtr (ho : o.op = .binOp .gtr t x y t') (hx : oev L x = some (.int .i64 a)) (hy : oev L y = some (.int .i64 b)) : Run P o L w (.bool (decide (b < a))) w := run_bin ho hx hy fun w => by simp [binOp, Op.intCmp]
theorem run_geq (ho : o.op = .binOp .geq t x y t') (hx : oev L x = some (.int .i64 a)) (hy : oev L y = some (.int .i64 b)) : Run P o L w (.bool (decide (b ≤ a))) w := run_bin ho hx hy fun w => by simp [binOp, Op.intCmp]
theorem run_eql (ho : o.op = .binOp .eql t x y t') (hx : oev L x = some (.int .i64 a)) (hy : oev L y = some (.int .i64 b)) : Run P o L w (.bool (decide (a = b))) w := run_bin ho hx hy fun w => by
  simp only [binOp, Op.intCmp]
  by_cases h : a = b <;> simp [h]
theorem run_neq (ho : o.op = .binOp .neq t x y t') (hx : oev L x = some (.int .i64 a)) (hy : oev L y = some (.int .i64 b)) : Run P o L w (.bool (decide (a ≠ b))) w := run_bin ho hx hy fun w => by
  simp only [binOp, Op.intCmp]
  by_cases h : a = b <;> simp [h]
theorem equal_bool {p q : Bool} (hu : P.underlying t = some .bool) (w : World) : (Op.equal t (.bool p) (.bool q)).run P w = .ok (p == q) w := by
  unfold Op.equal
  rw [show Op.maxDepth = 9999 + 1 from rfl]
  unfold Op.equalIn
  simp only [Sem.run_bind, run_underlying hu, Result.andThen_ok, Sem.run_pure]
theorem run_beq {p q : Bool} (ho : o.op = .binOp .eql t x y t') (hx : oev L x = some (.bool p)) (hy : oev L y = some (.bool q)) (hu : P.underlying t = some .bool) : Run P o L w (.bool (p == q)) w := by
  intro n c hc
  unfold execOp
  have : ∀ w, (eqGuard .eql t x y (.bool p) (.bool q)).run P w = .ok () w := by
    intro w; unfold eqGuard; simp
  simp only [ho, hc.eval hx, hc.eval hy, this, binOp, equal_bool hu, Sem.run_bind, Result.andThen_ok, Sem.run_pure]
theorem run_bne {p q : Bool} (ho : o.op = .binOp .neq t x y t') (hx : oev L x = some (.bool p)) (hy : oev L y = some (.bool q)) (hu : P.underlying t = some .bool) : Run P o L w (.bool (!(p == q))) w := by
  intro n c hc
  unfold execOp
  have : ∀ w, (eqGuard .neq t x y (.bool p) (.bool q)).run P w = .ok () w := by
    intro w; unfold eqGuard; simp
  simp only [ho, hc.eval hx, hc.eval hy, this, binOp, equal_bool hu, Sem.run_bind, Result.andThen_ok, Sem.run_pure]
theorem run_not {p : Bool} (ho : o.op = .unOp .not t x) (hx : oev L x = some (.bool p)) : Run P o L w (.bool (!p)) w := by
  intro n c hc; unfold execOp; simp [ho, hc.eval hx, Op.unary]
theorem run_neg (ho : o.op = .unOp .neg t x) (hx : oev L x = some (.int .i64 a)) (h : -9223372036854775807 ≤ a ∧ a ≤ 9223372036854775807) : Run P o L w (.int .i64 (-a)) w := by
  intro n c hc; unfold execOp; simp [ho, hc.eval hx, Op.unary, Op.intArith, IntWalk.i64_in (-a) (by omega)]
theorem run_pickT (ho : o.op = .pick x y z) (hx : oev L x = some (.bool true)) (hy : oev L y = some v) : Run P o L w v w := by
  intro n c hc; unfold execOp; simp [ho, hc.eval hx, hc.eval hy, asBool]
theorem run_pickF (ho : o.op = .pick x y z) (hx : oev L x = some (.bool false)) (hz : oev L z = some v) : Run P o L w v w := by
  intro n c hc; unfold execOp; simp [ho, hc.eval hx, hc.eval hz, asBool]
theorem run_field0 {f : Nat} {cs : List Value} {fs : Array Field} {fd : Field} {d : TypeDesc} (ho : o.op = .field t x f) (hx : oev L x = some (.agg cs.toArray)) (hu : P.underlying t = some (.struct fs)) (hf : fs[f]? = some fd) (hd : P.underlying fd.type = some d) (hag : (match d with | .struct _ => true | .array _ _ => true | _ => false) = false)
    (hv : nth cs fd.offset = some v) : Run P o L w v w := by
  intro n c hc
  unfold execOp
  rw [nth_eq] at hv
  have hv' : cs.toArray[fd.offset]? = some v := by simpa using hv
  have hi : (isAgg fd.type).run P w = .ok false w := by
    unfold isAgg
    simp only [Sem.run_bind, run_underlying hd, Result.andThen_ok]
    cases d <;> simp at hag ⊢
  simp only [ho, hc.eval hx, Instr.field, Sem.run_bind, run_underlying hu, Result.andThen_ok, hf, asAgg, Sem.run_pure, part, hi, Bool.false_eq_true, if_false, hv']
theorem run_extract {vs : List Value} {i : Nat} (ho : o.op = .extract x i) (hx : oev L x = some (.tuple vs.toArray)) (hv : nth vs i = some v) : Run P o L w v w := by
  intro n c hc
  rw [nth_eq] at hv
  have hv' : vs.toArray[i]? = some v := by simpa using hv
  unfold execOp
  simp only [ho, hc.eval hx, Instr.extract, hv', Sem.run_bind, Sem.run_pure, Result.andThen_ok]
theorem run_len {A : Option Addr} {m cp : Nat} {ca : Call} {xs : List Operand} {ts : List TypeId} {e : TypeId} (ho : o.op = .call ca) (hca : ca.callee = .builtin .len) (hxs : ca.args = xs.toArray) (hts : ca.argTypes = ts.toArray) (hx : oevs L xs = some [.slice A m cp]) (ht : nth ts 0 = some t) (hu : P.underlying t = some (.slice e)) : Run P o L w (.int .i64 (m : Int)) w := by
  intro n c hc
  rw [nth_eq] at ht
  have ht' : ts.toArray[0]? = some t := by simpa using ht
  unfold execOp
  simp only [ho, resolve, hca, hxs, hts, List.map_toArray, hc.evals hx, invoke, builtin, Builtin.len_, Sem.run_bind, Sem.run_pure, Result.andThen_ok, ht', List.getElem?_toArray, List.getElem?_cons_zero, run_underlying hu, goInt]
theorem run_fieldAddr {f : Nat} {fs : Array Field} {fd : Field} {bl off : Nat} (ho : o.op = .fieldAddr t x f) (hx : oev L x = some (.pointer (some ⟨bl, off, none⟩))) (hu : P.underlying t = some (.struct fs)) (hf : fs[f]? = some fd) (hz : Nat.blt 0 (P.cellsOf fd.type) = true) (hi : ∃ i, P.info? fd.type = some i) : Run P o L w (.pointer (some ⟨bl, off + fd.offset, none⟩)) w := by
  intro n c hc
  obtain ⟨i, hi⟩ := hi
  have hne : i.size ≠ 0 := by
    have : P.cellsOf fd.type = i.size := by simp [Program.cellsOf, hi]
    rw [this] at hz
    simp at hz
    omega
  unfold execOp
  simp only [ho, hc.eval hx, Instr.fieldAt, Instr.sureAddr, Sem.run_bind, run_underlying hu, Result.andThen_ok, hf, Sem.run_pure, fieldPlace, sizeOf, typeInfo, program, Sem.run, hi, if_neg hne, Addr.add]
  by_cases h0 : fd.offset = 0 <;> simp [h0]
end
end Go.Proofs.Ytkcighnochjlgaa
