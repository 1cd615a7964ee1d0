/- The walk within a fence: loops over a function. The rules bear the same names as outside. Nothing of one program stands here. -/
import Derived.Test.YtkcighnochjlgaaE13
import Derived.RangeFuncNested
import Derived.RangeFuncBound
import Derived.RangeFuncCalls
import Derived.RangeFuncLeaves
import Derived.LoopNIn
namespace Go.Proofs.Ytkcighnochjlgaa
open Go.ChangeShapes Go.WideShapes Go.ChangeAt Go.RowKit

/-! ### Many things as one -/
def Rs.bun (H : List Rs) : Rs :=
  ⟨H.flatMap (·.bl), fun h => (∀ r ∈ H, r.ok h) ∧ ∀ (i j : Nat) r s, i ≠ j → H[i]? = some r → H[j]? = some s → ∀ b ∈ r.bl, b ∉ s.bl, fun h h' hb hk =>
    ⟨fun r hr => r.loc h h' (fun b hbr => hb b (List.mem_flatMap.2 ⟨r, hr, hbr⟩)) (hk.1 r hr), hk.2⟩⟩
section
variable {w w' : World} {M M' : Hp} {X : Fr} {H H' : List Rs} {r r' : Rs} {i : Nat}
theorem SH.bun (S : SH w M X H) : SH w M X [Rs.bun H] := by
  refine ⟨S.m, S.x, S.mx, fun s hs => ?_, fun s hs b hb => ?_, fun i j r s hij hi hj b hb => ?_, S.like⟩
  · rw [List.mem_singleton] at hs; subst hs; exact ⟨S.ok, S.ap⟩
  · rw [List.mem_singleton] at hs; subst hs
    obtain ⟨r, hr, hbr⟩ := List.mem_flatMap.1 hb
    exact S.bl r hr b hbr
  · have h1 := (List.getElem?_eq_some_iff.1 hi).1
    have h2 := (List.getElem?_eq_some_iff.1 hj).1
    simp at h1 h2; omega
theorem SH.unbun (S : SH w M X [Rs.bun H]) : SH w M X H := by
  obtain ⟨h1, h2⟩ := S.ok (Rs.bun H) (by simp)
  exact ⟨S.m, S.x, S.mx, h1, fun r hr b hb => S.bl (Rs.bun H) (by simp) b (List.mem_flatMap.2 ⟨r, hr, hb⟩), h2, S.like⟩
end

/-! ### The record of a loop over a function -/
def Rs.lr (l D : Nat) (rc : Loop) : Rs :=
  ⟨[l, D], fun h => h l = some (.loop rc) ∧ h D = some (.deferred (some [])), fun h h' hb hk => ⟨by rw [hb l (by simp)]; exact hk.1, by rw [hb D (by simp)]; exact hk.2⟩⟩

namespace InF
structure Ctx where
  Q : Exit → Act → World → Prop
  r : Option Nat
def Ctx.F (C : Ctx) : Fence := match C.r with
  | none => Fence.wide
  | some l => Fence.wide.inRound l
theorem Ctx.F_fn (C : Ctx) (f : FuncId) : C.F.fn f := by
  unfold Ctx.F; split <;> trivial
theorem Ctx.F_depth (C : Ctx) : C.F.depth = none := by
  unfold Ctx.F; split <;> rfl
theorem Ctx.F_isSome (C : Ctx) {p : Prop} : C.F.depth.isSome = true → p := by rw [C.F_depth]; intro h; cases h
theorem callsF (C : Ctx) {m : Nat} {P : Program} {f : FuncId} {args : Array Value} {w : World} {R : Ending → World → Prop} (h : Calls P f args w R) : CallsIn C.F m P f args w R := by
  unfold Ctx.F
  split
  · exact callsIn_wide.2 h
  · exact (callsIn_wide.2 h).inRound _
theorem rowsF (C : Ctx) {m : Nat} {P : Program} {row : String} {args : Array Value} {w : World} {R : Value → World → Prop} (h : Rows P row args w R) : RowsIn C.F m P row args w R := by
  unfold Ctx.F
  split
  · exact fun c cs _ => let ⟨v, w', r, s⟩ := h c cs; ⟨v, w', r, stepsIn_wide.2 s⟩
  · exact fun c cs _ => let ⟨v, w', r, s⟩ := h c cs; ⟨v, w', r, stepsIn_wide.2 s⟩
theorem oper_in (C : Ctx) {P : Program} {o : Oper} {a : Act} {w : World} {next : Act → World → Prop} {Q : Exit → Act → World → Prop} (hnd : ∀ c, o.op ≠ .defer c) (h : o.wp P a w next Q) : o.wpIn C.F 0 P a w next Q := by
  refine ⟨fun f _ => C.F_fn f, ?_⟩
  rw [Oper.semAt_eq _ _ _ hnd]
  unfold Oper.wp at h
  generalize (execOp a.eval o).run P w = r at h
  cases r with
  | ok nx w' =>
    cases nx with
    | value v => exact h
    | skip => exact h
    | defer d => exact h
    | enter f args => exact ⟨C.F_isSome, callsF C h⟩
    | row row args => exact ⟨C.F_isSome, rowsF C h⟩
    | _ => exact h.elim
  | halt x w' =>
    cases x with
    | panic v => exact h
    | _ => exact h.elim
def post (P : Program) (C : Ctx) : List K → Exit → Act → World → Prop
  | [] => C.Q
  | .thn c :: s => Exit.then (c.wpIn C.F 0 P (post P C s)) (post P C s)
  | .blk id :: s => Exit.inBlock id (post P C s)
  | .lp I :: s => Exit.then I (post P C s)
def WS (P : Program) (n : Nat) (C : Ctx) (c : Code) (s : List K) (L : List (Nat × Value)) (w : World) : Prop := ∀ a, Env n L a → c.wpIn C.F 0 P (post P C s) a w
def NM (P : Program) (n : Nat) (C : Ctx) (s : List K) (L : List (Nat × Value)) (w : World) : Prop := ∀ a, Env n L a → post P C s .normal a w
def WL (P : Program) (n : Nat) (C : Ctx) (c : Code) (k : Nat) (s : List K) (L : List (Nat × Value)) (w : World) : Prop := ∀ a, Env n L a → wpListIn C.F 0 P (rg c) (post P C s) ((rg c).toList.drop k) a w
section
variable {P : Program} {n : Nat} {C : Ctx} {c : Code} {s : List K} {L : List (Nat × Value)} {w : World}
theorem ws_sub (L2 : List (Nat × Value)) (hs : Sub L L2) (h : WS P n C c s L2 w) : WS P n C c s L w := fun a ha => h a (ha.sub hs)
theorem nm_sub (L2 : List (Nat × Value)) (hs : Sub L L2) (h : NM P n C s L2 w) : NM P n C s L w := fun a ha => h a (ha.sub hs)
theorem ws_seqN (a b : Code) (hk : kind c = 1) (ha : cL c = a) (hb : cR c = b) (h : WS P n C a (.thn b :: s) L w) : WS P n C c s L w := by
  subst ha; subst hb
  intro a ha
  rw [kind_seq hk]
  exact wpIn_seq (h a ha)
theorem ws_blockN (a : Code) (i : Nat) (hk : kind c = 3) (ha : cL c = a) (hi : cId c = i) (h : WS P n C a (.blk i :: s) L w) : WS P n C c s L w := by
  subst ha; subst hi
  intro a ha
  rw [kind_block hk]
  exact wpIn_block (h a ha)
theorem ws_skip (hk : kind c = 9) (h : NM P n C s L w) : WS P n C c s L w := by
  intro a ha
  rw [kind_skip hk]
  exact wpIn_skip (h a ha)
theorem nm_thn (h : WS P n C c s L w) : NM P n C (.thn c :: s) L w := fun a ha => h a ha
theorem nm_blk {id : Nat} (h : NM P n C s L w) : NM P n C (.blk id :: s) L w := fun a ha => h a ha
theorem nm_lp {I : Act → World → Prop} (h : ∀ a, Env n L a → I a w) : NM P n C (.lp I :: s) L w := fun a ha => h a ha
theorem post_exit {id : Nat} : ∀ {s s' : List K}, popTo id s = some s' → ∀ a w, post P C s' .normal a w → post P C s (.exit id) a w
  | [], s', h, a, w, hq => by cases h
  | .thn c :: s, s', h, a, w, hq => post_exit (s := s) h a w hq
  | .lp I :: s, s', h, a, w, hq => post_exit (s := s) h a w hq
  | .blk i :: s, s', h, a, w, hq => by
    simp only [popTo] at h
    simp only [post, Exit.inBlock]
    by_cases hi : i = id
    · subst hi
      simp only [Nat.beq_refl, Option.some.injEq] at h
      subst h
      rw [if_pos rfl]
      exact hq
    · have h2 : Nat.beq i id = false := by
        cases hb : Nat.beq i id with
        | false => rfl
        | true => exact absurd (Nat.eq_of_beq_eq_true hb) hi
      simp only [h2] at h
      rw [if_neg (fun e => hi e.symm)]
      exact post_exit (s := s) h a w hq
theorem ws_exit {s' : List K} (hk : kind c = 5) (hp : popTo (cId c) s = some s') (h : NM P n C s' L w) : WS P n C c s L w := by
  intro a ha
  rw [kind_exit hk]
  exact wpIn_exit (post_exit hp a w (h a ha))
theorem ws_condN (x y : Code) {b : Bool} (hk : kind c = 2) (hb : oev L (cX c) = some (.bool b)) (hx : cL c = x) (hy : cR c = y) (ht : b = true → WS P n C x s L w) (hf : b = false → WS P n C y s L w) : WS P n C c s L w := by
  subst hx; subst hy
  intro a ha
  rw [kind_cond hk]
  exact wpIn_cond_split (ha.eval hb) (fun h => ht h a ha) (fun h => hf h a ha)
theorem ws_condTN (x : Code) (hk : kind c = 2) (hb : oev L (cX c) = some (.bool true)) (hx : cL c = x) (ht : WS P n C x s L w) : WS P n C c s L w := ws_condN x (cR c) hk hb hx rfl (fun _ => ht) (fun e => by cases e)
theorem ws_condFN (y : Code) (hk : kind c = 2) (hb : oev L (cX c) = some (.bool false)) (hy : cR c = y) (hf : WS P n C y s L w) : WS P n C c s L w := ws_condN (cL c) y hk hb rfl hy (fun e => by cases e) (fun _ => hf)
theorem ws_in {a : Act} {c' : Code} (ha : Env n L a) (hc : c' = c) (h : WS P n C c s L w) : c'.wpIn C.F 0 P (post P C s) a w := by subst hc; exact h a ha
theorem ws_loopE (I : Nat → Act → World → Prop) (hk : kind c = 4) (h0 : ∀ a, Env n L a → ∃ k, I k a w)
    (round : ∀ k a w, I k a w → (cL c).wpIn C.F 0 P (post P C (.lp (fun a' w' => ∃ k', k' < k ∧ I k' a' w') :: s)) a w) : WS P n C c s L w := by
  intro a ha
  rw [kind_loop hk]
  have key : ∀ m k, k < m → ∀ a w, I k a w → Code.roundsIn C.F 0 P (cL c) (post P C s) m a w := by
    intro m
    induction m with
    | zero => intro k hk; omega
    | succ m ih =>
      intro k hk a w hi
      rw [roundsIn_succ]
      refine wpIn_mono (round k a w hi) (fun e a w q => ?_)
      cases e with
      | normal =>
        obtain ⟨k', hlt, hi'⟩ := q
        exact ih k' (by omega) a w hi'
      | _ => exact q
  obtain ⟨k0, h1⟩ := h0 a ha
  exact wpIn_loop_rounds (k0 + 1) (key (k0 + 1) k0 (by omega) a w h1)
theorem ws_cut (J : Act → World → Prop) (h1 : WS P n C c (.lp J :: s) L w) (h2 : ∀ a w, J a w → post P C s .normal a w) : WS P n C c s L w := by
  intro a ha
  refine wpIn_mono (h1 a ha) (fun e a w q => ?_)
  cases e with
  | normal => exact h2 a w q
  | _ => exact q
theorem nm_in {a : Act} (ha : Env n L a) (h : NM P n C s L w) : post P C s .normal a w := h a ha
theorem ws_eq (t : Nat) {v : Value} (v' : Value) (hl : lk L t = some v) (e : v = v') (h : WS P n C c s ((t, v') :: L) w) : WS P n C c s L w := by
  subst e
  exact fun a ha => h a ⟨ha.sz, ha.df, fun u x hx => by
    rw [lk_cons] at hx
    split at hx
    · rename_i e; subst e; injection hx with hx; subst hx; exact ha.at_ _ _ hl
    · exact ha.at_ _ _ hx⟩
theorem wl_eq {k : Nat} (t : Nat) {v : Value} (v' : Value) (hl : lk L t = some v) (e : v = v') (h : WL P n C c k s ((t, v') :: L) w) : WL P n C c k s L w := by
  subst e
  exact fun a ha => h a ⟨ha.sz, ha.df, fun u x hx => by
    rw [lk_cons] at hx
    split at hx
    · rename_i e; subst e; injection hx with hx; subst hx; exact ha.at_ _ _ hl
    · exact ha.at_ _ _ hx⟩
theorem ws_region (hk : kind c = 7) (h : WL P n C c 0 s L w) : WS P n C c s L w := by
  intro a ha
  rw [kind_region hk]
  exact wpIn_region_list (h a ha)
theorem wl_end {k : Nat} (hk : op c k = none) (h : NM P n C s L w) : WL P n C c k s L w := by
  intro a ha
  have : ((rg c).toList.drop k) = [] := by
    unfold op at hk
    rw [nth_eq] at hk
    exact List.drop_eq_nil_of_le (by simpa using hk)
  rw [this]
  exact wpListIn_nil (h a ha)
/-- No defer statement; and no operation that asks for a row of the model's own. -/
def ndOp (o : Oper) : Bool := match o.op with
  | .defer _ => false
  | _ => true
theorem ndOp_spec {o : Oper} (h : ndOp o = true) : ∀ c, o.op ≠ .defer c := fun c e => by unfold ndOp at h; rw [e] at h; cases h
theorem wl_op {k k' : Nat} {o : Oper} (ho : op c k = some o) (hk : k' = k.succ) (hg : o.guard = none) (h : WO P n o L w (fun L' w' => WL P n C c k' s L' w')) (hnd : ndOp o = true := by rfl) : WL P n C c k s L w := by
  intro a ha
  rw [drop_op ho]
  subst hk
  refine wpListIn_plain hg fun K hK => ?_
  exact oper_in C (ndOp_spec hnd) (h a ha K _ fun L' a' w' he hw => hK _ _ (hw a' he))
theorem wl_opG {k k' : Nat} {o : Oper} (ho : op c k = some o) (hk : k' = k.succ) (hg : Wanted c L o.guard true) (hs : gslot c o n = true) (h : WO P n o L w (fun L' w' => WL P n C c k' s L' w')) (hnd : ndOp o = true := by rfl) : WL P n C c k s L w := by
  intro a ha
  rw [drop_op ho]
  subst hk
  refine wpListIn_step fun K hK => ?_
  rw [if_pos (wanted_eq ha hg (gslot_spec hs))]
  exact oper_in C (ndOp_spec hnd) (h a ha K _ fun L' a' w' he hw => hK _ _ (hw a' he))
theorem wl_no {k k' d : Nat} {o : Oper} (ho : op c k = some o) (hk : k' = k.succ) (hg : Wanted c L o.guard false) (hd : o.dst = some d) (hn : (Nat.blt d n && gslot c o n) = true) (h : WL P n C c k' s ((d, undef) :: L) w) : WL P n C c k s L w := by
  intro a ha
  rw [drop_op ho]
  subst hk
  simp only [Bool.and_eq_true] at hn
  refine wpListIn_step fun K hK => ?_
  rw [if_neg (by rw [wanted_eq ha hg (gslot_spec hn.2)]; simp), hd]
  exact ⟨fun f _ => C.F_fn f, hK _ _ (h _ (ha.put (d := d) (by simpa using hn.1) undef))⟩
theorem wl_split {k t : Nat} {b : Bool} (hl : lk L t = some (.bool b)) (ht : b = true → WL P n C c k s ((t, .bool true) :: L) w) (hf : b = false → WL P n C c k s ((t, .bool false) :: L) w) : WL P n C c k s L w := by
  have key : ∀ b', b = b' → WL P n C c k s ((t, .bool b') :: L) w → WL P n C c k s L w := by
    intro b' e h a ha
    refine h a ⟨ha.sz, ha.df, fun u v hv => ?_⟩
    rw [lk_cons] at hv
    split at hv
    · rename_i e2; subst e2; injection hv with hv; subst hv; subst e; exact ha.at_ _ _ hl
    · exact ha.at_ _ _ hv
  cases b
  · exact key false rfl (hf rfl)
  · exact key true rfl (ht rfl)
/-- A call of yield: a round. -/
theorem wl_yield {k k' d l : Nat} {o : Oper} {vs : List Value} {ca : Call} {fo : Operand} {xs : List Operand} (ho : op c k = some o) (hk : k' = k.succ) (hg : o.guard = none) (hd : o.dst = some d) (hop : o.op = .call ca) (hca : ca.callee = .value fo) (hfo : oev L fo = some (.func (.yield l) #[] #[]))
    (hxs : ca.args = xs.toArray) (hvs : oevs L xs = some vs) (hn : Nat.blt d n = true) {R : Value → World → Prop} (hy : YieldAt C.F 0 P l vs.toArray w fun e w' => ∃ v, e = .returned v ∧ R v w') (h : ∀ v w', R v w' → WL P n C c k' s ((d, v) :: L) w') : WL P n C c k s L w := by
  intro a ha
  rw [drop_op ho]
  subst hk
  refine wpListIn_plain hg fun K hK => ?_
  obtain ⟨fn, tmps, assign, body, hy1, hy2⟩ := hy
  have hr : (execOp a.eval o).run P w = .ok (.round l fn tmps assign body) w := by
    unfold execOp
    simp only [hop, resolve, hca, ha.eval hfo, hxs, List.map_toArray, ha.evals hvs, Deferred.ofValue, Sem.run_bind, Sem.run_pure, Result.andThen_ok, invoke, Array.empty_append]
    exact hy1
  refine ⟨fun f _ => C.F_fn f, ?_⟩
  rw [Oper.semAt_eq _ _ _ (fun c e => by rw [e] at hop; cases hop), hr, Oper.uponIn_round, hd]
  refine ⟨C.F_isSome, hy2.mono ?_⟩
  rintro e w' ⟨v, rfl, hR⟩
  exact hK _ _ (h v w' hR _ (ha.put (by simpa using hn) v))
theorem ws_ret {fn : Func} {R : Ending → World → Prop} (hC : C.Q = bodyPost P fn R) {rs : List ResultVar} (vs : List Value) (hr : fn.results = rs.toArray) (hk : kind c = 6) (h : ResIs P L w rs vs) (hR : R (.returned (tup vs)) w) : WS P n C c s L w := by
  have hpr : ∀ {s : List K} {a : Act} {w : World}, post P C [] .ret a w → post P C s .ret a w := by
    intro s
    induction s with
    | nil => exact fun h => h
    | cons x s ih => intro a w h; cases x <;> exact ih h
  intro a ha
  rw [kind_ret hk]
  refine wpIn_ret (hpr ?_)
  show C.Q .ret a w
  rw [hC]
  exact ⟨ha.df, tup vs, run_results ha hr h, hR⟩
theorem nm_end {fn : Func} {R : Ending → World → Prop} (hC : C.Q = bodyPost P fn R) {rs : List ResultVar} (vs : List Value) (hr : fn.results = rs.toArray) (h : ResIs P L w rs vs) (hR : R (.returned (tup vs)) w) : NM P n C [] L w := by
  intro a ha
  show C.Q .normal a w
  rw [hC]
  exact ⟨ha.df, tup vs, run_results ha hr h, hR⟩
/-- A function that is ranged over. -/
theorem calls_in {f : FuncId} {fn : Func} {b : Code} {args : List Value} {w : World} {R : Ending → World → Prop} (hf : P.funcs[f]? = some fn) (hb : fn.body = some b) {n : Nat} (hn : fn.ntmps = n) (hsz : Nat.ble args.length n = true)
    (h : ∀ C : Ctx, C.r = none → C.Q = bodyPost P fn R → WS P n C b [] (argL 0 args) w) : CallsIn Fence.wide 0 P f args.toArray w R := by
  have h1 := h ⟨bodyPost P fn R, none⟩ rfl rfl
  refine callsIn_of_wp hf hb trivial (h1 _ ⟨?_, rfl, fun t v hv => ?_⟩)
  · simp [hn]; have : args.length ≤ n := by simpa using hsz
    omega
  · have := (lk_argL args 0 t v hv).2
    rw [Nat.sub_zero] at this
    have hlt := (List.getElem?_eq_some_iff.1 this).1
    simp only [Array.getD_eq_getD_getElem?]
    rw [Array.getElem?_append_left (by simpa using hlt)]
    simp [this]
/-- A function that holds a loop over a function. -/
theorem calls_marks {f : FuncId} {fn : Func} {b : Code} {args : List Value} {w : World} {R : Ending → World → Prop} (hf : P.funcs[f]? = some fn) (hb : fn.body = some b) {n : Nat} (hn : fn.ntmps = n) (hsz : Nat.ble args.length n = true)
    (h : ∀ C : Ctx, C.r = none → C.Q = bodyPostM Fence.wide 0 P fn R → WS P n C b [] (argL 0 args) w) : Calls P f args.toArray w R := by
  have h1 := h ⟨bodyPostM Fence.wide 0 P fn R, none⟩ rfl rfl
  refine callsIn_wide.1 (callsIn_of_wp_marks hf hb trivial (h1 _ ⟨?_, rfl, fun t v hv => ?_⟩))
  · simp [hn]; have : args.length ≤ n := by simpa using hsz
    omega
  · have := (lk_argL args 0 t v hv).2
    rw [Nat.sub_zero] at this
    have hlt := (List.getElem?_eq_some_iff.1 this).1
    simp only [Array.getD_eq_getD_getElem?]
    rw [Array.getElem?_append_left (by simpa using hlt)]
    simp [this]
end

/-! ### The loop over a function: one variable; the body goes on -/
section
variable {P : Program} {n : Nat} {C : Ctx} {c : Code} {s : List K} {L : List (Nat × Value)} {w : World} {M : Hp} {X : Fr} {H : List Rs}
/-- What is asked of the function that is ranged over: it yields enc 0, enc 1 .. enc (N - 1), whatever the rounds do to what is the caller's own. -/
def Iter (P : Program) (f : FuncId) (lb : List Value) (enc : Nat → Value) (N : Nat) (M : Hp) (X : Fr) : Prop :=
  ∀ (l : Nat) (J : Nat → Hp → Rs → Prop) (w : World) (M1 : Hp) (B : Rs), M.le M1 →
    (∀ k M' B' w', k < N → M1.le M' → SH w' M' X [B'] → J k M' B' → YieldAt Fence.wide 0 P l #[enc k] w' fun e w'' => ∃ v, e = .returned v ∧ v = .bool true ∧ ∃ M'' B'', M'.le M'' ∧ SH w'' M'' X [B''] ∧ J (k + 1) M'' B'') →
    SH w M1 X [B] → J 0 M1 B → CallsIn Fence.wide 0 P f ((Value.func (.yield l) #[] #[]) :: lb).toArray w fun e w' => (∃ v, e = .returned v) ∧ ∃ M' B', M1.le M' ∧ SH w' M' X [B'] ∧ J N M' B'
theorem lr_put {w : World} {l D : Nat} {rc rc' : Loop} {Hs : List Rs} (S : SH w M X (Rs.lr l D rc :: Hs)) : SH (w.putObj l (.loop rc')) M X (Rs.lr l D rc' :: Hs) := by
  obtain ⟨h1, h2⟩ := S.ok (Rs.lr l D rc) (by simp)
  have hne : D ≠ l := fun e => by subst e; rw [h1] at h2; cases h2
  have hlt := hp_lt h1
  have hlt2 := hp_lt h2
  refine S.step (i := 0) (r := Rs.lr l D rc) rfl rfl ⟨rfl, rfl, rfl, by simp [World.putObj]⟩ (fun b _ hb => ?_) ⟨World.putObj_heap_same hlt, (World.putObj_heap_other hne).trans h2⟩ (fun b hb => ⟨.inl hb, ?_⟩)
  · exact World.putObj_heap_other (fun e => hb (by rw [e]; simp [Rs.lr]))
  · simp only [Rs.lr, List.mem_cons, List.not_mem_nil, or_false] at hb
    rcases hb with rfl | rfl <;> simp [World.putObj, hlt, hlt2]
theorem env_start {a : Act} {p : Nat} {v : Value} (ha : Env n L a) (hp : p < n) : Env n ((p, v) :: L) { tmps := a.tmps.setIfInBounds p v, defers := [] } := by
  have := (ha.put hp v)
  exact ⟨by simpa [Act.put] using this.sz, rfl, fun t u hu => by have := this.at_ t u hu; simpa [Act.put] using this⟩
theorem ws_rangeFunc {p : Nat} {g : Operand} {asg bd : Code} {f : FuncId} {lb : List Value} {enc : Nat → Value} {N : Nat} (hr : C.r = none) (hc : c = .rangeFunc g #[p] asg bd) (hp' : Nat.blt p n = true) (hg : oev L g = some (.func (.func f) #[] lb.toArray)) (hen : ∀ args w, (callFunc f args).run P w = .ok (.enter f args) w)
    (S : SH w M X H) (I : Nat → Hp → List Rs → Prop) (I1 : Nat → Act → Hp → List Rs → Prop) (h0 : I 0 M H) (hit : Iter P f lb enc N M X)
    (hassign : ∀ (k : Nat) (M' : Hp) (H' : List Rs) (w' : World) (C' : Ctx) (R0 : Rs), k < N → M.le M' → SH w' M' X (R0 :: H') → I k M' H' → WS P n C' asg [.lp (fun a w'' => ∃ M'' H'', M'.le M'' ∧ SH w'' M'' X (R0 :: H'') ∧ I1 k a M'' H'')] ((p, enc k) :: L) w')
    (hbody : ∀ (k : Nat) (M' : Hp) (H' : List Rs) (w' : World) (C' : Ctx) (R0 : Rs) (a : Act), k < N → M.le M' → SH w' M' X (R0 :: H') → I1 k a M' H' → bd.wpIn C'.F 0 P (post P C' [.lp (fun _ w'' => ∃ M'' H'', M'.le M'' ∧ SH w'' M'' X (R0 :: H'') ∧ I (k + 1) M'' H'')]) a w')
    (hdone : ∀ (a : Act) (M' : Hp) (H' : List Rs) (w' : World) (D l : Nat) (rc : Loop), Env n L a → M.le M' → SH w' M' X (Rs.lr l D rc :: H') → I N M' H' → post P C s .normal { a with defers := [{ target := .collected D, args := #[] }] } w') : WS P n C c s L w := by
  have hF : C.F = Fence.wide := by unfold Ctx.F; rw [hr]
  intro a ha
  subst hc
  rw [hF]
  refine wpIn_rangeFunc ?_
  intro fn _
  rw [show Fence.wide.round = none from rfl]
  obtain ⟨rec, hrec⟩ : ∃ rec : LoopState → Loop, rec = fun st => { state := st, pending := none, fn, tmps := a.tmps, params := #[p], assign := asg, body := bd, defers := w.heap.size } := ⟨_, rfl⟩
  obtain ⟨W1, hW1⟩ : ∃ W1, (w.alloc (.deferred (some []))).alloc (.loop (rec .ready)) = W1 := ⟨_, rfl⟩
  have hL1 : W1.heap[w.heap.size + 1]? = some (.loop (rec .ready)) := by
    rw [← hW1]; have := World.alloc_heap_new (w.alloc (.deferred (some []))) (.loop (rec .ready)); rwa [World.size_alloc] at this
  have hK1 : W1.heap[w.heap.size]? = some (.deferred (some [])) := by
    rw [← hW1]; exact (Below.heap_alloc _ _ _ (by simp)).trans (World.alloc_heap_new w _)
  have hkeep : ∀ b, b < w.heap.size → hp W1 b = hp w b := fun b hb => by
    rw [← hW1]
    exact (keep_alloc (w.alloc (.deferred (some []))) _ b (by rw [size_al]; omega)).trans (keep_alloc w _ b hb)
  have S1 : SH W1 M X (Rs.lr (w.heap.size + 1) w.heap.size (rec .ready) :: H) := by
    have hl : Like w W1 := by rw [← hW1]; exact (like_alloc w _).trans (like_alloc _ _)
    refine S.cons hl hkeep ⟨hL1, hK1⟩ (fun b hb => ?_)
    have hsz : W1.heap.size = w.heap.size + 2 := by rw [← hW1, size_al, size_al]
    simp only [Rs.lr, List.mem_cons, List.not_mem_nil, or_false] at hb
    omega
  have hdf : a.defers = [] := ha.df
  refine ⟨w.heap.size + 1, [{ target := .collected w.heap.size, args := #[] }], W1, { target := .fn (.func f) lb.toArray, args := #[.func (.yield (w.heap.size + 1)) #[] #[]] }, W1, f,
    #[.func (.yield (w.heap.size + 1)) #[] #[]] ++ lb.toArray, W1, ?_, ?_, fun _ _ => trivial, ?_, fun h => (by cases h), ?_⟩
  · rw [← hW1, hrec]; exact run_enterLoop_outer _ _ _ _ _
  · simp only [resolve, ha.eval hg]
    simp [go_sem]
  · simp [invoke, go_sem, hen]
  · rw [show (#[.func (.yield (w.heap.size + 1)) #[] #[]] ++ lb.toArray : Array Value) = ((Value.func (.yield (w.heap.size + 1)) #[] #[]) :: lb).toArray from by simp]
    refine (hit (w.heap.size + 1) (fun k M' B => ∃ H', B = Rs.bun (Rs.lr (w.heap.size + 1) w.heap.size (rec .ready) :: H') ∧ I k M' H') W1 M _ (Hp.le_refl _) ?_ S1.bun ⟨H, rfl, h0⟩).mono ?_
    · rintro k M' B' w' hk hle SB ⟨H', rfl, hI⟩
      have S' := SB.unbun
      obtain ⟨hl, hD⟩ := S'.ok (Rs.lr (w.heap.size + 1) w.heap.size (rec .ready)) (by simp)
      have hy := run_yield (P := P) (args := #[enc k]) hl (by rw [hrec]; rfl)
      rw [hrec] at hy
      refine ⟨fn, _, asg, bd, hy, roundIn_of_wpIn trivial ?_⟩
      have hC' : (Ctx.mk (fun _ _ _ => False) (some (w.heap.size + 1))).F = Fence.wide.inRound (w.heap.size + 1) := rfl
      have e1 : ((#[p] : Array Tmp).zip #[enc k]).foldl (fun tmps (t, a) => tmps.setIfInBounds t a) a.tmps = a.tmps.setIfInBounds p (enc k) := by simp
      rw [← hC']
      have hA := hassign k M' H' w' (Ctx.mk (fun _ _ _ => False) (some (w.heap.size + 1))) (Rs.lr (w.heap.size + 1) w.heap.size (rec .ready)) hk hle S' hI _ (env_start ha (by simpa using hp'))
      rw [e1]
      refine wpIn_mono hA ?_
      rintro e a2 w2 hq
      cases e with
      | normal =>
        obtain ⟨M2, H2, hle2, S2, hI1⟩ := hq
        obtain ⟨hl2, _⟩ := S2.ok (Rs.lr (w.heap.size + 1) w.heap.size (rec .ready)) (by simp)
        refine ⟨_, run_beginRound hl2 (by rw [hrec]), ?_⟩
        have S3 := lr_put (rc' := { rec .ready with state := .busy }) S2
        refine wpIn_mono (hbody k M2 H2 _ (Ctx.mk (fun _ _ _ => False) (some (w.heap.size + 1))) _ a2 hk (hle.trans hle2) S3 hI1) ?_
        rintro e a3 w3 hq3
        cases e with
        | normal =>
          obtain ⟨M4, H4, hle4, S4, hI4⟩ := hq3
          obtain ⟨hl4, _⟩ := S4.ok (Rs.lr (w.heap.size + 1) w.heap.size { rec .ready with state := .busy }) (by simp)
          have he := run_endRound (P := P) none hl4
          have S5 := lr_put (rc' := rec .ready) S4
          refine ⟨_, _, he, _, rfl, rfl, M4, Rs.bun (Rs.lr (w.heap.size + 1) w.heap.size (rec .ready) :: H4), hle2.trans hle4, ?_, H4, rfl, hI4⟩
          have e2 : ({ ({ rec .ready with state := .busy } : Loop) with state := (if (none : Option Code).isNone = true then LoopState.ready else LoopState.done), pending := none } : Loop) = rec .ready := by rw [hrec]; rfl
          rw [e2]
          exact S5.bun
        | _ => exact hq3.elim
      | _ => exact hq.elim
    · rintro e w2 ⟨⟨v, rfl⟩, M', B', hle, SB, H', rfl, hI⟩
      have S' := SB.unbun
      obtain ⟨hl, hD⟩ := S'.ok (Rs.lr (w.heap.size + 1) w.heap.size (rec .ready)) (by simp)
      have he := run_endLoop (P := P) hl (by rw [hrec]; simp)
      refine ⟨none, w2.putObj (w.heap.size + 1) (.loop { rec .ready with state := .exhausted }), by rw [he, hrec], ?_⟩
      have := hdone a M' H' _ w.heap.size (w.heap.size + 1) _ ha hle (lr_put (rc' := { rec .ready with state := .exhausted }) S') hI
      rw [hdf]
      exact this
theorem lr_take {l D : Nat} {rc : Loop} {Hs : List Rs} (S : SH w M X (Rs.lr l D rc :: Hs)) : SH (w.putObj D (.deferred none)) M X Hs := by
  obtain ⟨h1, h2⟩ := S.ok (Rs.lr l D rc) (by simp)
  have S2 : SH (w.putObj D (.deferred none)) M X (Rs.emp :: Hs) := S.step (i := 0) (r := Rs.lr l D rc) rfl rfl ⟨rfl, rfl, rfl, by simp [World.putObj]⟩ (fun b _ hb => World.putObj_heap_other (fun e => hb (by rw [e]; simp [Rs.lr]))) trivial (fun b hb => by cases hb)
  exact S2.suf (N := [Rs.emp])
/-- The end of a function that holds such a loop: a variable is loaded and handed back. -/
theorem tail_la {fn : Func} {R : Ending → World → Prop} (hC : C.Q = bodyPostM Fence.wide 0 P fn R) {i : Nat} {o1 o2 : Oper} (hc : c = .seq (.region i #[o1, o2] false) .ret) {x : Operand} {T d1 d2 l D : Nat} {p : Addr} {v : Value} {dd : TypeDesc} {rc : Loop} {Hs : List Rs} {a : Act}
    (h1 : o1.op = .load T x) (g1 : o1.guard = none) (e1 : o1.dst = some d1) (h2 : o2.op = .assign (.tmp d1)) (g2 : o2.guard = none) (e2 : o2.dst = some d2) (ha : Env n L a) (hx : oev L x = some (.pointer (some p))) (hu : P.underlying T = some dd) (hd : flatD dd = true) (hn1 : Nat.blt d1 n = true) (hn2 : Nat.blt d2 n = true)
    (hres : fn.results = #[.tmp d2]) (S : SH w M X (Rs.lr l D rc :: Hs)) (hcell : w.cell? p = some v) (hR : ∀ w', SH w' M X Hs → R (.returned v) w') : c.wpIn C.F 0 P C.Q { a with defers := [{ target := .collected D, args := #[] }] } w := by
  subst hc
  obtain ⟨_, hD⟩ := S.ok (Rs.lr l D rc) (by simp)
  have r1 : (execOp a.eval o1).run P w = .ok (.value v) w := run_load1 h1 hx hu hd hcell n a ha
  have ha1 := ha.put (d := d1) (by simpa using hn1) v
  have r2 : (execOp (a.put (some d1) v).eval o2).run P w = .ok (.value v) w := run_assign h2 (by simp [oev, lk]) n _ ha1
  have ha2 := ha1.put (d := d2) (by simpa using hn2) v
  refine wpIn_seq ?_
  refine wpIn_region_list ?_
  show wpListIn C.F 0 P #[o1, o2] _ [o1, o2] _ w
  refine wpListIn_plain g1 fun K hK => ?_
  refine ⟨fun f _ => C.F_fn f, ?_⟩
  rw [Oper.semAt_eq _ _ _ (fun c e => by rw [e] at h1; cases h1), show (execOp ({ a with defers := [{ target := .collected D, args := #[] }] } : Act).eval o1).run P w = .ok (.value v) w from r1, Oper.uponIn_value, e1]
  refine hK _ _ ?_
  refine wpListIn_plain g2 fun K2 hK2 => ?_
  refine ⟨fun f _ => C.F_fn f, ?_⟩
  rw [Oper.semAt_eq _ _ _ (fun c e => by rw [e] at h2; cases h2), show (execOp (({ a with defers := [{ target := .collected D, args := #[] }] } : Act).put (some d1) v).eval o2).run P w = .ok (.value v) w from r2, Oper.uponIn_value, e2]
  refine hK2 _ _ ?_
  refine wpListIn_nil ?_
  refine wpIn_ret ?_
  rw [hC]
  refine ⟨by simp, .inl ⟨D, _, rfl, run_takeDeferred hD, ?_⟩⟩
  refine ⟨v, ?_, hR _ (lr_take S)⟩
  have hz := ha.sz
  have hd2 : d2 < n := by simpa using hn2
  simp only [Act.put]
  simp [results, hres]
  intro h
  omega
end
end InF
end Go.Proofs.Ytkcighnochjlgaa
