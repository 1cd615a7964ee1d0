/- Part 3 of the proof of the law HomflyTells: the walks through its functions and the plain laws that they need. -/
import Derived.Test.YthppkofceancjaaGreatHfZ2
import Derived.RangeFuncNested
import Derived.RangeFuncBound
import Derived.RangeFuncCalls
import Derived.RangeFuncLeaves
import Derived.LoopNIn
import Derived.Sort.OwnSortedInts
import Derived.Shelf.Sort.Plain
import Derived.Shelf.Slices.In.SortNone
import Derived.Maps.RangeRun
set_option linter.unusedSimpArgs false
set_option linter.unusedVariables false
namespace Go.Proofs.YthppkofceancjaaGreat
open Go.ChangeShapes Go.WideShapes Go.ChangeAt Go.RowKit
def Rs.bun (H : List Rs) : Rs :=
  ⟨H.flatMap (·.bl), fun h => (∀ r ∈ H, r.ok h) ∧ ∀ (i j : Nat) r s, i ≠ j → H[i]? = some r → H[j]? = some s → ∀ b ∈ r.bl, b ∉ s.bl, fun h h' hb hk =>
    ⟨fun r hr => r.loc h h' (fun b hbr => hb b (List.mem_flatMap.2 ⟨r, hr, hbr⟩)) (hk.1 r hr), hk.2⟩⟩
section
variable {w w' : World} {M M' : Hp} {X : Fr} {H H' : List Rs} {r r' : Rs} {i : Nat}
theorem SH.bun (S : SH w M X H) : SH w M X [Rs.bun H] := by
  refine ⟨S.m, S.x, S.mx, fun s hs => ?_, fun s hs b hb => ?_, fun i j r s hij hi hj b hb => ?_, S.like⟩
  · rw [List.mem_singleton] at hs; subst hs; exact ⟨S.ok, S.ap⟩
  · rw [List.mem_singleton] at hs; subst hs
    obtain ⟨r, hr, hbr⟩ := List.mem_flatMap.1 hb
    exact S.bl r hr b hbr
  · have h1 := (List.getElem?_eq_some_iff.1 hi).1
    have h2 := (List.getElem?_eq_some_iff.1 hj).1
    simp at h1 h2; omega
theorem SH.unbun (S : SH w M X [Rs.bun H]) : SH w M X H := by
  obtain ⟨h1, h2⟩ := S.ok (Rs.bun H) (by simp)
  exact ⟨S.m, S.x, S.mx, h1, fun r hr b hb => S.bl (Rs.bun H) (by simp) b (List.mem_flatMap.2 ⟨r, hr, hb⟩), h2, S.like⟩
end
def Rs.lr (l D : Nat) (rc : Loop) : Rs :=
  ⟨[l, D], fun h => h l = some (.loop rc) ∧ h D = some (.deferred (some [])), fun h h' hb hk => ⟨by rw [hb l (by simp)]; exact hk.1, by rw [hb D (by simp)]; exact hk.2⟩⟩
namespace InF
structure Ctx where
  Q : Exit → Act → World → Prop
  r : Option Nat
def Ctx.F (C : Ctx) : Fence := match C.r with
  | none => Fence.wide
  | some l => Fence.wide.inRound l
theorem Ctx.F_fn (C : Ctx) (f : FuncId) : C.F.fn f := by
  unfold Ctx.F; split <;> trivial
theorem Ctx.F_depth (C : Ctx) : C.F.depth = none := by
  unfold Ctx.F; split <;> rfl
theorem Ctx.F_isSome (C : Ctx) {p : Prop} : C.F.depth.isSome = true → p := by rw [C.F_depth]; intro h; cases h
theorem callsF (C : Ctx) {m : Nat} {P : Program} {f : FuncId} {args : Array Value} {w : World} {R : Ending → World → Prop} (h : Calls P f args w R) : CallsIn C.F m P f args w R := by
  unfold Ctx.F
  split
  · exact callsIn_wide.2 h
  · exact (callsIn_wide.2 h).inRound _
theorem rowsF (C : Ctx) {m : Nat} {P : Program} {row : String} {args : Array Value} {w : World} {R : Value → World → Prop} (h : Rows P row args w R) : RowsIn C.F m P row args w R := by
  unfold Ctx.F
  split
  · exact fun c cs _ => let ⟨v, w', r, s⟩ := h c cs; ⟨v, w', r, stepsIn_wide.2 s⟩
  · exact fun c cs _ => let ⟨v, w', r, s⟩ := h c cs; ⟨v, w', r, stepsIn_wide.2 s⟩
theorem oper_in (C : Ctx) {P : Program} {o : Oper} {a : Act} {w : World} {next : Act → World → Prop} {Q : Exit → Act → World → Prop} (hnd : ∀ c, o.op ≠ .defer c) (h : o.wp P a w next Q) : o.wpIn C.F 0 P a w next Q := by
  refine ⟨fun f _ => C.F_fn f, ?_⟩
  rw [Oper.semAt_eq _ _ _ hnd]
  unfold Oper.wp at h
  generalize (execOp a.eval o).run P w = r at h
  cases r with
  | ok nx w' =>
    cases nx with
    | value v => exact h
    | skip => exact h
    | defer d => exact h
    | enter f args => exact ⟨C.F_isSome, callsF C h⟩
    | row row args => exact ⟨C.F_isSome, rowsF C h⟩
    | _ => exact h.elim
  | halt x w' =>
    cases x with
    | panic v => exact h
    | _ => exact h.elim
def post (P : Program) (C : Ctx) : List K → Exit → Act → World → Prop
  | [] => C.Q
  | .thn c :: s => Exit.then (c.wpIn C.F 0 P (post P C s)) (post P C s)
  | .blk id :: s => Exit.inBlock id (post P C s)
  | .lp I :: s => Exit.then I (post P C s)
def WS (P : Program) (n : Nat) (C : Ctx) (c : Code) (s : List K) (L : List (Nat × Value)) (w : World) : Prop := ∀ a, Env n L a → c.wpIn C.F 0 P (post P C s) a w
def NM (P : Program) (n : Nat) (C : Ctx) (s : List K) (L : List (Nat × Value)) (w : World) : Prop := ∀ a, Env n L a → post P C s .normal a w
def WL (P : Program) (n : Nat) (C : Ctx) (c : Code) (k : Nat) (s : List K) (L : List (Nat × Value)) (w : World) : Prop := ∀ a, Env n L a → wpListIn C.F 0 P (rg c) (post P C s) ((rg c).toList.drop k) a w
section
variable {P : Program} {n : Nat} {C : Ctx} {c : Code} {s : List K} {L : List (Nat × Value)} {w : World}
theorem ws_sub (L2 : List (Nat × Value)) (hs : Sub L L2) (h : WS P n C c s L2 w) : WS P n C c s L w := fun a ha => h a (ha.sub hs)
theorem nm_sub (L2 : List (Nat × Value)) (hs : Sub L L2) (h : NM P n C s L2 w) : NM P n C s L w := fun a ha => h a (ha.sub hs)
theorem ws_seqN (a b : Code) (hk : kind c = 1) (ha : cL c = a) (hb : cR c = b) (h : WS P n C a (.thn b :: s) L w) : WS P n C c s L w := by
  subst ha; subst hb
  intro a ha
  rw [kind_seq hk]
  exact wpIn_seq (h a ha)
theorem ws_blockN (a : Code) (i : Nat) (hk : kind c = 3) (ha : cL c = a) (hi : cId c = i) (h : WS P n C a (.blk i :: s) L w) : WS P n C c s L w := by
  subst ha; subst hi
  intro a ha
  rw [kind_block hk]
  exact wpIn_block (h a ha)
theorem ws_skip (hk : kind c = 9) (h : NM P n C s L w) : WS P n C c s L w := by
  intro a ha
  rw [kind_skip hk]
  exact wpIn_skip (h a ha)
theorem nm_thn (h : WS P n C c s L w) : NM P n C (.thn c :: s) L w := fun a ha => h a ha
theorem nm_blk {id : Nat} (h : NM P n C s L w) : NM P n C (.blk id :: s) L w := fun a ha => h a ha
theorem nm_lp {I : Act → World → Prop} (h : ∀ a, Env n L a → I a w) : NM P n C (.lp I :: s) L w := fun a ha => h a ha
theorem post_exit {id : Nat} : ∀ {s s' : List K}, popTo id s = some s' → ∀ a w, post P C s' .normal a w → post P C s (.exit id) a w
  | [], s', h, a, w, hq => by cases h
  | .thn c :: s, s', h, a, w, hq => post_exit (s := s) h a w hq
  | .lp I :: s, s', h, a, w, hq => post_exit (s := s) h a w hq
  | .blk i :: s, s', h, a, w, hq => by
    simp only [popTo] at h
    simp only [post, Exit.inBlock]
    by_cases hi : i = id
    · subst hi
      simp only [Nat.beq_refl, Option.some.injEq] at h
      subst h
      rw [if_pos rfl]
      exact hq
    · have h2 : Nat.beq i id = false := by
        cases hb : Nat.beq i id with
        | false => rfl
        | true => exact absurd (Nat.eq_of_beq_eq_true hb) hi
      simp only [h2] at h
      rw [if_neg (fun e => hi e.symm)]
      exact post_exit (s := s) h a w hq
theorem ws_exit {s' : List K} (hk : kind c = 5) (hp : popTo (cId c) s = some s') (h : NM P n C s' L w) : WS P n C c s L w := by
  intro a ha
  rw [kind_exit hk]
  exact wpIn_exit (post_exit hp a w (h a ha))
theorem ws_condN (x y : Code) {b : Bool} (hk : kind c = 2) (hb : oev L (cX c) = some (.bool b)) (hx : cL c = x) (hy : cR c = y) (ht : b = true → WS P n C x s L w) (hf : b = false → WS P n C y s L w) : WS P n C c s L w := by
  subst hx; subst hy
  intro a ha
  rw [kind_cond hk]
  exact wpIn_cond_split (ha.eval hb) (fun h => ht h a ha) (fun h => hf h a ha)
theorem ws_condTN (x : Code) (hk : kind c = 2) (hb : oev L (cX c) = some (.bool true)) (hx : cL c = x) (ht : WS P n C x s L w) : WS P n C c s L w := ws_condN x (cR c) hk hb hx rfl (fun _ => ht) (fun e => by cases e)
theorem ws_condFN (y : Code) (hk : kind c = 2) (hb : oev L (cX c) = some (.bool false)) (hy : cR c = y) (hf : WS P n C y s L w) : WS P n C c s L w := ws_condN (cL c) y hk hb rfl hy (fun e => by cases e) (fun _ => hf)
theorem ws_in {a : Act} {c' : Code} (ha : Env n L a) (hc : c' = c) (h : WS P n C c s L w) : c'.wpIn C.F 0 P (post P C s) a w := by subst hc; exact h a ha
theorem ws_loopE (I : Nat → Act → World → Prop) (hk : kind c = 4) (h0 : ∀ a, Env n L a → ∃ k, I k a w)
    (round : ∀ k a w, I k a w → (cL c).wpIn C.F 0 P (post P C (.lp (fun a' w' => ∃ k', k' < k ∧ I k' a' w') :: s)) a w) : WS P n C c s L w := by
  intro a ha
  rw [kind_loop hk]
  have key : ∀ m k, k < m → ∀ a w, I k a w → Code.roundsIn C.F 0 P (cL c) (post P C s) m a w := by
    intro m
    induction m with
    | zero => intro k hk; omega
    | succ m ih =>
      intro k hk a w hi
      rw [roundsIn_succ]
      refine wpIn_mono (round k a w hi) (fun e a w q => ?_)
      cases e with
      | normal =>
        obtain ⟨k', hlt, hi'⟩ := q
        exact ih k' (by omega) a w hi'
      | _ => exact q
  obtain ⟨k0, h1⟩ := h0 a ha
  exact wpIn_loop_rounds (k0 + 1) (key (k0 + 1) k0 (by omega) a w h1)
theorem ws_region (hk : kind c = 7) (h : WL P n C c 0 s L w) : WS P n C c s L w := by
  intro a ha
  rw [kind_region hk]
  exact wpIn_region_list (h a ha)
theorem wl_end {k : Nat} (hk : op c k = none) (h : NM P n C s L w) : WL P n C c k s L w := by
  intro a ha
  have : ((rg c).toList.drop k) = [] := by
    unfold op at hk
    rw [nth_eq] at hk
    exact List.drop_eq_nil_of_le (by simpa using hk)
  rw [this]
  exact wpListIn_nil (h a ha)
/-- No defer statement; and no operation that asks for a row of the model's own. -/
def ndOp (o : Oper) : Bool := match o.op with
  | .defer _ => false
  | _ => true
theorem ndOp_spec {o : Oper} (h : ndOp o = true) : ∀ c, o.op ≠ .defer c := fun c e => by unfold ndOp at h; rw [e] at h; cases h
theorem wl_op {k k' : Nat} {o : Oper} (ho : op c k = some o) (hk : k' = k.succ) (hg : o.guard = none) (h : WO P n o L w (fun L' w' => WL P n C c k' s L' w')) (hnd : ndOp o = true := by rfl) : WL P n C c k s L w := by
  intro a ha
  rw [drop_op ho]
  subst hk
  refine wpListIn_plain hg fun K hK => ?_
  exact oper_in C (ndOp_spec hnd) (h a ha K _ fun L' a' w' he hw => hK _ _ (hw a' he))
/-- A call of yield: a round. -/
theorem wl_yield {k k' d l : Nat} {o : Oper} {vs : List Value} {ca : Call} {fo : Operand} {xs : List Operand} (ho : op c k = some o) (hk : k' = k.succ) (hg : o.guard = none) (hd : o.dst = some d) (hop : o.op = .call ca) (hca : ca.callee = .value fo) (hfo : oev L fo = some (.func (.yield l) #[] #[]))
    (hxs : ca.args = xs.toArray) (hvs : oevs L xs = some vs) (hn : Nat.blt d n = true) {R : Value → World → Prop} (hy : YieldAt C.F 0 P l vs.toArray w fun e w' => ∃ v, e = .returned v ∧ R v w') (h : ∀ v w', R v w' → WL P n C c k' s ((d, v) :: L) w') : WL P n C c k s L w := by
  intro a ha
  rw [drop_op ho]
  subst hk
  refine wpListIn_plain hg fun K hK => ?_
  obtain ⟨fn, tmps, assign, body, hy1, hy2⟩ := hy
  have hr : (execOp a.eval o).run P w = .ok (.round l fn tmps assign body) w := by
    unfold execOp
    simp only [hop, resolve, hca, ha.eval hfo, hxs, List.map_toArray, ha.evals hvs, Deferred.ofValue, Sem.run_bind, Sem.run_pure, Result.andThen_ok, invoke, Array.empty_append]
    exact hy1
  refine ⟨fun f _ => C.F_fn f, ?_⟩
  rw [Oper.semAt_eq _ _ _ (fun c e => by rw [e] at hop; cases hop), hr, Oper.uponIn_round, hd]
  refine ⟨C.F_isSome, hy2.mono ?_⟩
  rintro e w' ⟨v, rfl, hR⟩
  exact hK _ _ (h v w' hR _ (ha.put (by simpa using hn) v))
theorem nm_end {fn : Func} {R : Ending → World → Prop} (hC : C.Q = bodyPost P fn R) {rs : List ResultVar} (vs : List Value) (hr : fn.results = rs.toArray) (h : ResIs P L w rs vs) (hR : R (.returned (tup vs)) w) : NM P n C [] L w := by
  intro a ha
  show C.Q .normal a w
  rw [hC]
  exact ⟨ha.df, tup vs, run_results ha hr h, hR⟩
/-- A function that is ranged over. -/
theorem calls_in {f : FuncId} {fn : Func} {b : Code} {args : List Value} {w : World} {R : Ending → World → Prop} (hf : P.funcs[f]? = some fn) (hb : fn.body = some b) {n : Nat} (hn : fn.ntmps = n) (hsz : Nat.ble args.length n = true)
    (h : ∀ C : Ctx, C.r = none → C.Q = bodyPost P fn R → WS P n C b [] (argL 0 args) w) : CallsIn Fence.wide 0 P f args.toArray w R := by
  have h1 := h ⟨bodyPost P fn R, none⟩ rfl rfl
  refine callsIn_of_wp hf hb trivial (h1 _ ⟨?_, rfl, fun t v hv => ?_⟩)
  · simp [hn]; have : args.length ≤ n := by simpa using hsz
    omega
  · have := (lk_argL args 0 t v hv).2
    rw [Nat.sub_zero] at this
    have hlt := (List.getElem?_eq_some_iff.1 this).1
    simp only [Array.getD_eq_getD_getElem?]
    rw [Array.getElem?_append_left (by simpa using hlt)]
    simp [this]
/-- A function that holds a loop over a function. -/
theorem calls_marks {f : FuncId} {fn : Func} {b : Code} {args : List Value} {w : World} {R : Ending → World → Prop} (hf : P.funcs[f]? = some fn) (hb : fn.body = some b) {n : Nat} (hn : fn.ntmps = n) (hsz : Nat.ble args.length n = true)
    (h : ∀ C : Ctx, C.r = none → C.Q = bodyPostM Fence.wide 0 P fn R → WS P n C b [] (argL 0 args) w) : Calls P f args.toArray w R := by
  have h1 := h ⟨bodyPostM Fence.wide 0 P fn R, none⟩ rfl rfl
  refine callsIn_wide.1 (callsIn_of_wp_marks hf hb trivial (h1 _ ⟨?_, rfl, fun t v hv => ?_⟩))
  · simp [hn]; have : args.length ≤ n := by simpa using hsz
    omega
  · have := (lk_argL args 0 t v hv).2
    rw [Nat.sub_zero] at this
    have hlt := (List.getElem?_eq_some_iff.1 this).1
    simp only [Array.getD_eq_getD_getElem?]
    rw [Array.getElem?_append_left (by simpa using hlt)]
    simp [this]
end
section
variable {P : Program} {n : Nat} {C : Ctx} {c : Code} {s : List K} {L : List (Nat × Value)} {w : World} {M : Hp} {X : Fr} {H : List Rs}
/-- What is asked of the function that is ranged over: it yields enc 0, enc 1 .. enc (N - 1), whatever the rounds do to what is the caller's own. -/
def Iter (P : Program) (f : FuncId) (lb : List Value) (enc : Nat → Value) (N : Nat) (M : Hp) (X : Fr) : Prop :=
  ∀ (l : Nat) (J : Nat → Hp → Rs → Prop) (w : World) (M1 : Hp) (B : Rs), M.le M1 →
    (∀ k M' B' w', k < N → M1.le M' → SH w' M' X [B'] → J k M' B' → YieldAt Fence.wide 0 P l #[enc k] w' fun e w'' => ∃ v, e = .returned v ∧ v = .bool true ∧ ∃ M'' B'', M'.le M'' ∧ SH w'' M'' X [B''] ∧ J (k + 1) M'' B'') →
    SH w M1 X [B] → J 0 M1 B → CallsIn Fence.wide 0 P f ((Value.func (.yield l) #[] #[]) :: lb).toArray w fun e w' => (∃ v, e = .returned v) ∧ ∃ M' B', M1.le M' ∧ SH w' M' X [B'] ∧ J N M' B'
theorem lr_put {w : World} {l D : Nat} {rc rc' : Loop} {Hs : List Rs} (S : SH w M X (Rs.lr l D rc :: Hs)) : SH (w.putObj l (.loop rc')) M X (Rs.lr l D rc' :: Hs) := by
  obtain ⟨h1, h2⟩ := S.ok (Rs.lr l D rc) (by simp)
  have hne : D ≠ l := fun e => by subst e; rw [h1] at h2; cases h2
  have hlt := hp_lt h1
  have hlt2 := hp_lt h2
  refine S.step (i := 0) (r := Rs.lr l D rc) rfl rfl ⟨rfl, rfl, rfl, by simp [World.putObj]⟩ (fun b _ hb => ?_) ⟨World.putObj_heap_same hlt, (World.putObj_heap_other hne).trans h2⟩ (fun b hb => ⟨.inl hb, ?_⟩)
  · exact World.putObj_heap_other (fun e => hb (by rw [e]; simp [Rs.lr]))
  · simp only [Rs.lr, List.mem_cons, List.not_mem_nil, or_false] at hb
    rcases hb with rfl | rfl <;> simp [World.putObj, hlt, hlt2]
theorem env_start {a : Act} {p : Nat} {v : Value} (ha : Env n L a) (hp : p < n) : Env n ((p, v) :: L) { tmps := a.tmps.setIfInBounds p v, defers := [] } := by
  have := (ha.put hp v)
  exact ⟨by simpa [Act.put] using this.sz, rfl, fun t u hu => by have := this.at_ t u hu; simpa [Act.put] using this⟩
theorem ws_rangeFunc {p : Nat} {g : Operand} {asg bd : Code} {f : FuncId} {lb : List Value} {enc : Nat → Value} {N : Nat} (hr : C.r = none) (hc : c = .rangeFunc g #[p] asg bd) (hp' : Nat.blt p n = true) (hg : oev L g = some (.func (.func f) #[] lb.toArray)) (hen : ∀ args w, (callFunc f args).run P w = .ok (.enter f args) w)
    (S : SH w M X H) (I : Nat → Hp → List Rs → Prop) (I1 : Nat → Act → Hp → List Rs → Prop) (h0 : I 0 M H) (hit : Iter P f lb enc N M X)
    (hassign : ∀ (k : Nat) (M' : Hp) (H' : List Rs) (w' : World) (C' : Ctx) (R0 : Rs), k < N → M.le M' → SH w' M' X (R0 :: H') → I k M' H' → WS P n C' asg [.lp (fun a w'' => ∃ M'' H'', M'.le M'' ∧ SH w'' M'' X (R0 :: H'') ∧ I1 k a M'' H'')] ((p, enc k) :: L) w')
    (hbody : ∀ (k : Nat) (M' : Hp) (H' : List Rs) (w' : World) (C' : Ctx) (R0 : Rs) (a : Act), k < N → M.le M' → SH w' M' X (R0 :: H') → I1 k a M' H' → bd.wpIn C'.F 0 P (post P C' [.lp (fun _ w'' => ∃ M'' H'', M'.le M'' ∧ SH w'' M'' X (R0 :: H'') ∧ I (k + 1) M'' H'')]) a w')
    (hdone : ∀ (a : Act) (M' : Hp) (H' : List Rs) (w' : World) (D l : Nat) (rc : Loop), Env n L a → M.le M' → SH w' M' X (Rs.lr l D rc :: H') → I N M' H' → post P C s .normal { a with defers := [{ target := .collected D, args := #[] }] } w') : WS P n C c s L w := by
  have hF : C.F = Fence.wide := by unfold Ctx.F; rw [hr]
  intro a ha
  subst hc
  rw [hF]
  refine wpIn_rangeFunc ?_
  intro fn _
  rw [show Fence.wide.round = none from rfl]
  obtain ⟨rec, hrec⟩ : ∃ rec : LoopState → Loop, rec = fun st => { state := st, pending := none, fn, tmps := a.tmps, params := #[p], assign := asg, body := bd, defers := w.heap.size } := ⟨_, rfl⟩
  obtain ⟨W1, hW1⟩ : ∃ W1, (w.alloc (.deferred (some []))).alloc (.loop (rec .ready)) = W1 := ⟨_, rfl⟩
  have hL1 : W1.heap[w.heap.size + 1]? = some (.loop (rec .ready)) := by
    rw [← hW1]; have := World.alloc_heap_new (w.alloc (.deferred (some []))) (.loop (rec .ready)); rwa [World.size_alloc] at this
  have hK1 : W1.heap[w.heap.size]? = some (.deferred (some [])) := by
    rw [← hW1]; exact (Below.heap_alloc _ _ _ (by simp)).trans (World.alloc_heap_new w _)
  have hkeep : ∀ b, b < w.heap.size → hp W1 b = hp w b := fun b hb => by
    rw [← hW1]
    exact (keep_alloc (w.alloc (.deferred (some []))) _ b (by rw [size_al]; omega)).trans (keep_alloc w _ b hb)
  have S1 : SH W1 M X (Rs.lr (w.heap.size + 1) w.heap.size (rec .ready) :: H) := by
    have hl : Like w W1 := by rw [← hW1]; exact (like_alloc w _).trans (like_alloc _ _)
    refine S.cons hl hkeep ⟨hL1, hK1⟩ (fun b hb => ?_)
    have hsz : W1.heap.size = w.heap.size + 2 := by rw [← hW1, size_al, size_al]
    simp only [Rs.lr, List.mem_cons, List.not_mem_nil, or_false] at hb
    omega
  have hdf : a.defers = [] := ha.df
  refine ⟨w.heap.size + 1, [{ target := .collected w.heap.size, args := #[] }], W1, { target := .fn (.func f) lb.toArray, args := #[.func (.yield (w.heap.size + 1)) #[] #[]] }, W1, f,
    #[.func (.yield (w.heap.size + 1)) #[] #[]] ++ lb.toArray, W1, ?_, ?_, fun _ _ => trivial, ?_, fun h => (by cases h), ?_⟩
  · rw [← hW1, hrec]; exact run_enterLoop_outer _ _ _ _ _
  · simp only [resolve, ha.eval hg]
    simp [go_sem]
  · simp [invoke, go_sem, hen]
  · rw [show (#[.func (.yield (w.heap.size + 1)) #[] #[]] ++ lb.toArray : Array Value) = ((Value.func (.yield (w.heap.size + 1)) #[] #[]) :: lb).toArray from by simp]
    refine (hit (w.heap.size + 1) (fun k M' B => ∃ H', B = Rs.bun (Rs.lr (w.heap.size + 1) w.heap.size (rec .ready) :: H') ∧ I k M' H') W1 M _ (Hp.le_refl _) ?_ S1.bun ⟨H, rfl, h0⟩).mono ?_
    · rintro k M' B' w' hk hle SB ⟨H', rfl, hI⟩
      have S' := SB.unbun
      obtain ⟨hl, hD⟩ := S'.ok (Rs.lr (w.heap.size + 1) w.heap.size (rec .ready)) (by simp)
      have hy := run_yield (P := P) (args := #[enc k]) hl (by rw [hrec]; rfl)
      rw [hrec] at hy
      refine ⟨fn, _, asg, bd, hy, roundIn_of_wpIn trivial ?_⟩
      have hC' : (Ctx.mk (fun _ _ _ => False) (some (w.heap.size + 1))).F = Fence.wide.inRound (w.heap.size + 1) := rfl
      have e1 : ((#[p] : Array Tmp).zip #[enc k]).foldl (fun tmps (t, a) => tmps.setIfInBounds t a) a.tmps = a.tmps.setIfInBounds p (enc k) := by simp
      rw [← hC']
      have hA := hassign k M' H' w' (Ctx.mk (fun _ _ _ => False) (some (w.heap.size + 1))) (Rs.lr (w.heap.size + 1) w.heap.size (rec .ready)) hk hle S' hI _ (env_start ha (by simpa using hp'))
      rw [e1]
      refine wpIn_mono hA ?_
      rintro e a2 w2 hq
      cases e with
      | normal =>
        obtain ⟨M2, H2, hle2, S2, hI1⟩ := hq
        obtain ⟨hl2, _⟩ := S2.ok (Rs.lr (w.heap.size + 1) w.heap.size (rec .ready)) (by simp)
        refine ⟨_, run_beginRound hl2 (by rw [hrec]), ?_⟩
        have S3 := lr_put (rc' := { rec .ready with state := .busy }) S2
        refine wpIn_mono (hbody k M2 H2 _ (Ctx.mk (fun _ _ _ => False) (some (w.heap.size + 1))) _ a2 hk (hle.trans hle2) S3 hI1) ?_
        rintro e a3 w3 hq3
        cases e with
        | normal =>
          obtain ⟨M4, H4, hle4, S4, hI4⟩ := hq3
          obtain ⟨hl4, _⟩ := S4.ok (Rs.lr (w.heap.size + 1) w.heap.size { rec .ready with state := .busy }) (by simp)
          have he := run_endRound (P := P) none hl4
          have S5 := lr_put (rc' := rec .ready) S4
          refine ⟨_, _, he, _, rfl, rfl, M4, Rs.bun (Rs.lr (w.heap.size + 1) w.heap.size (rec .ready) :: H4), hle2.trans hle4, ?_, H4, rfl, hI4⟩
          have e2 : ({ ({ rec .ready with state := .busy } : Loop) with state := (if (none : Option Code).isNone = true then LoopState.ready else LoopState.done), pending := none } : Loop) = rec .ready := by rw [hrec]; rfl
          rw [e2]
          exact S5.bun
        | _ => exact hq3.elim
      | _ => exact hq.elim
    · rintro e w2 ⟨⟨v, rfl⟩, M', B', hle, SB, H', rfl, hI⟩
      have S' := SB.unbun
      obtain ⟨hl, hD⟩ := S'.ok (Rs.lr (w.heap.size + 1) w.heap.size (rec .ready)) (by simp)
      have he := run_endLoop (P := P) hl (by rw [hrec]; simp)
      refine ⟨none, w2.putObj (w.heap.size + 1) (.loop { rec .ready with state := .exhausted }), by rw [he, hrec], ?_⟩
      have := hdone a M' H' _ w.heap.size (w.heap.size + 1) _ ha hle (lr_put (rc' := { rec .ready with state := .exhausted }) S') hI
      rw [hdf]
      exact this
theorem lr_take {l D : Nat} {rc : Loop} {Hs : List Rs} (S : SH w M X (Rs.lr l D rc :: Hs)) : SH (w.putObj D (.deferred none)) M X Hs := by
  obtain ⟨h1, h2⟩ := S.ok (Rs.lr l D rc) (by simp)
  have S2 : SH (w.putObj D (.deferred none)) M X (Rs.emp :: Hs) := S.step (i := 0) (r := Rs.lr l D rc) rfl rfl ⟨rfl, rfl, rfl, by simp [World.putObj]⟩ (fun b _ hb => World.putObj_heap_other (fun e => hb (by rw [e]; simp [Rs.lr]))) trivial (fun b hb => by cases hb)
  exact S2.suf (N := [Rs.emp])
/-- The end of a function that holds such a loop: a variable is loaded and handed back. -/
theorem tail_la {fn : Func} {R : Ending → World → Prop} (hC : C.Q = bodyPostM Fence.wide 0 P fn R) {i : Nat} {o1 o2 : Oper} (hc : c = .seq (.region i #[o1, o2] false) .ret) {x : Operand} {T d1 d2 l D : Nat} {p : Addr} {v : Value} {dd : TypeDesc} {rc : Loop} {Hs : List Rs} {a : Act}
    (h1 : o1.op = .load T x) (g1 : o1.guard = none) (e1 : o1.dst = some d1) (h2 : o2.op = .assign (.tmp d1)) (g2 : o2.guard = none) (e2 : o2.dst = some d2) (ha : Env n L a) (hx : oev L x = some (.pointer (some p))) (hu : P.underlying T = some dd) (hd : flatD dd = true) (hn1 : Nat.blt d1 n = true) (hn2 : Nat.blt d2 n = true)
    (hres : fn.results = #[.tmp d2]) (S : SH w M X (Rs.lr l D rc :: Hs)) (hcell : w.cell? p = some v) (hR : ∀ w', SH w' M X Hs → R (.returned v) w') : c.wpIn C.F 0 P C.Q { a with defers := [{ target := .collected D, args := #[] }] } w := by
  subst hc
  obtain ⟨_, hD⟩ := S.ok (Rs.lr l D rc) (by simp)
  have r1 : (execOp a.eval o1).run P w = .ok (.value v) w := run_load1 h1 hx hu hd hcell n a ha
  have ha1 := ha.put (d := d1) (by simpa using hn1) v
  have r2 : (execOp (a.put (some d1) v).eval o2).run P w = .ok (.value v) w := run_assign h2 (by simp [oev, lk]) n _ ha1
  have ha2 := ha1.put (d := d2) (by simpa using hn2) v
  refine wpIn_seq ?_
  refine wpIn_region_list ?_
  show wpListIn C.F 0 P #[o1, o2] _ [o1, o2] _ w
  refine wpListIn_plain g1 fun K hK => ?_
  refine ⟨fun f _ => C.F_fn f, ?_⟩
  rw [Oper.semAt_eq _ _ _ (fun c e => by rw [e] at h1; cases h1), show (execOp ({ a with defers := [{ target := .collected D, args := #[] }] } : Act).eval o1).run P w = .ok (.value v) w from r1, Oper.uponIn_value, e1]
  refine hK _ _ ?_
  refine wpListIn_plain g2 fun K2 hK2 => ?_
  refine ⟨fun f _ => C.F_fn f, ?_⟩
  rw [Oper.semAt_eq _ _ _ (fun c e => by rw [e] at h2; cases h2), show (execOp (({ a with defers := [{ target := .collected D, args := #[] }] } : Act).put (some d1) v).eval o2).run P w = .ok (.value v) w from r2, Oper.uponIn_value, e2]
  refine hK2 _ _ ?_
  refine wpListIn_nil ?_
  refine wpIn_ret ?_
  rw [hC]
  refine ⟨by simp, .inl ⟨D, _, rfl, run_takeDeferred hD, ?_⟩⟩
  refine ⟨v, ?_, hR _ (lr_take S)⟩
  have hz := ha.sz
  have hd2 : d2 < n := by simpa using hn2
  simp only [Act.put]
  simp [results, hres]
  intro h
  omega
end
end InF
end Go.Proofs.YthppkofceancjaaGreat
namespace Go.Proofs.YthppkofceancjaaGreat
open Go.ChangeShapes Go.WideShapes Go.ChangeAt Go.RowKit
theorem sz3 : (Tryz.prog.info? 3).map (·.size) = some 1 := by kernel_rfl
theorem ce3 : Nat.blt 0 (Tryz.prog.cellsOf 3) = true := by kernel_rfl
theorem nf3 : ∃ i, Tryz.prog.info? 3 = some i := Option.isSome_iff_exists.1 (by kernel_rfl)
theorem zr3 : (Tryz.prog.info? 3).map (·.zero) = some (some (.int .i64 0)) := by kernel_rfl
theorem sz4 : (Tryz.prog.info? 4).map (·.size) = some 1 := by kernel_rfl
theorem ce4 : Nat.blt 0 (Tryz.prog.cellsOf 4) = true := by kernel_rfl
theorem nf4 : ∃ i, Tryz.prog.info? 4 = some i := Option.isSome_iff_exists.1 (by kernel_rfl)
theorem zr4 : (Tryz.prog.info? 4).map (·.zero) = some (some (.bool false)) := by kernel_rfl
theorem sz22 : (Tryz.prog.info? 22).map (·.size) = some 1 := by kernel_rfl
theorem ce22 : Nat.blt 0 (Tryz.prog.cellsOf 22) = true := by kernel_rfl
theorem nf22 : ∃ i, Tryz.prog.info? 22 = some i := Option.isSome_iff_exists.1 (by kernel_rfl)
theorem sz24 : (Tryz.prog.info? 24).map (·.size) = some 2 := by kernel_rfl
theorem ce24 : Nat.blt 0 (Tryz.prog.cellsOf 24) = true := by kernel_rfl
theorem nf24 : ∃ i, Tryz.prog.info? 24 = some i := Option.isSome_iff_exists.1 (by kernel_rfl)
theorem zr24 : (Tryz.prog.info? 24).map (·.zero) = some (some (.agg [.slice none 0 0, .int .i64 0].toArray)) := by kernel_rfl
theorem st24 : StOf Tryz.prog 24 [(0, 1), (1, 1)] [.slice none 0 0, .int .i64 0] := ⟨_, Tryz.underlying24, by kernel_rfl, ⟨⟨rfl, by kernel_rfl⟩, ⟨rfl, by kernel_rfl⟩, trivial⟩⟩
theorem sz26 : (Tryz.prog.info? 26).map (·.size) = some 2 := by kernel_rfl
theorem zr26 : (Tryz.prog.info? 26).map (·.zero) = some (some (.agg [.int .i64 0, .bool false].toArray)) := by kernel_rfl
theorem st26 : StOf Tryz.prog 26 [(0, 1), (1, 1)] [.int .i64 0, .bool false] := ⟨_, Tryz.underlying26, by kernel_rfl, ⟨⟨rfl, by kernel_rfl⟩, ⟨rfl, by kernel_rfl⟩, trivial⟩⟩
theorem sz53 : (Tryz.prog.info? 53).map (·.size) = some 1 := by kernel_rfl
theorem zr53 : (Tryz.prog.info? 53).map (·.zero) = some (some (.slice none 0 0)) := by kernel_rfl
theorem sz65 : (Tryz.prog.info? 65).map (·.size) = some 1 := by kernel_rfl
theorem zr65 : (Tryz.prog.info? 65).map (·.zero) = some (some (.slice none 0 0)) := by kernel_rfl
theorem ce68 : Nat.blt 0 (Tryz.prog.cellsOf 68) = true := by kernel_rfl
theorem nf68 : ∃ i, Tryz.prog.info? 68 = some i := Option.isSome_iff_exists.1 (by kernel_rfl)
theorem sz77 : (Tryz.prog.info? 77).map (·.size) = some 5 := by kernel_rfl
theorem zr77 : (Tryz.prog.info? 77).map (·.zero) = some (some (.agg [.int .i64 0, .int .i64 0, .int .i64 0, .int .i64 0, .bool false].toArray)) := by kernel_rfl
theorem st77 : StOf Tryz.prog 77 [(0, 1), (1, 1), (2, 1), (3, 1), (4, 1)] [.int .i64 0, .int .i64 0, .int .i64 0, .int .i64 0, .bool false] := ⟨_, Tryz.underlying77, by kernel_rfl, ⟨⟨rfl, by kernel_rfl⟩, ⟨rfl, by kernel_rfl⟩, ⟨rfl, by kernel_rfl⟩, ⟨rfl, by kernel_rfl⟩, ⟨rfl, by kernel_rfl⟩, trivial⟩⟩
theorem sz87 : (Tryz.prog.info? 87).map (·.size) = some 1 := by kernel_rfl
theorem sz90 : (Tryz.prog.info? 90).map (·.size) = some 2 := by kernel_rfl
theorem zr90 : (Tryz.prog.info? 90).map (·.zero) = some (some (.agg [.int .i64 0, .int .i64 0].toArray)) := by kernel_rfl
theorem st90 : StOf Tryz.prog 90 [(0, 1), (1, 1)] [.int .i64 0, .int .i64 0] := ⟨_, Tryz.underlying90, by kernel_rfl, ⟨⟨rfl, by kernel_rfl⟩, ⟨rfl, by kernel_rfl⟩, trivial⟩⟩
theorem sz97 : (Tryz.prog.info? 97).map (·.size) = some 3 := by kernel_rfl
theorem st97 : StOf Tryz.prog 97 [(0, 1), (1, 1), (2, 1)] [.int .i64 0, .int .i64 0, .int .i64 0] := ⟨_, Tryz.underlying97, by kernel_rfl, ⟨⟨rfl, by kernel_rfl⟩, ⟨rfl, by kernel_rfl⟩, ⟨rfl, by kernel_rfl⟩, trivial⟩⟩
theorem sz108 : (Tryz.prog.info? 108).map (·.size) = some 2 := by kernel_rfl
theorem st108 : StOf Tryz.prog 108 [(0, 1), (1, 1)] [.int .i64 0, .int .i64 0] := ⟨_, Tryz.underlying108, by kernel_rfl, ⟨⟨rfl, by kernel_rfl⟩, ⟨rfl, by kernel_rfl⟩, trivial⟩⟩
theorem sz120 : (Tryz.prog.info? 120).map (·.size) = some 2 := by kernel_rfl
theorem zr120 : (Tryz.prog.info? 120).map (·.zero) = some (some (.agg [.int .i64 0, .int .i64 0].toArray)) := by kernel_rfl
theorem st120 : StOf Tryz.prog 120 [(0, 1), (1, 1)] [.int .i64 0, .int .i64 0] := ⟨_, Tryz.underlying120, by kernel_rfl, ⟨⟨rfl, by kernel_rfl⟩, ⟨rfl, by kernel_rfl⟩, trivial⟩⟩
theorem sz128 : (Tryz.prog.info? 128).map (·.size) = some 2 := by kernel_rfl
theorem zr128 : (Tryz.prog.info? 128).map (·.zero) = some (some (.agg [.int .i64 0, .int .i64 0].toArray)) := by kernel_rfl
theorem sz190 : (Tryz.prog.info? 190).map (·.size) = some 2 := by kernel_rfl
theorem zr190 : (Tryz.prog.info? 190).map (·.zero) = some (some (.agg [.int .i64 0, .int .i64 0].toArray)) := by kernel_rfl
theorem st190 : StOf Tryz.prog 190 [(0, 1), (1, 1)] [.int .i64 0, .int .i64 0] := ⟨_, Tryz.underlying190, by kernel_rfl, ⟨⟨rfl, by kernel_rfl⟩, ⟨rfl, by kernel_rfl⟩, trivial⟩⟩
theorem sz192 : (Tryz.prog.info? 192).map (·.size) = some 1 := by kernel_rfl
theorem zr192 : (Tryz.prog.info? 192).map (·.zero) = some (some (.map none)) := by kernel_rfl
theorem zr208 : (Tryz.prog.info? 208).map (·.zero) = some (some (.agg [.int .i64 0, .int .i64 0, .int .i64 0, .int .i64 0].toArray)) := by kernel_rfl
theorem sz222 : (Tryz.prog.info? 222).map (·.size) = some 4 := by kernel_rfl
theorem zr222 : (Tryz.prog.info? 222).map (·.zero) = some (some (.agg [.int .i64 0, .int .i64 0, .int .i64 0, .int .i64 0].toArray)) := by kernel_rfl
theorem zr249 : (Tryz.prog.info? 249).map (·.zero) = some (some (.agg [.bool false, .bool false].toArray)) := by kernel_rfl
theorem cf9 : ∀ args w, (callFunc 9 args).run Tryz.prog w = .ok (.enter 9 args) w := enter_ok (c := Tryz.f9.body.getD .skip) Tryz.func9 (by decide) rfl
theorem cf16 : ∀ args w, (callFunc 16 args).run Tryz.prog w = .ok (.enter 16 args) w := enter_ok (c := Tryz.f16.body.getD .skip) Tryz.func16 (by decide) rfl
theorem cf17 : ∀ args w, (callFunc 17 args).run Tryz.prog w = .ok (.enter 17 args) w := enter_ok (c := Tryz.f17.body.getD .skip) Tryz.func17 (by decide) rfl
theorem cf18 : ∀ args w, (callFunc 18 args).run Tryz.prog w = .ok (.enter 18 args) w := enter_ok (c := Tryz.f18.body.getD .skip) Tryz.func18 (by decide) rfl
theorem cf19 : ∀ args w, (callFunc 19 args).run Tryz.prog w = .ok (.enter 19 args) w := enter_ok (c := Tryz.f19.body.getD .skip) Tryz.func19 (by decide) rfl
theorem cf20 : ∀ args w, (callFunc 20 args).run Tryz.prog w = .ok (.enter 20 args) w := enter_ok (c := Tryz.f20.body.getD .skip) Tryz.func20 (by decide) rfl
theorem cf21 : ∀ args w, (callFunc 21 args).run Tryz.prog w = .ok (.enter 21 args) w := enter_ok (c := Tryz.f21.body.getD .skip) Tryz.func21 (by decide) rfl
theorem cf22 : ∀ args w, (callFunc 22 args).run Tryz.prog w = .ok (.enter 22 args) w := enter_ok (c := Tryz.f22.body.getD .skip) Tryz.func22 (by decide) rfl
theorem cf25 : ∀ args w, (callFunc 25 args).run Tryz.prog w = .ok (.enter 25 args) w := enter_ok (c := Tryz.f25.body.getD .skip) Tryz.func25 (by decide) rfl
theorem cf31 : ∀ args w, (callFunc 31 args).run Tryz.prog w = .ok (.enter 31 args) w := enter_ok (c := Tryz.f31.body.getD .skip) Tryz.func31 (by decide) rfl
theorem cf32 : ∀ args w, (callFunc 32 args).run Tryz.prog w = .ok (.enter 32 args) w := enter_ok (c := Tryz.f32.body.getD .skip) Tryz.func32 (by decide) rfl
theorem cf42 : ∀ args w, (callFunc 42 args).run Tryz.prog w = .ok (.enter 42 args) w := enter_ok (c := Tryz.f42.body.getD .skip) Tryz.func42 (by decide) rfl
theorem cf43 : ∀ args w, (callFunc 43 args).run Tryz.prog w = .ok (.enter 43 args) w := enter_ok (c := Tryz.f43.body.getD .skip) Tryz.func43 (by decide) rfl
theorem cf44 : ∀ args w, (callFunc 44 args).run Tryz.prog w = .ok (.enter 44 args) w := enter_ok (c := Tryz.f44.body.getD .skip) Tryz.func44 (by decide) rfl
theorem cf45 : ∀ args w, (callFunc 45 args).run Tryz.prog w = .ok (.enter 45 args) w := enter_ok (c := Tryz.f45.body.getD .skip) Tryz.func45 (by decide) rfl
theorem cf48 : ∀ args w, (callFunc 48 args).run Tryz.prog w = .ok (.enter 48 args) w := enter_ok (c := Tryz.f48.body.getD .skip) Tryz.func48 (by decide) rfl
theorem cf49 : ∀ args w, (callFunc 49 args).run Tryz.prog w = .ok (.enter 49 args) w := enter_ok (c := Tryz.f49.body.getD .skip) Tryz.func49 (by decide) rfl
theorem cf50 : ∀ args w, (callFunc 50 args).run Tryz.prog w = .ok (.enter 50 args) w := enter_ok (c := Tryz.f50.body.getD .skip) Tryz.func50 (by decide) rfl
theorem cf51 : ∀ args w, (callFunc 51 args).run Tryz.prog w = .ok (.enter 51 args) w := enter_ok (c := Tryz.f51.body.getD .skip) Tryz.func51 (by decide) rfl
theorem cf52 : ∀ args w, (callFunc 52 args).run Tryz.prog w = .ok (.enter 52 args) w := enter_ok (c := Tryz.f52.body.getD .skip) Tryz.func52 (by decide) rfl
theorem cf53 : ∀ args w, (callFunc 53 args).run Tryz.prog w = .ok (.enter 53 args) w := enter_ok (c := Tryz.f53.body.getD .skip) Tryz.func53 (by decide) rfl
theorem cf54 : ∀ args w, (callFunc 54 args).run Tryz.prog w = .ok (.enter 54 args) w := enter_ok (c := Tryz.f54.body.getD .skip) Tryz.func54 (by decide) rfl
theorem cf55 : ∀ args w, (callFunc 55 args).run Tryz.prog w = .ok (.enter 55 args) w := enter_ok (c := Tryz.f55.body.getD .skip) Tryz.func55 (by decide) rfl
theorem cf60 : ∀ args w, (callFunc 60 args).run Tryz.prog w = .ok (.enter 60 args) w := enter_ok (c := Tryz.f60.body.getD .skip) Tryz.func60 (by decide) rfl
theorem cf64 : ∀ args w, (callFunc 64 args).run Tryz.prog w = .ok (.enter 64 args) w := enter_ok (c := Tryz.f64.body.getD .skip) Tryz.func64 (by decide) rfl
theorem cf65 : ∀ args w, (callFunc 65 args).run Tryz.prog w = .ok (.enter 65 args) w := enter_ok (c := Tryz.f65.body.getD .skip) Tryz.func65 (by decide) rfl
theorem cf66 : ∀ args w, (callFunc 66 args).run Tryz.prog w = .ok (.enter 66 args) w := enter_ok (c := Tryz.f66.body.getD .skip) Tryz.func66 (by decide) rfl
theorem cf72 : ∀ args w, (callFunc 72 args).run Tryz.prog w = .ok (.enter 72 args) w := enter_ok (c := Tryz.f72.body.getD .skip) Tryz.func72 (by decide) rfl
theorem cf73 : ∀ args w, (callFunc 73 args).run Tryz.prog w = .ok (.enter 73 args) w := enter_ok (c := Tryz.f73.body.getD .skip) Tryz.func73 (by decide) rfl
theorem cf74 : ∀ args w, (callFunc 74 args).run Tryz.prog w = .ok (.enter 74 args) w := enter_ok (c := Tryz.f74.body.getD .skip) Tryz.func74 (by decide) rfl
theorem cf76 : ∀ args w, (callFunc 76 args).run Tryz.prog w = .ok (.enter 76 args) w := enter_ok (c := Tryz.f76.body.getD .skip) Tryz.func76 (by decide) rfl
theorem cf77 : ∀ args w, (callFunc 77 args).run Tryz.prog w = .ok (.enter 77 args) w := enter_ok (c := Tryz.f77.body.getD .skip) Tryz.func77 (by decide) rfl
theorem cf82 : ∀ args w, (callFunc 82 args).run Tryz.prog w = .ok (.enter 82 args) w := enter_ok (c := Tryz.f82.body.getD .skip) Tryz.func82 (by decide) rfl
theorem cf83 : ∀ args w, (callFunc 83 args).run Tryz.prog w = .ok (.enter 83 args) w := enter_ok (c := Tryz.f83.body.getD .skip) Tryz.func83 (by decide) rfl
theorem cf84 : ∀ args w, (callFunc 84 args).run Tryz.prog w = .ok (.enter 84 args) w := enter_ok (c := Tryz.f84.body.getD .skip) Tryz.func84 (by decide) rfl
theorem cf85 : ∀ args w, (callFunc 85 args).run Tryz.prog w = .ok (.enter 85 args) w := enter_ok (c := Tryz.f85.body.getD .skip) Tryz.func85 (by decide) rfl
theorem cf86 : ∀ args w, (callFunc 86 args).run Tryz.prog w = .ok (.enter 86 args) w := enter_ok (c := Tryz.f86.body.getD .skip) Tryz.func86 (by decide) rfl
theorem cf87 : ∀ args w, (callFunc 87 args).run Tryz.prog w = .ok (.enter 87 args) w := enter_ok (c := Tryz.f87.body.getD .skip) Tryz.func87 (by decide) rfl
theorem cf88 : ∀ args w, (callFunc 88 args).run Tryz.prog w = .ok (.enter 88 args) w := enter_ok (c := Tryz.f88.body.getD .skip) Tryz.func88 (by decide) rfl
theorem cf89 : ∀ args w, (callFunc 89 args).run Tryz.prog w = .ok (.enter 89 args) w := enter_ok (c := Tryz.f89.body.getD .skip) Tryz.func89 (by decide) rfl
theorem cf90 : ∀ args w, (callFunc 90 args).run Tryz.prog w = .ok (.enter 90 args) w := enter_ok (c := Tryz.f90.body.getD .skip) Tryz.func90 (by decide) rfl
theorem cf91 : ∀ args w, (callFunc 91 args).run Tryz.prog w = .ok (.enter 91 args) w := enter_ok (c := Tryz.f91.body.getD .skip) Tryz.func91 (by decide) rfl
theorem cf92 : ∀ args w, (callFunc 92 args).run Tryz.prog w = .ok (.enter 92 args) w := enter_ok (c := Tryz.f92.body.getD .skip) Tryz.func92 (by decide) rfl
theorem cf93 : ∀ args w, (callFunc 93 args).run Tryz.prog w = .ok (.enter 93 args) w := enter_ok (c := Tryz.f93.body.getD .skip) Tryz.func93 (by decide) rfl
theorem cf94 : ∀ args w, (callFunc 94 args).run Tryz.prog w = .ok (.enter 94 args) w := enter_ok (c := Tryz.f94.body.getD .skip) Tryz.func94 (by decide) rfl
theorem cf95 : ∀ args w, (callFunc 95 args).run Tryz.prog w = .ok (.enter 95 args) w := enter_ok (c := Tryz.f95.body.getD .skip) Tryz.func95 (by decide) rfl
theorem cf105 : ∀ args w, (callFunc 105 args).run Tryz.prog w = .ok (.enter 105 args) w := enter_ok (c := Tryz.f105.body.getD .skip) Tryz.func105 (by decide) rfl
theorem cf106 : ∀ args w, (callFunc 106 args).run Tryz.prog w = .ok (.enter 106 args) w := enter_ok (c := Tryz.f106.body.getD .skip) Tryz.func106 (by decide) rfl
theorem cf107 : ∀ args w, (callFunc 107 args).run Tryz.prog w = .ok (.enter 107 args) w := enter_ok (c := Tryz.f107.body.getD .skip) Tryz.func107 (by decide) rfl
theorem cf108 : ∀ args w, (callFunc 108 args).run Tryz.prog w = .ok (.enter 108 args) w := enter_ok (c := Tryz.f108.body.getD .skip) Tryz.func108 (by decide) rfl
theorem cf111 : ∀ args w, (callFunc 111 args).run Tryz.prog w = .ok (.enter 111 args) w := enter_ok (c := Tryz.f111.body.getD .skip) Tryz.func111 (by decide) rfl
theorem cf115 : ∀ args w, (callFunc 115 args).run Tryz.prog w = .ok (.enter 115 args) w := enter_ok (c := Tryz.f115.body.getD .skip) Tryz.func115 (by decide) rfl
theorem cf129 : ∀ args w, (callFunc 129 args).run Tryz.prog w = .ok (.enter 129 args) w := enter_ok (c := Tryz.f129.body.getD .skip) Tryz.func129 (by decide) rfl
theorem cf130 : ∀ args w, (callFunc 130 args).run Tryz.prog w = .ok (.enter 130 args) w := enter_ok (c := Tryz.f130.body.getD .skip) Tryz.func130 (by decide) rfl
theorem cf131 : ∀ args w, (callFunc 131 args).run Tryz.prog w = .ok (.enter 131 args) w := enter_ok (c := Tryz.f131.body.getD .skip) Tryz.func131 (by decide) rfl
theorem cf132 : ∀ args w, (callFunc 132 args).run Tryz.prog w = .ok (.enter 132 args) w := enter_ok (c := Tryz.f132.body.getD .skip) Tryz.func132 (by decide) rfl
theorem cf133 : ∀ args w, (callFunc 133 args).run Tryz.prog w = .ok (.enter 133 args) w := enter_ok (c := Tryz.f133.body.getD .skip) Tryz.func133 (by decide) rfl
theorem cf134 : ∀ args w, (callFunc 134 args).run Tryz.prog w = .ok (.enter 134 args) w := enter_ok (c := Tryz.f134.body.getD .skip) Tryz.func134 (by decide) rfl
theorem cf135 : ∀ args w, (callFunc 135 args).run Tryz.prog w = .ok (.enter 135 args) w := enter_ok (c := Tryz.f135.body.getD .skip) Tryz.func135 (by decide) rfl
theorem cf136 : ∀ args w, (callFunc 136 args).run Tryz.prog w = .ok (.enter 136 args) w := enter_ok (c := Tryz.f136.body.getD .skip) Tryz.func136 (by decide) rfl
theorem cf137 : ∀ args w, (callFunc 137 args).run Tryz.prog w = .ok (.enter 137 args) w := enter_ok (c := Tryz.f137.body.getD .skip) Tryz.func137 (by decide) rfl
theorem cf138 : ∀ args w, (callFunc 138 args).run Tryz.prog w = .ok (.enter 138 args) w := enter_ok (c := Tryz.f138.body.getD .skip) Tryz.func138 (by decide) rfl
theorem cf139 : ∀ args w, (callFunc 139 args).run Tryz.prog w = .ok (.enter 139 args) w := enter_ok (c := Tryz.f139.body.getD .skip) Tryz.func139 (by decide) rfl
theorem cf140 : ∀ args w, (callFunc 140 args).run Tryz.prog w = .ok (.enter 140 args) w := enter_ok (c := Tryz.f140.body.getD .skip) Tryz.func140 (by decide) rfl
theorem cf142 : ∀ args w, (callFunc 142 args).run Tryz.prog w = .ok (.enter 142 args) w := enter_ok (c := Tryz.f142.body.getD .skip) Tryz.func142 (by decide) rfl
theorem cf143 : ∀ args w, (callFunc 143 args).run Tryz.prog w = .ok (.enter 143 args) w := enter_ok (c := Tryz.f143.body.getD .skip) Tryz.func143 (by decide) rfl
theorem cf144 : ∀ args w, (callFunc 144 args).run Tryz.prog w = .ok (.enter 144 args) w := enter_ok (c := Tryz.f144.body.getD .skip) Tryz.func144 (by decide) rfl
theorem cf149 : ∀ args w, (callFunc 149 args).run Tryz.prog w = .ok (.enter 149 args) w := enter_ok (c := Tryz.f149.body.getD .skip) Tryz.func149 (by decide) rfl
theorem cf163 : ∀ args w, (callFunc 163 args).run Tryz.prog w = .ok (.enter 163 args) w := enter_ok (c := Tryz.f163.body.getD .skip) Tryz.func163 (by decide) rfl
theorem cf164 : ∀ args w, (callFunc 164 args).run Tryz.prog w = .ok (.enter 164 args) w := enter_ok (c := Tryz.f164.body.getD .skip) Tryz.func164 (by decide) rfl
theorem cf170 : ∀ args w, (callFunc 170 args).run Tryz.prog w = .ok (.enter 170 args) w := enter_ok (c := Tryz.f170.body.getD .skip) Tryz.func170 (by decide) rfl
theorem cf171 : ∀ args w, (callFunc 171 args).run Tryz.prog w = .ok (.enter 171 args) w := enter_ok (c := Tryz.f171.body.getD .skip) Tryz.func171 (by decide) rfl
theorem cf172 : ∀ args w, (callFunc 172 args).run Tryz.prog w = .ok (.enter 172 args) w := enter_ok (c := Tryz.f172.body.getD .skip) Tryz.func172 (by decide) rfl
theorem cf173 : ∀ args w, (callFunc 173 args).run Tryz.prog w = .ok (.enter 173 args) w := enter_ok (c := Tryz.f173.body.getD .skip) Tryz.func173 (by decide) rfl
theorem cf182 : ∀ args w, (callFunc 182 args).run Tryz.prog w = .ok (.enter 182 args) w := enter_ok (c := Tryz.f182.body.getD .skip) Tryz.func182 (by decide) rfl
theorem cf192 : ∀ args w, (callFunc 192 args).run Tryz.prog w = .ok (.enter 192 args) w := enter_ok (c := Tryz.f192.body.getD .skip) Tryz.func192 (by decide) rfl
end Go.Proofs.YthppkofceancjaaGreat
namespace Go.Proofs.YthppkofceancjaaGreat
open Go.ChangeShapes Go.WideShapes Go.ChangeAt Go.RowKit
theorem mk3 : MapK Tryz.prog 3 (Value.int .i64) := mapK_int Tryz.underlying3
theorem se26 : StEq Tryz.prog 26 [(0, false), (1, true)] := ⟨[_, _], Tryz.underlying26, ⟨⟨by kernel_rfl, rfl, ⟨_, Tryz.underlying3⟩⟩, ⟨by kernel_rfl, rfl, Tryz.underlying4⟩, trivial⟩, by kernel_rfl, by kernel_rfl⟩
theorem se90 : StEq Tryz.prog 90 [(0, false), (1, false)] := ⟨[_, _], Tryz.underlying90, ⟨⟨by kernel_rfl, rfl, ⟨_, Tryz.underlying3⟩⟩, ⟨by kernel_rfl, rfl, ⟨_, Tryz.underlying3⟩⟩, trivial⟩, by kernel_rfl, by kernel_rfl⟩
theorem se97 : StEq Tryz.prog 97 [(0, false), (1, false), (2, false)] := ⟨[_, _, _], Tryz.underlying97, ⟨⟨by kernel_rfl, rfl, ⟨_, Tryz.underlying3⟩⟩, ⟨by kernel_rfl, rfl, ⟨_, Tryz.underlying3⟩⟩, ⟨by kernel_rfl, rfl, ⟨_, Tryz.underlying3⟩⟩, trivial⟩, by kernel_rfl, by kernel_rfl⟩
theorem se108 : StEq Tryz.prog 108 [(0, false), (1, false)] := ⟨[_, _], Tryz.underlying108, ⟨⟨by kernel_rfl, rfl, ⟨_, Tryz.underlying3⟩⟩, ⟨by kernel_rfl, rfl, ⟨_, Tryz.underlying3⟩⟩, trivial⟩, by kernel_rfl, by kernel_rfl⟩
theorem sl53 : SlOf Tryz.prog 53 cdInt := ⟨.int .i64 0, Tryz.underlying53, by kernel_rfl, rfl, by decide, by decide⟩
theorem sl65 : SlOf Tryz.prog 65 (cdV 141) := ⟨.slice none 0 0, Tryz.underlying65, by kernel_rfl, rfl, by decide, by decide⟩
theorem sl103 : SlOf Tryz.prog 103 (cdV 53) := ⟨.slice none 0 0, Tryz.underlying103, by kernel_rfl, rfl, by decide, by decide⟩
theorem sl130 : SlOf Tryz.prog 130 cdBool := ⟨.bool false, Tryz.underlying130, by kernel_rfl, rfl, by decide, by decide⟩
end Go.Proofs.YthppkofceancjaaGreat
namespace Go.Proofs.YthppkofceancjaaGreat
open Go.ChangeShapes Go.WideShapes Go.ChangeAt Go.RowKit
def md (x : Int) : Int := x % 18446744073709551616
theorem wr_md {x y : Int} : wr x = wr y ↔ md x = md y := by unfold wr md; rw [IntKind.wrap_i64, IntKind.wrap_i64]; omega
theorem md_wr (x : Int) : md (wr x) = md x := by unfold wr md; rw [IntKind.wrap_i64]; omega
theorem wr_idem (x : Int) : wr (wr x) = wr x := wr_md.2 (md_wr x)
theorem md_add {a b c d : Int} (h : md a = md b) (k : md c = md d) : md (a + c) = md (b + d) := by
  unfold md at *; omega
theorem md_neg {a b : Int} (h : md a = md b) : md (-a) = md (-b) := by
  unfold md at *; omega
theorem md_mul {a b c d : Int} (h : md a = md b) (k : md c = md d) : md (a * c) = md (b * d) := by
  unfold md at *
  rw [Int.mul_emod, h, k, ← Int.mul_emod]
theorem md_range {x : Int} (h : wr x = x) (k : md x = 0) : x = 0 := by
  have h1 : wr x = wr 0 := wr_md.2 (by rw [k]; rfl)
  rw [h] at h1
  rw [h1]
  exact wr_id (by omega)
theorem wr_add2 (x y : Int) : wr (x + wr y) = wr (x + y) := wr_md.2 (md_add rfl (md_wr y))
abbrev Tms := List (Int × Int)
/-- The value of a test at a polynomial. -/
def ev : Tms → (Int → Int) → Int
  | [], _ => 0
  | p :: r, φ => p.2 * φ (wr p.1) + ev r φ
theorem ev_append (P Q : Tms) (φ : Int → Int) : ev (P ++ Q) φ = ev P φ + ev Q φ := by
  induction P with
  | nil => simp [ev]
  | cons p P ih => simp only [List.cons_append, ev, ih]; omega
theorem ev_add (P : Tms) (φ ψ : Int → Int) : ev P (fun x => φ x + ψ x) = ev P φ + ev P ψ := by
  induction P with
  | nil => rfl
  | cons p P ih => simp only [ev, ih, Int.mul_add]; omega
theorem ev_zero (P : Tms) : ev P (fun _ => 0) = 0 := by
  induction P with
  | nil => rfl
  | cons p P ih => simp only [ev, ih]; omega
theorem ev_mul (P : Tms) (c : Int) (φ : Int → Int) : ev P (fun x => c * φ x) = c * ev P φ := by
  induction P with
  | nil => simp [ev]
  | cons p P ih => simp only [ev, ih, Int.mul_add, Int.mul_left_comm]
theorem ev_swap (P Q : Tms) (ψ : Int → Int → Int) : ev P (fun x => ev Q (ψ x)) = ev Q (fun y => ev P (fun x => ψ x y)) := by
  induction P with
  | nil => simp only [ev]; rw [ev_zero]
  | cons p P ih => simp only [ev]; rw [ih, ev_add, ev_mul]
theorem ev_cong (P : Tms) {φ ψ : Int → Int} (h : ∀ x, md (φ x) = md (ψ x)) : md (ev P φ) = md (ev P ψ) := by
  induction P with
  | nil => rfl
  | cons p P ih => exact md_add (md_mul rfl (h _)) ih
theorem ev_map (P : Tms) (f : Int × Int → Int × Int) (c : Int) (g : Int → Int) (hf : ∀ p, (f p).2 = p.2 * c) (hg : ∀ p : Int × Int, wr (f p).1 = g (wr p.1)) (φ : Int → Int) : ev (P.map f) φ = c * ev P (fun x => φ (g x)) := by
  induction P with
  | nil => simp [ev]
  | cons p P ih => simp only [List.map_cons, ev, ih, hf, hg, Int.mul_add]; rw [Int.mul_comm p.2 c, Int.mul_assoc]
def cf (P : Tms) (k : Int) : Int := ev P (fun x => if x = k then 1 else 0)
theorem cf_cons (p : Int × Int) (P : Tms) (k : Int) : cf (p :: P) k = (if wr p.1 = k then p.2 else 0) + cf P k := by
  unfold cf; simp only [ev]; split <;> simp
def eqv (P Q : Tms) : Prop := ∀ φ, md (ev P φ) = md (ev Q φ)
theorem eqv.refl (P : Tms) : eqv P P := fun _ => rfl
theorem eqv.symm {P Q : Tms} (h : eqv P Q) : eqv Q P := fun φ => (h φ).symm
theorem eqv.trans {P Q R : Tms} (h : eqv P Q) (k : eqv Q R) : eqv P R := fun φ => (h φ).trans (k φ)
def negT (P : Tms) : Tms := P.map fun p => (p.1, -p.2)
theorem ev_negT (P : Tms) (φ : Int → Int) : ev (negT P) φ = - ev P φ := by
  have := ev_map P (fun p => (p.1, -p.2)) (-1) id (fun p => by simp only; omega) (fun p => rfl) φ
  unfold negT
  rw [this]
  show -1 * ev P φ = _
  omega
def prodT (P Q : Tms) : Tms := P.flatMap fun p => Q.map fun q => (p.1 + q.1, p.2 * q.2)
theorem ev_prodT (P Q : Tms) (φ : Int → Int) : ev (prodT P Q) φ = ev P (fun x => ev Q (fun y => φ (wr (x + y)))) := by
  induction P with
  | nil => rfl
  | cons p P ih =>
    have e : ∀ Q : Tms, ev (Q.map fun q => (p.1 + q.1, p.2 * q.2)) φ = p.2 * ev Q (fun y => φ (wr (wr p.1 + y))) := fun Q => by
      have := ev_map Q (fun q => (p.1 + q.1, p.2 * q.2)) p.2 (fun y => wr (wr p.1 + y)) (fun q => Int.mul_comm _ _) (fun q => by simp only; rw [wr_add2, wr_wr]) φ
      exact this
    show ev ((Q.map fun q => (p.1 + q.1, p.2 * q.2)) ++ prodT P Q) φ = _
    rw [ev_append, ih, e]
    rfl
theorem eqv_append {P P' Q Q' : Tms} (h : eqv P P') (k : eqv Q Q') : eqv (P ++ Q) (P' ++ Q') := fun φ => by
  rw [ev_append, ev_append]; exact md_add (h φ) (k φ)
theorem eqv_prod {P P' Q Q' : Tms} (h : eqv P P') (k : eqv Q Q') : eqv (prodT P Q) (prodT P' Q') := fun φ => by
  rw [ev_prodT, ev_prodT]
  exact (h _).trans (ev_cong _ fun x => k _)
theorem eqv_neg {P P' : Tms} (h : eqv P P') : eqv (negT P) (negT P') := fun φ => by
  rw [ev_negT, ev_negT]; exact md_neg (h φ)
def polS : Setoid Tms := ⟨eqv, eqv.refl, eqv.symm, eqv.trans⟩
def Pol := Quotient polS
def mk (P : Tms) : Pol := Quotient.mk polS P
theorem mk_eq {P Q : Tms} (h : eqv P Q) : mk P = mk Q := Quotient.sound (s := polS) h
theorem mk_eqv {P Q : Tms} (h : mk P = mk Q) : eqv P Q := Quotient.exact (s := polS) h
theorem Pol.ind {p : Pol → Prop} (h : ∀ P, p (mk P)) (x : Pol) : p x := Quotient.ind (s := polS) h x
def Pol.add (x y : Pol) : Pol := Quotient.liftOn₂ (s₁ := polS) (s₂ := polS) x y (fun P Q => mk (P ++ Q)) fun _ _ _ _ h k => mk_eq (eqv_append h k)
def Pol.mul (x y : Pol) : Pol := Quotient.liftOn₂ (s₁ := polS) (s₂ := polS) x y (fun P Q => mk (prodT P Q)) fun _ _ _ _ h k => mk_eq (eqv_prod h k)
def Pol.neg (x : Pol) : Pol := Quotient.liftOn (s := polS) x (fun P => mk (negT P)) fun _ _ h => mk_eq (eqv_neg h)
instance : Add Pol := ⟨Pol.add⟩
instance : Mul Pol := ⟨Pol.mul⟩
instance : Neg Pol := ⟨Pol.neg⟩
def Pol.o : Pol := mk []
def Pol.i : Pol := mk [(0, 1)]
def mono (e c : Int) : Pol := mk [(e, c)]
theorem mk_append (P Q : Tms) : mk (P ++ Q) = mk P + mk Q := rfl
theorem mk_cons (p : Int × Int) (P : Tms) : mk (p :: P) = mono p.1 p.2 + mk P := rfl
theorem Pol.add_comm (x y : Pol) : x + y = y + x := by
  induction x using Pol.ind with | _ P =>
  induction y using Pol.ind with | _ Q =>
  exact mk_eq fun φ => by rw [ev_append, ev_append, Int.add_comm]
theorem Pol.add_assoc (x y z : Pol) : x + y + z = x + (y + z) := by
  induction x using Pol.ind with | _ P =>
  induction y using Pol.ind with | _ Q =>
  induction z using Pol.ind with | _ R =>
  exact mk_eq fun φ => by simp only [ev_append, Int.add_assoc]
theorem Pol.add_zero (x : Pol) : x + Pol.o = x := by
  induction x using Pol.ind with | _ P =>
  exact mk_eq fun φ => by rw [List.append_nil]
theorem Pol.zero_add (x : Pol) : Pol.o + x = x := by rw [Pol.add_comm, Pol.add_zero]
theorem Pol.mul_comm (x y : Pol) : x * y = y * x := by
  induction x using Pol.ind with | _ P =>
  induction y using Pol.ind with | _ Q =>
  exact mk_eq fun φ => by rw [ev_prodT, ev_prodT, ev_swap]; simp only [Int.add_comm]
theorem Pol.mul_assoc (x y z : Pol) : x * y * z = x * (y * z) := by
  induction x using Pol.ind with | _ P =>
  induction y using Pol.ind with | _ Q =>
  induction z using Pol.ind with | _ R =>
  exact mk_eq fun φ => by simp only [ev_prodT, wr_wr, wr_add2, Int.add_assoc]
theorem Pol.mul_add (x y z : Pol) : x * (y + z) = x * y + x * z := by
  induction x using Pol.ind with | _ P =>
  induction y using Pol.ind with | _ Q =>
  induction z using Pol.ind with | _ R =>
  exact mk_eq fun φ => by simp only [ev_prodT, ev_append, ev_add]
theorem Pol.add_mul (x y z : Pol) : (x + y) * z = x * z + y * z := by rw [Pol.mul_comm, Pol.mul_add, Pol.mul_comm z x, Pol.mul_comm z y]
theorem Pol.mul_zero (x : Pol) : x * Pol.o = Pol.o := by
  induction x using Pol.ind with | _ P =>
  exact mk_eq fun φ => by rw [ev_prodT]; simp only [ev]; rw [ev_zero]
theorem Pol.zero_mul (x : Pol) : Pol.o * x = Pol.o := by rw [Pol.mul_comm, Pol.mul_zero]
theorem Pol.mul_one (x : Pol) : x * Pol.i = x := by
  induction x using Pol.ind with | _ P =>
  refine mk_eq fun φ => ?_
  rw [ev_prodT]
  have e : ∀ Q : Tms, ev Q (fun x => ev [(0, 1)] (fun y => φ (wr (x + y)))) = ev Q φ := by
    intro Q
    induction Q with
    | nil => rfl
    | cons q Q ih =>
      have h0 : wr 0 = 0 := wr_id (by omega)
      show q.2 * (1 * φ (wr (wr q.1 + wr 0)) + 0) + _ = q.2 * φ (wr q.1) + _
      rw [h0, show wr (wr q.1 + 0) = wr q.1 from by rw [Int.add_zero, wr_idem], ih, Int.one_mul, Int.add_zero]
  rw [e]
theorem Pol.one_mul (x : Pol) : Pol.i * x = x := by rw [Pol.mul_comm, Pol.mul_one]
instance : Std.Associative (α := Pol) (· + ·) := ⟨Pol.add_assoc⟩
instance : Std.Commutative (α := Pol) (· + ·) := ⟨Pol.add_comm⟩
instance : Std.Associative (α := Pol) (· * ·) := ⟨Pol.mul_assoc⟩
instance : Std.Commutative (α := Pol) (· * ·) := ⟨Pol.mul_comm⟩
theorem mono_congr {e e' c c' : Int} (he : wr e = wr e') (hc : md c = md c') : mono e c = mono e' c' := mk_eq fun φ => by
  show md (c * φ (wr e) + 0) = md (c' * φ (wr e') + 0)
  rw [he]
  exact md_add (md_mul hc rfl) rfl
theorem mono_zero (e : Int) : mono e 0 = Pol.o := mk_eq fun φ => by simp [ev]
theorem mono_add (e c d : Int) : mono e (c + d) = mono e c + mono e d := mk_eq fun φ => by
  show md ((c + d) * φ (wr e) + 0) = md (c * φ (wr e) + (d * φ (wr e) + 0))
  rw [Int.add_mul]; congr 1; omega
theorem mono_mul (e c f d : Int) : mono e c * mono f d = mono (e + f) (c * d) := rfl
theorem mk_perm {P Q : Tms} (h : P.Perm Q) : mk P = mk Q := by
  induction h with
  | nil => rfl
  | cons x _ ih => rw [mk_cons, mk_cons, ih]
  | swap x y l => simp only [mk_cons]; rw [← Pol.add_assoc, ← Pol.add_assoc, Pol.add_comm (mono y.1 y.2)]
  | trans _ _ h1 h2 => exact h1.trans h2
structure Tm where
  e : Int
  c : Int
instance : Inhabited Tm := ⟨⟨0, 0⟩⟩
def pr (l : List Tm) : Tms := l.map fun t => (t.e, t.c)
def Can (l : List Tm) : Prop := l.Pairwise (fun s t => s.e < t.e) ∧ ∀ t ∈ l, t.c ≠ 0 ∧ wr t.c = t.c ∧ wr t.e = t.e
theorem Can.nil_ : Can [] := ⟨List.Pairwise.nil, by simp⟩
theorem Can.tail {t : Tm} {l : List Tm} (h : Can (t :: l)) : Can l := ⟨(List.pairwise_cons.1 h.1).2, fun s hs => h.2 s (by simp [hs])⟩
theorem cf_pr_zero {l : List Tm} (h : ∀ t ∈ l, wr t.e = t.e) {k : Int} (hk : ∀ t ∈ l, t.e ≠ k) : cf (pr l) k = 0 := by
  induction l with
  | nil => rfl
  | cons t l ih =>
    rw [show pr (t :: l) = (t.e, t.c) :: pr l from rfl, cf_cons, ih (fun s hs => h s (by simp [hs])) (fun s hs => hk s (by simp [hs]))]
    simp only [h t (by simp)]
    rw [if_neg (hk t (by simp))]; rfl
theorem can_cf {l : List Tm} (h : Can l) {t : Tm} (ht : t ∈ l) : cf (pr l) t.e = t.c := by
  induction l with
  | nil => simp at ht
  | cons s l ih =>
    rw [show pr (s :: l) = (s.e, s.c) :: pr l from rfl, cf_cons]
    simp only [(h.2 s (by simp)).2.2]
    have hs := (List.pairwise_cons.1 h.1).1
    rcases List.mem_cons.1 ht with rfl | ht
    · rw [if_pos rfl, cf_pr_zero (fun u hu => (h.2 u (by simp [hu])).2.2) (fun u hu e => by have := hs u hu; omega)]; omega
    · rw [if_neg (fun e => by have := hs t ht; omega), ih h.tail ht]; omega
theorem can_mem {l : List Tm} (h : Can l) {k : Int} (hk : cf (pr l) k ≠ 0) : (⟨k, cf (pr l) k⟩ : Tm) ∈ l := by
  by_cases he : ∃ t ∈ l, t.e = k
  · obtain ⟨t, ht, rfl⟩ := he
    rw [can_cf h ht]; exact ht
  · exact absurd (cf_pr_zero (fun u hu => (h.2 u hu).2.2) (fun t ht e => he ⟨t, ht, e⟩)) hk
theorem can_sub {a b : List Tm} (ha : Can a) (hb : Can b) (h : mk (pr a) = mk (pr b)) {t : Tm} (ht : t ∈ a) : t ∈ b := by
  have h1 := can_cf ha ht
  have h2 : md (cf (pr a) t.e) = md (cf (pr b) t.e) := mk_eqv h _
  obtain ⟨c1, c2, c3⟩ := ha.2 t ht
  rw [h1] at h2
  have hne : cf (pr b) t.e ≠ 0 := fun e0 => c1 (md_range c2 (by rw [h2, e0]; rfl))
  have hm := can_mem hb hne
  have h3 : cf (pr b) t.e = t.c := by
    have := (hb.2 _ hm).2.1
    have h4 : wr (cf (pr b) t.e) = wr t.c := wr_md.2 h2.symm
    exact this.symm.trans (h4.trans c2)
  rw [h3] at hm
  exact hm
theorem sorted_ext : ∀ {a b : List Tm}, a.Pairwise (fun s t => s.e < t.e) → b.Pairwise (fun s t => s.e < t.e) → (∀ t, t ∈ a ↔ t ∈ b) → a = b
  | [], [], _, _, _ => rfl
  | [], t :: b, _, _, h => by have := (h t).2 (by simp); simp at this
  | t :: a, [], _, _, h => by have := (h t).1 (by simp); simp at this
  | s :: a, t :: b, ha, hb, h => by
    obtain ⟨a1, a2⟩ := List.pairwise_cons.1 ha
    obtain ⟨b1, b2⟩ := List.pairwise_cons.1 hb
    have hst : s = t := by
      have h1 := (h s).1 (by simp)
      have h2 := (h t).2 (by simp)
      rcases List.mem_cons.1 h1 with e | h1
      · exact e
      · rcases List.mem_cons.1 h2 with e | h2
        · exact e.symm
        · have := a1 t h2; have := b1 s h1; omega
    subst hst
    refine congrArg _ (sorted_ext a2 b2 fun u => ⟨fun hu => ?_, fun hu => ?_⟩)
    · rcases List.mem_cons.1 ((h u).1 (by simp [hu])) with e | h1
      · subst e; have := a1 u hu; omega
      · exact h1
    · rcases List.mem_cons.1 ((h u).2 (by simp [hu])) with e | h1
      · subst e; have := b1 u hu; omega
      · exact h1
theorem can_ext {a b : List Tm} (ha : Can a) (hb : Can b) (h : mk (pr a) = mk (pr b)) : a = b :=
  sorted_ext ha.1 hb.1 fun _ => ⟨can_sub ha hb h, can_sub hb ha h.symm⟩
/-- A term put into a polynomial in form. -/
def put : List Tm → Int → Int → List Tm
  | [], e, c => if c = 0 then [] else [⟨e, c⟩]
  | t :: l, e, c => if c = 0 then t :: l else if t.e < e then t :: put l e c else if t.e = e then (if wr (t.c + c) = 0 then l else ⟨e, wr (t.c + c)⟩ :: l) else ⟨e, c⟩ :: t :: l
theorem put_zero (l : List Tm) (e : Int) : put l e 0 = l := by cases l <;> simp [put]
theorem mk_put (l : List Tm) (e c : Int) : mk (pr (put l e c)) = mk (pr l) + mono e c := by
  induction l with
  | nil =>
    unfold put
    split
    · rename_i h; subst h; rw [mono_zero, Pol.add_zero]
    · show mono e c + Pol.o = Pol.o + mono e c
      rw [Pol.add_comm]
  | cons t l ih =>
    unfold put
    split
    · rename_i h; subst h; rw [mono_zero, Pol.add_zero]
    · split
      · show mono t.e t.c + mk (pr (put l e c)) = mono t.e t.c + mk (pr l) + mono e c
        rw [ih, Pol.add_assoc]
      · split
        · rename_i he
          subst he
          have h1 : mono t.e (wr (t.c + c)) = mono t.e t.c + mono t.e c := by rw [← mono_add]; exact mono_congr rfl (md_wr _)
          split
          · rename_i h0
            show mk (pr l) = mono t.e t.c + mk (pr l) + mono t.e c
            rw [h0, mono_zero] at h1
            rw [Pol.add_assoc, Pol.add_comm (mk (pr l)), ← Pol.add_assoc, ← h1, Pol.zero_add]
          · show mono t.e (wr (t.c + c)) + mk (pr l) = mono t.e t.c + mk (pr l) + mono t.e c
            rw [h1, Pol.add_assoc, Pol.add_assoc, Pol.add_comm (mono t.e c)]
        · show mono e c + (mono t.e t.c + mk (pr l)) = mono t.e t.c + mk (pr l) + mono e c
          rw [Pol.add_comm]
theorem put_mem {l : List Tm} {e c : Int} {u : Tm} (hu : u ∈ put l e c) : u.e = e ∨ u ∈ l := by
  induction l with
  | nil =>
    unfold put at hu
    split at hu
    · simp at hu
    · simp at hu; subst hu; exact .inl rfl
  | cons t l ih =>
    unfold put at hu
    split at hu
    · exact .inr hu
    · split at hu
      · rcases List.mem_cons.1 hu with h | h
        · subst h; exact .inr (by simp)
        · rcases ih h with h | h
          · exact .inl h
          · exact .inr (by simp [h])
      · split at hu
        · split at hu
          · exact .inr (by simp [hu])
          · rcases List.mem_cons.1 hu with h | h
            · subst h; exact .inl rfl
            · exact .inr (by simp [h])
        · rcases List.mem_cons.1 hu with h | h
          · subst h; exact .inl rfl
          · exact .inr h
theorem put_can {l : List Tm} (h : Can l) {e c : Int} (he : wr e = e) (hc : wr c = c) : Can (put l e c) := by
  induction l with
  | nil =>
    unfold put
    split
    · exact Can.nil_
    · rename_i h0
      exact ⟨List.pairwise_singleton _ _, fun t ht => by simp at ht; subst ht; exact ⟨h0, hc, he⟩⟩
  | cons t l ih =>
    obtain ⟨h1, h2⟩ := List.pairwise_cons.1 h.1
    have ih := ih h.tail
    unfold put
    split
    · exact h
    · rename_i h0
      split
      · rename_i hlt
        refine ⟨List.pairwise_cons.2 ⟨fun u hu => ?_, ih.1⟩, fun u hu => ?_⟩
        · rcases put_mem hu with e' | h'
          · omega
          · exact h1 u h'
        · rcases List.mem_cons.1 hu with e' | h'
          · subst e'; exact h.2 _ (by simp)
          · exact ih.2 u h'
      · split
        · rename_i hle heq
          split
          · exact h.tail
          · rename_i hn
            refine ⟨List.pairwise_cons.2 ⟨fun u hu => ?_, h2⟩, fun u hu => ?_⟩
            · have := h1 u hu; show e < u.e; omega
            · rcases List.mem_cons.1 hu with e' | h'
              · subst e'; exact ⟨hn, wr_idem _, he⟩
              · exact h.2 u (by simp [h'])
        · rename_i hle hne
          refine ⟨List.pairwise_cons.2 ⟨fun u hu => ?_, h.1⟩, fun u hu => ?_⟩
          · show e < u.e
            rcases List.mem_cons.1 hu with e' | h'
            · subst e'; omega
            · have := h1 u h'; omega
          · rcases List.mem_cons.1 hu with e' | h'
            · subst e'; exact ⟨h0, hc, he⟩
            · exact h.2 u h'
end Go.Proofs.YthppkofceancjaaGreat
namespace Go.Proofs.YthppkofceancjaaGreat
/-- How many of a set lie below. -/
def bl (S : Nat → Bool) : Nat → Nat
  | 0 => 0
  | c + 1 => bl S c + if S c = true then 1 else 0
section
variable (m : Nat → Nat → Pol) (N : Nat)
variable {m N}
end
instance : Inhabited Pol := ⟨Pol.o⟩
end Go.Proofs.YthppkofceancjaaGreat
namespace Go.Proofs.YthppkofceancjaaGreat
open Go.ChangeShapes Go.WideShapes Go.ChangeAt Go.RowKit Go.Sort
def srt (xs : List Int) : List Int := xs.mergeSort fun x y => decide (x ≤ y)
theorem srt_perm (xs : List Int) : (srt xs).Perm xs := List.mergeSort_perm _ _
theorem srt_len (xs : List Int) : (srt xs).length = xs.length := (srt_perm xs).length_eq
theorem srt_mem {xs : List Int} {x : Int} : x ∈ srt xs ↔ x ∈ xs := (srt_perm xs).mem_iff
theorem flat_int (xs : List Int) : xs.flatMap cdInt.f = xs.map (Value.int .i64) := by
  induction xs with
  | nil => rfl
  | cons x xs ih => simp only [List.flatMap_cons, ih, List.map_cons]; rfl
theorem SH.sorted {w : World} {M : Hp} {X : Fr} {g cap n : Nat} {xs ys : List Int} {os : Array Obj} (S : SH w M X [Rs.row cdInt (.slice (some ⟨g, 0, none⟩) xs.length cap) xs]) (hl : ys.length = xs.length) :
    SH (Go.Sort.grow (putRow (Value.int .i64) (Go.Sort.ahead w n) g 0 ys.toArray) os) M X [Rs.row cdInt (.slice (some ⟨g, 0, none⟩) xs.length cap) ys] := by
  have hok : RowOk cdInt (.slice (some ⟨g, 0, none⟩) xs.length cap) xs (hp w) := S.get (i := 0) rfl
  rcases hok with ⟨h1, _⟩ | ⟨g', cap', cur, h1, h2, h3, h4, h5, h6⟩
  · cases h1
  cases h1
  have gb := grownBy_sortedI (w := w) (g := g) (n := n) (os := os) ys.toArray
  have h5' : cur.size = cap := h5.trans (Nat.mul_one _)
  refine S.step (i := 0) (H' := [Rs.row cdInt (.slice (some ⟨g, 0, none⟩) xs.length cap) ys]) rfl rfl ⟨gb.os, gb.tape, gb.output, gb.size⟩ (fun b hb hn => ?_) ?_ (fun b hb => ⟨.inl hb, ?_⟩)
  · exact gb.block b hb (fun e => hn (by injection e with e; subst e; simp [Rs.row, Value.ownBlock]))
  · refine .inr ⟨g, cap, _, by rw [hl], heap_sortedI _ h2, by rw [hl]; exact h3, h4, by simp [putCells, h5'] ; exact (Nat.mul_one _).symm, ?_⟩
    rw [flat_int, show ys.length * cdInt.k = ys.length from Nat.mul_one _]
    exact take_putCellsI cur ys (by omega)
  · have hg : g < w.heap.size := hp_lt h2
    have e : b = g := by simpa [Rs.row, Value.ownBlock] using hb
    subst e
    exact Nat.lt_of_lt_of_le hg gb.size
theorem SH.holdsI {w : World} {M : Hp} {X : Fr} {g cap : Nat} {xs : List Int} (S : SH w M X [Rs.row cdInt (.slice (some ⟨g, 0, none⟩) xs.length cap) xs]) : Holds (Value.int .i64) w g 0 xs.toArray ∧ g < w.heap.size := by
  have hok : RowOk cdInt (.slice (some ⟨g, 0, none⟩) xs.length cap) xs (hp w) := S.get (i := 0) rfl
  rcases hok with ⟨h1, _⟩ | ⟨g', cap', cur, h1, h2, h3, h4, h5, h6⟩
  · cases h1
  cases h1
  refine ⟨holds_of_blockI h2 ?_, hp_lt h2⟩
  rw [flat_int, show xs.length * cdInt.k = xs.length from Nat.mul_one _] at h6
  exact h6
/-- slices.Sort: the row holds the same numbers, sorted. -/
theorem c1_sort {P : Program} {ρ : Go.Shelf.Ren} (L : Lays.n189 P ρ) {w : World} {M : Hp} {X : Fr} {v : Value} {xs : List Int} (hsz : xs.length < 4611686018427387904) (S : SH w M X [Rs.row cdInt v xs]) :
    C1 P (ρ.f 189) [v] w M X fun u M' r' => u = .tuple #[] ∧ M' = M ∧ r' = Rs.row cdInt v (srt xs) := by
  have hok : RowOk cdInt v xs (hp w) := S.get (i := 0) rfl
  rcases hok with ⟨h1, h2⟩ | ⟨g, cap, cur, h1, _⟩
  · subst h1; subst h2
    refine (Any.slices_Sort_int_none L none 0 w).mono ?_
    rintro e w' ⟨rfl, rfl⟩
    exact ⟨_, rfl, M, _, Hp.le_refl _, S, rfl, rfl, by simp [srt]⟩
  · subst h1
    obtain ⟨hH, hb⟩ := S.holdsI
    refine (Any.slices_Sort_int L g 0 cap xs w hH hb hsz).mono ?_
    rintro e w' ⟨rfl, n, os, rfl⟩
    exact ⟨_, rfl, M, _, Hp.le_refl _, S.sorted (srt_len xs), rfl, rfl, rfl⟩
end Go.Proofs.YthppkofceancjaaGreat
namespace Go.Proofs.YthppkofceancjaaGreat
open Go.ChangeShapes Go.WideShapes Go.ChangeAt Go.RowKit
section
variable {P : Program} {o : Oper} {L : List (Nat × Value)} {w : World} {n d : Nat} {Kt : List (Nat × Value) → World → Prop} {M : Hp} {X : Fr} {H : List Rs}
theorem run_makeFuncB {f : FuncId} {xs ys : List Operand} {us vs : List Value} {fa ca : Array Operand} (hop : o.op = .makeFunc (.func f) fa ca) (hf : fa = xs.toArray) (hc : ca = ys.toArray) (hu : oevs L xs = some us) (hv : oevs L ys = some vs) : Run P o L w (.func (.func f) us.toArray vs.toArray) w := by
  intro n c he
  unfold execOp
  simp only [hop, hf, hc, List.map_toArray, he.evals hu, he.evals hv, Instr.makeFunc, Sem.run_bind, Sem.run_pure, Result.andThen_ok]
/-- A call of a function value that bears bound arguments. -/
theorem wo_cqB {f : FuncId} {vs bnd cap : List Value} {ca : Call} {fo : Operand} {xs : List Operand} (hd : o.dst = some d) (hop : o.op = .call ca) (hca : ca.callee = .value fo) (hfo : oev L fo = some (.func (.func f) bnd.toArray cap.toArray))
    (hxs : ca.args = xs.toArray) (hvs : oevs L xs = some vs) (hn : Nat.blt d n = true) (hen : ∀ args w, (callFunc f args).run P w = .ok (.enter f args) w) (S : SH w M X H)
    {R : Value → Prop} (hcall : Cq P f (bnd ++ (vs ++ cap)) w M (XH w X H) R) (h : ∀ v w', SH w' M X H → R v → Kt ((d, v) :: L) w') : WO P n o L w Kt := by
  intro a ha next Q hk
  have hr : (execOp a.eval o).run P w = .ok (.enter f (bnd ++ (vs ++ cap)).toArray) w := by
    unfold execOp
    simp only [hop, resolve, hca, ha.eval hfo, hxs, List.map_toArray, ha.evals hvs, Deferred.ofValue, Sem.run_bind, Sem.run_pure, Result.andThen_ok, invoke, List.append_toArray, List.append_assoc]
    exact hen _ _
  unfold Oper.wp
  rw [hr, Oper.upon_enter, hd]
  refine hcall.mono ?_
  rintro e w' ⟨v, rfl, h2, h4⟩
  exact hk _ _ _ (ha.put (by simpa using hn) v) (h v w' (S.back h2) h4)
end
end Go.Proofs.YthppkofceancjaaGreat
namespace Go.Proofs.YthppkofceancjaaGreat
open Go.ChangeShapes Go.WideShapes Go.ChangeAt Go.RowKit
open Go.ChangeMaps (setBlock)
theorem MpOk.mono {κ ε : Type} {kc : κ → Value} {vc : ε → Value} {g : Nat} {es : List (κ × ε)} {N N' : Hp} (h : MpOk kc vc g es N) (k : N.le N') : MpOk kc vc g es N' := by
  obtain ⟨arr, clock, h1, h2, h3⟩ := h
  exact ⟨arr, clock, k _ _ h1, h2, h3⟩
/-- An iterator over a map that stays as it is. -/
def Rs.itr (g clock r : Nat) (seen : Array Nat) : Rs := ⟨[r], fun h => h r = some (.mapIter (some g) clock seen clock), fun h h' hb hk => by rw [hb r (by simp)]; exact hk⟩
section
variable {κ ε : Type}
/-- The map's entries. -/
def MpEs (kc : κ → Value) (vc : ε → Value) (N : Hp) (g : Nat) (arr : Array MapEntry) (clock : Nat) (es : List (κ × ε)) : Prop := N g = some (.map arr clock) ∧ arr.toList.map (fun e => (e.key, e.val)) = es.map (fun p => (kc p.1, vc p.2)) ∧ Stm arr clock
/-- What is left to come. -/
def Lft (kc : κ → Value) (vc : ε → Value) (arr : Array MapEntry) (seen : Array Nat) (lf : List (κ × ε)) : Prop := (leftOf arr seen).toList.map (fun e => (e.key, e.val)) = lf.map (fun p => (kc p.1, vc p.2))
/-- The entry that came last. -/
def Lst (kc : κ → Value) (vc : ε → Value) (arr : Array MapEntry) (seen : Array Nat) (k : κ) (v : ε) : Prop := ∃ (e : MapEntry) (s0 : Array Nat), seen = s0.push e.born ∧ e ∈ arr.toList ∧ e.key = kc k ∧ e.val = vc v
variable {kc : κ → Value} {vc : ε → Value} {N : Hp} {arr : Array MapEntry} {clock g : Nat} {es lf : List (κ × ε)} {seen : Array Nat}
theorem MpEs.mono {N' : Hp} (h : MpEs kc vc N g arr clock es) (k : N.le N') : MpEs kc vc N' g arr clock es := ⟨k _ _ h.1, h.2⟩
theorem MpOk.ents (h : MpOk kc vc g es N) : ∃ arr clock, MpEs kc vc N g arr clock es := by
  obtain ⟨arr, clock, h⟩ := h
  exact ⟨arr, clock, h⟩
theorem left_empty (arr : Array MapEntry) : leftOf arr #[] = arr := by unfold leftOf; simp
theorem MpEs.lft (h : MpEs kc vc N g arr clock es) : Lft kc vc arr #[] es := by unfold Lft; rw [left_empty]; exact h.2.1
theorem left_push (arr : Array MapEntry) (seen : Array Nat) (b : Nat) : (leftOf arr (seen.push b)).toList = (leftOf arr seen).toList.filter fun e => !decide (e.born = b) := by
  unfold leftOf
  rw [Array.toList_filter, Array.toList_filter, List.filter_filter]
  refine List.filter_congr fun x _ => ?_
  have e : (seen.push b).contains x.born = (seen.contains x.born || decide (x.born = b)) := by
    rw [Bool.eq_iff_iff]
    simp [Array.mem_push]
  rw [e, Bool.not_or, Bool.and_comm]
theorem filter_one {l : List MapEntry} (hn : (l.map (·.born)).Nodup) {e : MapEntry} (he : e ∈ l) : ∃ a b, l = a ++ e :: b ∧ (l.filter fun x => !decide (x.born = e.born)) = a ++ b := by
  obtain ⟨a, b, rfl⟩ := List.append_of_mem he
  refine ⟨a, b, rfl, ?_⟩
  rw [List.map_append, List.map_cons] at hn
  obtain ⟨n1, n2, n3⟩ := List.nodup_append.1 hn
  rw [List.filter_append, List.filter_cons_of_neg (by simp)]
  have h1 : (a.filter fun x => !decide (x.born = e.born)) = a := List.filter_eq_self.2 fun x hx => by
    have := n3 x.born (List.mem_map.2 ⟨x, hx, rfl⟩) e.born (by simp)
    simp [this]
  have h2 : (b.filter fun x => !decide (x.born = e.born)) = b := List.filter_eq_self.2 fun x hx => by
    have := (List.nodup_cons.1 n2).1
    have hne : x.born ≠ e.born := fun e' => this (by rw [← e']; exact List.mem_map.2 ⟨x, hx, rfl⟩)
    simp [hne]
  rw [h1, h2]
theorem split_map : ∀ {a : List MapEntry} {e : MapEntry} {b : List MapEntry} {lf : List (κ × ε)}, (a ++ e :: b).map (fun e => (e.key, e.val)) = lf.map (fun p => (kc p.1, vc p.2)) → ∃ l1 p l2, lf = l1 ++ p :: l2 ∧ e.key = kc p.1 ∧ e.val = vc p.2 ∧ (a ++ b).map (fun e => (e.key, e.val)) = (l1 ++ l2).map (fun p => (kc p.1, vc p.2))
  | [], e, b, [], h => by simp at h
  | [], e, b, p :: lf, h => by
    simp only [List.nil_append, List.map_cons, List.cons.injEq, Prod.mk.injEq] at h
    exact ⟨[], p, lf, rfl, h.1.1, h.1.2, h.2⟩
  | x :: a, e, b, [], h => by simp at h
  | x :: a, e, b, q :: lf, h => by
    simp only [List.cons_append, List.map_cons, List.cons.injEq] at h
    obtain ⟨l1, p, l2, rfl, h1, h2, h3⟩ := split_map h.2
    exact ⟨q :: l1, p, l2, rfl, h1, h2, by simp only [List.cons_append, List.map_cons, h.1, h3]⟩
section
variable {P : Program} {o : Oper} {L : List (Nat × Value)} {w : World} {x : Operand} {T K E : TypeId} {n d r i : Nat} {Kt : List (Nat × Value) → World → Prop} {M : Hp} {X : Fr} {H : List Rs}
theorem wo_range (hop : o.op = .range T x) (hd : o.dst = some d) (hn : Nat.blt d n = true) (hx : oev L x = some (.map (some g))) (hu : P.underlying T = some (.map K E)) (S : SH w M X H) (hg : MpEs kc vc N g arr clock es) (hN : N.le (hp w))
    (h : ∀ r w', SH w' M X (Rs.itr g clock r #[] :: H) → Kt ((d, .pointer (some ⟨r, 0, none⟩)) :: L) w') : WO P n o L w Kt := by
  have hg' : w.heap[g]? = some (.map arr clock) := hN _ _ hg.1
  refine wo_run (v := .pointer (some ⟨w.heap.size, 0, none⟩)) (w' := w.alloc (.mapIter (some g) clock #[] clock)) hd hn ?_ (h _ _ ?_)
  · intro n c he
    unfold execOp
    simp only [hop, he.eval hx, run_range_map w T K E g arr clock hu hg', Sem.run_bind, Result.andThen_ok, Sem.run_pure]
  · exact S.cons (like_alloc w _) (keep_alloc w _) (heap_alloc_new w _) (fun b hb => by simp [Rs.itr] at hb; subst hb; rw [size_al]; omega)
theorem wo_next (hop : o.op = .next x false) (hd : o.dst = some d) (hn : Nat.blt d n = true) (hx : oev L x = some (.pointer (some ⟨r, 0, none⟩))) (S : SH w M X H) (hi : nth H i = some (Rs.itr g clock r seen)) (hg : MpEs kc vc N g arr clock es) (hN : N.le (hp w)) (hl : Lft kc vc arr seen lf)
    (h0 : lf = [] → Kt ((d, .tuple [.bool false].toArray) :: L) w)
    (h1 : ∀ k v l1 l2 seen' w', lf = l1 ++ (k, v) :: l2 → Lft kc vc arr seen' (l1 ++ l2) → Lst kc vc arr seen' k v → SH w' M X (H.set i (Rs.itr g clock r seen')) → Kt ((d, .tuple [.bool true, kc k, vc v].toArray) :: L) w') : WO P n o L w Kt := by
  have hg' : w.heap[g]? = some (.map arr clock) := hN _ _ hg.1
  have hr : w.heap[r]? = some (.mapIter (some g) clock seen clock) := S.get hi
  rcases run_next_at (P := P) w o.type r g clock clock seen arr clock hr hg' hg.2.2.2 (Nat.le_refl _) with ⟨e0, hrun⟩ | ⟨e, he, w1, hal, hrun⟩
  · refine wo_run (v := .tuple #[.bool false]) (w' := w) hd hn ?_ (h0 ?_)
    · intro n c he
      unfold execOp
      simp only [hop, he.eval hx, hrun, Sem.run_bind, Result.andThen_ok, Sem.run_pure]
    · have : leftOf arr seen = #[] := Array.eq_empty_of_size_eq_zero e0
      unfold Lft at hl
      rw [this] at hl
      cases lf with
      | nil => rfl
      | cons p l => simp at hl
  · obtain ⟨hem, _⟩ := mem_left he
    have hsub : ((leftOf arr seen).toList.map (·.born)).Nodup := by
      unfold leftOf; rw [Array.toList_filter]
      exact List.Nodup.sublist (List.Sublist.map _ List.filter_sublist) hg.2.2.1
    obtain ⟨a, b, hab, hf⟩ := filter_one hsub he
    unfold Lft at hl
    rw [hab] at hl
    obtain ⟨l1, p, l2, hlf, hk, hv, hl'⟩ := split_map hl
    have hrun' : (Instr.next (.pointer (some ⟨r, 0, none⟩)) false o.type).run P w = .ok (.tuple [.bool true, kc p.1, vc p.2].toArray) (setBlock w1 r (.mapIter (some g) clock (seen.push e.born) clock)) := by rw [hrun, hk, hv]
    have hr1 : w1.heap[r]? = some (.mapIter (some g) clock seen clock) := by rcases hal with rfl | rfl <;> exact hr
    have hset := Go.MapKept.heap_set (o' := .mapIter (some g) clock (seen.push e.born) clock) hr1
    have hlike : Like w w1 := by rcases hal with rfl | rfl <;> exact ⟨rfl, rfl, rfl, Nat.le_refl _⟩
    have hheap : w1.heap = w.heap := by rcases hal with rfl | rfl <;> rfl
    have hsz : (setBlock w1 r (.mapIter (some g) clock (seen.push e.born) clock)).heap.size = w1.heap.size := by simp [setBlock]
    refine wo_run (v := .tuple [.bool true, kc p.1, vc p.2].toArray) (w' := setBlock w1 r (.mapIter (some g) clock (seen.push e.born) clock)) hd hn ?_ (h1 p.1 p.2 l1 l2 (seen.push e.born) _ hlf ?_ ⟨e, seen, rfl, hem, hk, hv⟩ ?_)
    · intro n c he
      unfold execOp
      simp only [hop, he.eval hx, hrun', Sem.run_bind, Result.andThen_ok, Sem.run_pure]
    · unfold Lft
      rw [left_push, hf]
      exact hl'
    · refine S.step hi rfl (hlike.trans ⟨rfl, rfl, rfl, by rw [hsz]; exact Nat.le_refl _⟩) (fun b _ hb => ?_) hset.1 (fun b hb => ⟨.inl hb, ?_⟩)
      · have hne : b ≠ r := by simpa [Rs.itr] using hb
        show (setBlock w1 r _).heap[b]? = w.heap[b]?
        exact (hset.2 b hne).trans (by rw [hheap])
      · simp [Rs.itr] at hb
        subst hb
        rw [hsz, hheap]
        exact hp_lt hr
theorem run_entry (hop : o.op = .entry x) (hx : oev L x = some (.pointer (some ⟨r, 0, none⟩))) (S : SH w M X H) (hi : nth H i = some (Rs.itr g clock r seen)) (hg : MpEs kc vc N g arr clock es) (hN : N.le (hp w)) {k : κ} {v : ε} (hl : Lst kc vc arr seen k v) : Run P o L w (.tuple [kc k, vc v].toArray) w := by
  have hg' : w.heap[g]? = some (.map arr clock) := hN _ _ hg.1
  obtain ⟨e, s0, rfl, he, hk, hv⟩ := hl
  have hr : w.heap[r]? = some (.mapIter (some g) clock (s0.push e.born) clock) := S.get hi
  have hrun := run_entry_at (P := P) w r g clock s0 arr clock e hr hg' he hg.2.2.1
  rw [hk, hv] at hrun
  intro n c he
  unfold execOp
  simp only [hop, he.eval hx, hrun, Sem.run_bind, Result.andThen_ok, Sem.run_pure]
theorem one_sh (hm : MpOk kc vc g es (hp w)) : SH w (fun _ => none) ⟨fun _ => none, w⟩ [Rs.mp kc vc g es] := by
  refine ⟨fun _ _ h => by simp at h, fun _ _ h => by simp at h, fun _ _ h => by simp at h, fun r hr => ?_, fun r hr b hb => ?_, fun i j r s hij h1 h2 => ?_, Like.refl w⟩
  · rw [List.mem_singleton] at hr; subst hr; exact hm
  · rw [List.mem_singleton] at hr; subst hr
    obtain ⟨arr, clock, h1, _⟩ := hm
    simp [Rs.mp] at hb; subst hb
    exact ⟨hp_lt h1, rfl, rfl⟩
  · have h1 := (List.getElem?_eq_some_iff.1 h1).1
    have h2 := (List.getElem?_eq_some_iff.1 h2).1
    simp at h1 h2; omega
/-- A lookup in a map that lasts. -/
theorem lookM [DecidableEq κ] {k : κ} {zv : ε} (hm : MpOk kc vc g es (hp w)) (hu : P.underlying T = some (.map K E)) (hK : MapK P K kc) (hz : (P.info? E).map (·.zero) = some (some (vc zv))) : (Instr.lookup T (.map (some g)) (kc k) false).run P w = .ok (vc ((mg k es).getD zv)) w :=
  (SH.look (i := 0) (H := [Rs.mp kc vc g es]) (M := fun _ => none) (X := ⟨fun _ => none, w⟩) (one_sh hm) rfl hu hK hz).1
theorem run_lookupM [DecidableEq κ] {y : Operand} {k : κ} {zv : ε} (hop : o.op = .lookup T x y false) (hx : oev L x = some (.map (some g))) (hy : oev L y = some (kc k)) (hu : P.underlying T = some (.map K E)) (hK : MapK P K kc) (hz : (P.info? E).map (·.zero) = some (some (vc zv))) (hm : MpOk kc vc g es N) (hN : N.le (hp w)) : Run P o L w (vc ((mg k es).getD zv)) w := by
  intro n c he
  unfold execOp
  simp only [hop, he.eval hx, he.eval hy, lookM (hm.mono hN) hu hK hz, Sem.run_bind, Result.andThen_ok, Sem.run_pure]
/-- A map of the call's own lasts from now on. -/
theorem SH.pubmap {H' : List Rs} (S : SH w M X H) (hi : nth H i = some (Rs.mp kc vc g es)) (hH : H.set i Rs.emp = H') : ∃ M', M.le M' ∧ SH w M' X H' ∧ MpOk kc vc g es M' := by
  obtain ⟨h1, h2, h3⟩ := S.pub hi hH
  have h4 : MpOk kc vc g es (hp w) := S.get hi
  obtain ⟨arr, clock, e, h5⟩ := h4
  exact ⟨_, h1, h2, arr, clock, (h3 g (by simp [Rs.mp])).trans e, h5⟩
end
end
section
variable {P : Program} {o : Oper} {L : List (Nat × Value)} {w : World} {x y : Operand} {t t' : TypeId} {a b : Int}
theorem run_mulW (ho : o.op = .binOp .mul t x y t') (hx : oev L x = some (.int .i64 a)) (hy : oev L y = some (.int .i64 b)) : Run P o L w (.int .i64 (wr (a * b))) w :=
  run_bin ho hx hy fun w => by simp [binOp, Op.intArith, wr]
theorem run_negW (ho : o.op = .unOp .neg t x) (hx : oev L x = some (.int .i64 a)) : Run P o L w (.int .i64 (wr (-a))) w := by
  intro n c hc; unfold execOp; simp [ho, hc.eval hx, Op.unary, Op.intArith, wr]
end
end Go.Proofs.YthppkofceancjaaGreat
namespace Go.Proofs.YthppkofceancjaaGreat
open Go.ChangeShapes Go.WideShapes Go.ChangeAt Go.RowKit
def Bd (l : List Tm) (B : Nat) : Prop := ∀ t ∈ l, -(B : Int) ≤ t.e ∧ t.e ≤ B
theorem Bd.mono {l : List Tm} {B C : Nat} (h : Bd l B) (k : B ≤ C) : Bd l C := fun t ht => by have := h t ht; omega
theorem put_bd {l : List Tm} {B : Nat} (h : Bd l B) {e c : Int} (he : -(B : Int) ≤ e ∧ e ≤ B) : Bd (put l e c) B := fun t ht => by
  rcases put_mem ht with e1 | h1
  · rw [e1]; exact he
  · exact h t h1
theorem inc_len : ∀ {ks : List Int} {lo hi : Int}, ks.Pairwise (fun a b => a < b) → (∀ k ∈ ks, lo ≤ k ∧ k ≤ hi) → lo ≤ hi + 1 → (ks.length : Int) ≤ hi - lo + 1
  | [], lo, hi, _, _, h => by simp; omega
  | k :: ks, lo, hi, hp, hb, h => by
    obtain ⟨h1, h2⟩ := List.pairwise_cons.1 hp
    have hk := hb k (by simp)
    have := inc_len (lo := k + 1) (hi := hi) h2 (fun j hj => ⟨by have := h1 j hj; omega, (hb j (by simp [hj])).2⟩) (by omega)
    simp only [List.length_cons]
    omega
theorem can_len {l : List Tm} {B : Nat} (h : Can l) (hb : Bd l B) : l.length ≤ 2 * B + 1 := by
  have := inc_len (ks := l.map (·.e)) (lo := -(B : Int)) (hi := B) (by rw [List.pairwise_map]; exact h.1) (fun k hk => by
    obtain ⟨t, ht, rfl⟩ := List.mem_map.1 hk
    exact hb t ht) (by omega)
  rw [List.length_map] at this
  omega
def Ents (es : List (Int × Int)) (B : Nat) : Prop := (es.map Prod.fst).Nodup ∧ ∀ q ∈ es, (-(B : Int) ≤ q.1 ∧ q.1 ≤ B) ∧ wr q.2 = q.2
theorem Ents.nil_ (B : Nat) : Ents [] B := ⟨by simp, by simp⟩
theorem Ents.mono {es : List (Int × Int)} {B C : Nat} (h : Ents es B) (k : B ≤ C) : Ents es C := ⟨h.1, fun q hq => by have := h.2 q hq; exact ⟨by omega, this.2⟩⟩
theorem mp_mem {k v : Int} {es : List (Int × Int)} {q : Int × Int} (h : q ∈ mp k v es) : q = (k, v) ∨ q ∈ es := by
  induction es with
  | nil => simp [mp] at h; exact .inl h
  | cons p r ih =>
    unfold mp at h
    split at h
    · rcases List.mem_cons.1 h with e | h
      · exact .inl e
      · exact .inr (by simp [h])
    · rcases List.mem_cons.1 h with e | h
      · exact .inr (by simp [e])
      · rcases ih h with e | h
        · exact .inl e
        · exact .inr (by simp [h])
theorem mp_keys (k v : Int) (es : List (Int × Int)) : (mp k v es).map Prod.fst = if k ∈ es.map Prod.fst then es.map Prod.fst else es.map Prod.fst ++ [k] := by
  induction es with
  | nil => simp [mp]
  | cons p r ih =>
    unfold mp
    by_cases h : k = p.1
    · rw [if_pos h]; simp [h]
    · rw [if_neg h, List.map_cons, ih]
      by_cases h2 : k ∈ r.map Prod.fst
      · rw [if_pos h2, if_pos (by rw [List.map_cons]; exact List.mem_cons_of_mem _ h2), List.map_cons]
      · rw [if_neg h2, if_neg (by rw [List.map_cons]; intro h3; exact (List.mem_cons.1 h3).elim h h2), List.map_cons, List.cons_append]
theorem mp_ents {es : List (Int × Int)} {B : Nat} (h : Ents es B) {k v : Int} (hk : -(B : Int) ≤ k ∧ k ≤ B) (hv : wr v = v) : Ents (mp k v es) B := by
  refine ⟨?_, fun q hq => ?_⟩
  · rw [mp_keys]
    split
    · exact h.1
    · rename_i hn
      exact List.nodup_append.2 ⟨h.1, by simp, fun a ha b hb => by simp at hb; subst hb; exact fun e => hn (e ▸ ha)⟩
  · rcases mp_mem hq with rfl | hq
    · exact ⟨hk, hv⟩
    · exact h.2 q hq
theorem mk_mp (k v : Int) (es : List (Int × Int)) : mk (mp k v es) = mk es + mono k (v - (mg k es).getD 0) := by
  induction es with
  | nil =>
    show mk [(k, v)] = Pol.o + mono k (v - 0)
    rw [Pol.zero_add, Int.sub_zero]; rfl
  | cons p r ih =>
    unfold mp mg
    by_cases h : k = p.1
    · rw [if_pos h, if_pos h, mk_cons, mk_cons]
      subst h
      show mono p.1 v + mk r = mono p.1 p.2 + mk r + mono p.1 (v - p.2)
      rw [Pol.add_assoc, Pol.add_comm (mk r), ← Pol.add_assoc, ← mono_add, show p.2 + (v - p.2) = v by omega]
    · rw [if_neg h, if_neg h, mk_cons, mk_cons, ih, Pol.add_assoc]
theorem mk_mp_add (k c : Int) (es : List (Int × Int)) : mk (mp k (wr ((mg k es).getD 0 + c)) es) = mk es + mono k c := by
  rw [mk_mp]
  refine congrArg _ (mono_congr rfl ?_)
  have h1 := md_add (md_wr ((mg k es).getD 0 + c)) (rfl : md (-(mg k es).getD 0) = _)
  rw [show wr ((mg k es).getD 0 + c) - (mg k es).getD 0 = wr ((mg k es).getD 0 + c) + -(mg k es).getD 0 by omega, h1]
  congr 1; omega
theorem mg_mem {es : List (Int × Int)} (h : (es.map Prod.fst).Nodup) {q : Int × Int} (hq : q ∈ es) : (mg q.1 es).getD 0 = q.2 := by
  induction es with
  | nil => simp at hq
  | cons p r ih =>
    obtain ⟨h1, h2⟩ := List.nodup_cons.1 (by simpa using h : (p.1 :: r.map Prod.fst).Nodup)
    unfold mg
    rcases List.mem_cons.1 hq with rfl | hq
    · rw [if_pos rfl]; rfl
    · rw [if_neg (fun e => h1 (by rw [← e]; exact List.mem_map.2 ⟨q, hq, rfl⟩))]
      exact ih h2 hq
theorem mg_none {es : List (Int × Int)} {k : Int} (h : k ∉ es.map Prod.fst) : (mg k es).getD 0 = 0 := by
  induction es with
  | nil => rfl
  | cons p r ih =>
    unfold mg
    rw [if_neg (fun e => h (by simp [e]))]
    exact ih fun h2 => h (by rw [List.map_cons]; exact List.mem_cons_of_mem _ h2)
theorem mg_rng {es : List (Int × Int)} {B : Nat} (h : Ents es B) (k : Int) : wr ((mg k es).getD 0) = (mg k es).getD 0 := by
  by_cases hk : k ∈ es.map Prod.fst
  · obtain ⟨q, hq, rfl⟩ := List.mem_map.1 hk
    rw [mg_mem h.1 hq]; exact (h.2 q hq).2
  · rw [mg_none hk]; exact wr_id (by omega)
theorem srt_inc {ks : List Int} (h : ks.Nodup) : (srt ks).Pairwise (fun a b => a < b) := by
  have h1 : (srt ks).Pairwise (fun a b => decide (a ≤ b) = true) := List.pairwise_mergeSort (fun a b c h1 h2 => by simp at *; omega) (fun a b => by simp; omega) ks
  have h2 : (srt ks).Nodup := (srt_perm ks).nodup_iff.2 h
  exact (h1.and h2).imp fun {a b} h => by have := h.1; have := h.2; simp at *; omega
theorem ents_len {es : List (Int × Int)} {B : Nat} (h : Ents es B) : es.length ≤ 2 * B + 1 := by
  have := inc_len (ks := srt (es.map Prod.fst)) (lo := -(B : Int)) (hi := B) (srt_inc h.1) (fun k hk => by
    obtain ⟨q, hq, rfl⟩ := List.mem_map.1 (srt_mem.1 hk)
    exact (h.2 q hq).1) (by omega)
  rw [srt_len, List.length_map] at this
  omega
def fm (es : List (Int × Int)) (ks : List Int) : List Tm := ks.flatMap fun e => if (mg e es).getD 0 = 0 then [] else [⟨e, (mg e es).getD 0⟩]
theorem fm_snoc (es : List (Int × Int)) (ks : List Int) (e : Int) : fm es (ks ++ [e]) = fm es ks ++ (if (mg e es).getD 0 = 0 then [] else [⟨e, (mg e es).getD 0⟩]) := by
  unfold fm; rw [List.flatMap_append]; simp
theorem fm_mem {es : List (Int × Int)} {ks : List Int} {t : Tm} (h : t ∈ fm es ks) : t.e ∈ ks ∧ t.c = (mg t.e es).getD 0 ∧ t.c ≠ 0 := by
  obtain ⟨e, he, ht⟩ := List.mem_flatMap.1 h
  split at ht
  · simp at ht
  · rename_i h0
    simp at ht; subst ht; exact ⟨he, rfl, h0⟩
theorem fm_len (es : List (Int × Int)) (ks : List Int) : (fm es ks).length ≤ ks.length := by
  induction ks with
  | nil => simp [fm]
  | cons k ks ih =>
    have : fm es (k :: ks) = (if (mg k es).getD 0 = 0 then [] else [⟨k, (mg k es).getD 0⟩]) ++ fm es ks := by unfold fm; rw [List.flatMap_cons]
    rw [this, List.length_append, List.length_cons]
    split <;> simp <;> omega
theorem fm_inc {es : List (Int × Int)} : ∀ {ks : List Int}, ks.Pairwise (fun a b => a < b) → (fm es ks).Pairwise (fun s t => s.e < t.e)
  | [], _ => List.Pairwise.nil
  | k :: ks, h => by
    obtain ⟨h1, h2⟩ := List.pairwise_cons.1 h
    have e : fm es (k :: ks) = (if (mg k es).getD 0 = 0 then [] else [⟨k, (mg k es).getD 0⟩]) ++ fm es ks := by unfold fm; rw [List.flatMap_cons]
    rw [e]
    split
    · exact fm_inc h2
    · exact List.pairwise_cons.2 ⟨fun t ht => h1 _ (fm_mem ht).1, fm_inc h2⟩
theorem mk_fm (es : List (Int × Int)) (ks : List Int) : mk (pr (fm es ks)) = mk (ks.map fun e => (e, (mg e es).getD 0)) := by
  induction ks with
  | nil => rfl
  | cons k ks ih =>
    have e : fm es (k :: ks) = (if (mg k es).getD 0 = 0 then [] else [⟨k, (mg k es).getD 0⟩]) ++ fm es ks := by unfold fm; rw [List.flatMap_cons]
    rw [e, List.map_cons, mk_cons, ← ih]
    split
    · rename_i h0
      show mk (pr (fm es ks)) = mono k ((mg k es).getD 0) + _
      rw [h0, mono_zero, Pol.zero_add]
    · rfl
def formL (es : List (Int × Int)) : List Tm := fm es (srt (es.map Prod.fst))
theorem mk_formL {es : List (Int × Int)} {B : Nat} (h : Ents es B) : mk (pr (formL es)) = mk es := by
  unfold formL
  rw [mk_fm, mk_perm ((srt_perm (es.map Prod.fst)).map _), List.map_map]
  refine congrArg mk ?_
  conv => rhs; rw [← List.map_id es]
  refine List.map_congr_left fun q hq => ?_
  show (q.1, (mg q.1 es).getD 0) = q
  rw [mg_mem h.1 hq]
theorem formL_bd {es : List (Int × Int)} {B : Nat} (h : Ents es B) : Bd (formL es) B := fun t ht => by
  obtain ⟨q, hq, e⟩ := List.mem_map.1 (srt_mem.1 (fm_mem ht).1)
  rw [← e]; exact (h.2 q hq).1
theorem formL_can {es : List (Int × Int)} {B : Nat} (h : Ents es B) (hB : B ≤ 1099511627776) : Can (formL es) := by
  refine ⟨fm_inc (srt_inc h.1), fun t ht => ?_⟩
  obtain ⟨h1, h2, h3⟩ := fm_mem ht
  have := formL_bd h t ht
  exact ⟨h3, by rw [h2]; exact mg_rng h _, wr_id (by omega)⟩
def Wk (N : Hp) (g : Nat) (B : Nat) (p : Pol) : Prop := ∃ es, MpOk (Value.int .i64) (Value.int .i64) g es N ∧ Ents es B ∧ mk es = p
theorem Wk.mono {N N' : Hp} {g B : Nat} {p : Pol} (h : Wk N g B p) (k : N.le N') : Wk N' g B p := by
  obtain ⟨es, h1, h2⟩ := h
  exact ⟨es, h1.mono k, h2⟩
/-- What the maps of a list are; bf: their exponents' bounds. -/
def Wks (bf : Nat → Nat) (N : Hp) (gs : List (Option Nat)) (ps : List (Option Pol)) : Prop := gs.length = ps.length ∧ ∀ i, i < gs.length → match ga ps i with
  | some p => ∃ g, ga gs i = some g ∧ Wk N g (bf i) p
  | none => ga gs i = none
section
variable {bf : Nat → Nat} {N N' : Hp} {gs : List (Option Nat)} {ps : List (Option Pol)}
theorem Wks.mono (h : Wks bf N gs ps) (k : N.le N') : Wks bf N' gs ps := ⟨h.1, fun i hi => by
  have := h.2 i hi
  split at this
  · obtain ⟨g, h1, h2⟩ := this
    exact ⟨g, h1, h2.mono k⟩
  · exact this⟩
theorem Wks.nil_ (bf : Nat → Nat) (N : Hp) : Wks bf N [] [] := ⟨rfl, fun i hi => by simp at hi⟩
end
/-- A table of maps. -/
def WksA (bf : Nat → Nat) (N : Hp) (gss : List (List (Option Nat))) (pss : List (List (Option Pol))) : Prop := gss.length = pss.length ∧ ∀ i, i < gss.length → Wks bf N (ga gss i) (ga pss i)
section
variable {bf : Nat → Nat} {N N' : Hp} {gss : List (List (Option Nat))} {pss : List (List (Option Pol))}
theorem WksA.mono (h : WksA bf N gss pss) (k : N.le N') : WksA bf N' gss pss := ⟨h.1, fun i hi => (h.2 i hi).mono k⟩
theorem WksA.nil_ (bf : Nat → Nat) (N : Hp) : WksA bf N [] [] := ⟨rfl, fun i hi => by simp at hi⟩
end
end Go.Proofs.YthppkofceancjaaGreat
namespace Go.Proofs.YthppkofceancjaaGreat
open Go.ChangeShapes Go.WideShapes Go.ChangeAt Go.RowKit
/-- A dart: an arc with a direction. -/
structure Da where
 a : Int
 b : Bool
instance : Inhabited Da := ⟨⟨0, false⟩⟩
instance : DecidableEq Da := fun x y => decidable_of_iff (x.a = y.a ∧ x.b = y.b) ⟨fun h => by cases x; cases y; simp at h; simp [h], fun h => by rw [h]; exact ⟨rfl, rfl⟩⟩
def daF (x : Da) : List Value := [.int .i64 x.a, .bool x.b]
def cdDa : Cd Da := ⟨daF, 2, 16, 26, ⟨0, false⟩, fun _ => rfl, by
 intro x u hu
 simp [daF] at hu
 rcases hu with rfl | rfl <;> rfl⟩
def okD (d : Dg) (x : Da) : Prop := 1 ≤ x.a ∧ x.a ≤ 2 * (d.crs.length : Int)
/-- The dart behind a dart along the face to the left. -/
def leftD (d : Dg) (x : Da) : Da := ⟨arcAt d (endOf d x.a x.b).1 (((endOf d x.a x.b).2 + 3) % 4), entryB d (endOf d x.a x.b).1 (((endOf d x.a x.b).2 + 3) % 4)⟩
theorem arcAt_bd {d : Dg} (h : arcsB d = true) {i k : Nat} (hi : i < d.crs.length) (hk : k < 4) : 1 ≤ arcAt d i k ∧ arcAt d i k ≤ 2 * (d.crs.length : Int) := by
 have := arcs_rng h (j := 4 * i + k) (by omega)
 unfold arcJ at this
 rwa [show (4 * i + k) / 4 = i by omega, show (4 * i + k) % 4 = k by omega] at this
theorem endD {d : Dg} (h : arcsB d = true) {a : Int} (ha : 1 ≤ a ∧ a ≤ 2 * (d.crs.length : Int)) (b : Bool) : (endOf d a b).1 < d.crs.length ∧ (endOf d a b).2 < 4 ∧ ga (tabL d b (4 * d.crs.length)) a.toNat = endOf d a b ∧ a.toNat < 2 * d.crs.length + 1 ∧ a = (a.toNat : Int) := by
 have e : a = (a.toNat : Int) := by omega
 obtain ⟨h1, h2, h3, _⟩ := endOf_lt h (a := a.toNat) (by omega) (by omega) b
 rw [← e] at h1 h2 h3
 refine ⟨h1, h2, ?_, by omega, e⟩
 rw [tabL_get (by omega), ← e]
 exact h3
theorem leftD_ok {d : Dg} (h : arcsB d = true) {x : Da} (hx : okD d x) : okD d (leftD d x) := by
 obtain ⟨h1, h2, _⟩ := endD h hx x.b
 exact arcAt_bd h h1 (Nat.mod_lt _ (by decide))
theorem sl22 : SlOf Tryz.prog 22 cdCr := ⟨.agg [.int .i64 0, .int .i64 0, .int .i64 0, .int .i64 0, .bool false].toArray, Tryz.underlying22, by kernel_rfl, rfl, by decide, by decide⟩
theorem sl68 : SlOf Tryz.prog 68 cdPl := ⟨.agg [.int .i64 0, .int .i64 0].toArray, Tryz.underlying68, by kernel_rfl, rfl, by decide, by decide⟩
theorem sl141 : SlOf Tryz.prog 141 cdDa := ⟨.agg [.int .i64 0, .bool false].toArray, Tryz.underlying141, by kernel_rfl, rfl, by decide, by decide⟩
noncomputable def Arc_n0 : Code := Tryz.f115.body.getD .skip
noncomputable def Arc_n1 : Code := cL Arc_n0
noncomputable def Arc_n2 : Code := cR Arc_n0
noncomputable def Arc_n3 : Code := cL Arc_n2
noncomputable def Arc_n4 : Code := cR Arc_n2
set_option maxRecDepth 10000 in
theorem Arc_q {w : World} {M : Hp} {X : Fr} (x : Cr) (k : Nat) (hk : k < 4) (S : SH w M X []) : Cq Tryz.prog 115 [.agg [.int .i64 x.a, .int .i64 x.b, .int .i64 x.c, .int .i64 x.d, .bool x.plus].toArray, .int .i64 (k : Int)] w M X (fun u => u = .int .i64 (crArc x k)) := by
 unfold Cq
 refine calls_in (b := Arc_n0) Tryz.func115 rfl Tryz.ntmps115 rfl (fun C hC => (ws_sub [(0, _), (1, _)] ⟨rfl, rfl, trivial⟩ (ws_seqN Arc_n1 Arc_n2 rfl rfl rfl (ws_region rfl (wlo 0 1 rfl rfl rfl (wo_box (l := [_, _, _, _, _]) rfl rfl rfl rfl rfl S ?_))))))
 intro gb1 w1 S1; clear S
 refine wla 1 2 rfl rfl rfl rfl rfl rfl rfl (wl_end rfl (nmk [1, 2] rfl (nm_thn (ws_seqN Arc_n3 Arc_n4 rfl rfl rfl (ws_region rfl (wlo 0 1 rfl rfl rfl (wo_run rfl rfl (run_fieldAddr rfl rfl Tryz.underlying77 rfl (ce3) (nf3)) (wlo 1 2 rfl rfl rfl (wo_run rfl rfl (run_load1 rfl rfl Tryz.underlying3 rfl (S1.boxc (i := 0) rfl rfl)) (wlo 2 3 rfl rfl rfl (wo_run rfl rfl (run_fieldAddr rfl rfl Tryz.underlying77 rfl (ce3) (nf3)) ?_)))))))))))
 refine wlo 3 4 rfl rfl rfl (wo_run rfl rfl (run_load1 rfl rfl Tryz.underlying3 rfl (S1.boxc (i := 0) rfl rfl)) (wlo 4 5 rfl rfl rfl (wo_run rfl rfl (run_fieldAddr rfl rfl Tryz.underlying77 rfl (ce3) (nf3)) (wlo 5 6 rfl rfl rfl (wo_run rfl rfl (run_load1 rfl rfl Tryz.underlying3 rfl (S1.boxc (i := 0) rfl rfl)) (wlo 6 7 rfl rfl rfl (wo_run rfl rfl (run_fieldAddr rfl rfl Tryz.underlying77 rfl (ce3) (nf3)) (wlo 7 8 rfl rfl rfl (wo_run rfl rfl (run_load1 rfl rfl Tryz.underlying3 rfl (S1.boxc (i := 0) rfl rfl)) (wlo 8 9 rfl rfl rfl (wo_run rfl rfl (run_buildA (l := [_, _, _, _]) (pl := [(0, 1), (1, 1), (2, 1), (3, 1)]) rfl rfl Tryz.underlying208 zr208 sz3 rfl rfl rfl) (wlm 9 10 rfl rfl rfl rfl rfl rfl rfl (wlo 10 11 rfl rfl rfl (wo_run rfl rfl (run_index1 (e := k) rfl rfl rfl Tryz.underlying208 Tryz.underlying3 rfl sz3 (by first | rfl | omega) (by first | omega | (simp only [lens]; omega)) (nth_iv [x.a, x.b, x.c, x.d] k (by simp; first | omega | (simp only [lens]; omega)))) ?_))))))))))))))
 refine wla 11 12 rfl rfl rfl rfl rfl rfl rfl (wl_end rfl (nmk [4] rfl (nm_thn (ws_ret hC [_] rfl rfl ⟨rfl, trivial⟩ ?_))))
 exact ⟨_, rfl, (S1.pick [] [] (by decide) trivial), (by have e0 : k = 0 ∨ k = 1 ∨ k = 2 ∨ k = 3 := (by omega); rcases e0 with rfl | rfl | rfl | rfl <;> first | rfl | (exfalso; omega))⟩
noncomputable def OverIn_n0 : Code := Tryz.f170.body.getD .skip
noncomputable def OverIn_n1 : Code := cL OverIn_n0
noncomputable def OverIn_n2 : Code := cR OverIn_n0
noncomputable def OverIn_n3 : Code := cL OverIn_n2
noncomputable def OverIn_n4 : Code := cR OverIn_n2
noncomputable def OverIn_n5 : Code := cL OverIn_n3
noncomputable def OverIn_n6 : Code := cR OverIn_n3
noncomputable def OverIn_n7 : Code := cL OverIn_n6
noncomputable def OverIn_n8 : Code := cR OverIn_n6
noncomputable def OverIn_n9 : Code := cL OverIn_n7
noncomputable def OverIn_n10 : Code := cR OverIn_n7
noncomputable def OverIn_n11 : Code := cL OverIn_n4
noncomputable def OverIn_n12 : Code := cR OverIn_n4
set_option maxRecDepth 10000 in
theorem OverIn_q {w : World} {M : Hp} {X : Fr} (x : Cr) (S : SH w M X []) : Cq Tryz.prog 170 [.agg [.int .i64 x.a, .int .i64 x.b, .int .i64 x.c, .int .i64 x.d, .bool x.plus].toArray] w M X (fun u => u = .int .i64 (overIn x : Int)) := by
 unfold Cq
 refine calls_in (b := OverIn_n0) Tryz.func170 rfl Tryz.ntmps170 rfl (fun C hC => (ws_sub [(0, _)] ⟨rfl, trivial⟩ (ws_seqN OverIn_n1 OverIn_n2 rfl rfl rfl (ws_region rfl (wlo 0 1 rfl rfl rfl (wo_box (l := [_, _, _, _, _]) rfl rfl rfl rfl rfl S ?_))))))
 intro gb1 w1 S1; clear S
 refine wla 1 2 rfl rfl rfl rfl rfl rfl rfl (wl_end rfl (nmk [1] rfl (nm_thn (ws_seqN OverIn_n3 OverIn_n4 rfl rfl rfl (ws_seqN OverIn_n5 OverIn_n6 rfl rfl rfl (ws_region rfl (wlo 0 1 rfl rfl rfl (wo_run rfl rfl (run_fieldAddr rfl rfl Tryz.underlying77 rfl (ce4) (nf4)) (wlo 1 2 rfl rfl rfl (wo_run rfl rfl (run_load1 rfl rfl Tryz.underlying4 rfl (S1.boxc (i := 0) rfl rfl)) ?_))))))))))
 refine wl_end rfl (nmk [4] rfl (nm_thn ?_))
 refine ws_condN OverIn_n7 OverIn_n8 rfl rfl rfl rfl (fun hb4 => ?_) (fun hb4 => ?_)
 ·refine ws_seqN OverIn_n9 OverIn_n10 rfl rfl rfl (ws_region rfl (wla 0 1 rfl rfl rfl rfl rfl rfl rfl (wl_end rfl (nmk [2] rfl (nm_thn (ws_ret hC [_] rfl rfl ⟨rfl, trivial⟩ ?_))))))
  exact ⟨_, rfl, (S1.pick [] [] (by decide) trivial), (by show Value.int _ _ = _; unfold overIn; rw [hb4]; rfl)⟩
 ·refine ws_skip rfl (nm_sub [] trivial (nm_thn (ws_seqN OverIn_n11 OverIn_n12 rfl rfl rfl (ws_region rfl (wla 0 1 rfl rfl rfl rfl rfl rfl rfl (wl_end rfl (nm_thn (ws_ret hC [_] rfl rfl ⟨rfl, trivial⟩ ?_))))))))
  exact ⟨_, rfl, (S1.pick [] [] (by decide) trivial), (by show Value.int _ _ = _; unfold overIn; rw [hb4]; rfl)⟩
noncomputable def Comes_n0 : Code := Tryz.f133.body.getD .skip
noncomputable def Comes_n1 : Code := cL Comes_n0
noncomputable def Comes_n2 : Code := cR Comes_n0
noncomputable def Comes_n3 : Code := cL Comes_n2
noncomputable def Comes_n4 : Code := cR Comes_n2
set_option maxRecDepth 10000 in
theorem Comes_q {w : World} {M : Hp} {X : Fr} (x : Cr) (k : Nat) (hk : k < 4) (S : SH w M X []) : Cq Tryz.prog 133 [.agg [.int .i64 x.a, .int .i64 x.b, .int .i64 x.c, .int .i64 x.d, .bool x.plus].toArray, .int .i64 (k : Int)] w M X (fun u => u = .bool (crIn x k)) := by
 unfold Cq
 refine calls_in (b := Comes_n0) Tryz.func133 rfl Tryz.ntmps133 rfl (fun C hC => (ws_sub [(0, _), (1, _)] ⟨rfl, rfl, trivial⟩ (ws_seqN Comes_n1 Comes_n2 rfl rfl rfl (ws_region rfl (wlo 0 1 rfl rfl rfl (wo_box (l := [_, _, _, _, _]) rfl rfl rfl rfl rfl S ?_))))))
 intro gb1 w1 S1; clear S
 refine wla 1 2 rfl rfl rfl rfl rfl rfl rfl (wl_end rfl (nmk [1, 2] rfl (nm_thn (ws_seqN Comes_n3 Comes_n4 rfl rfl rfl (ws_region rfl (wlm 0 1 rfl rfl rfl rfl rfl rfl rfl (wlo 1 2 rfl rfl rfl (wo_run rfl rfl (run_eql rfl rfl rfl) (wlm 2 3 rfl rfl rfl rfl rfl rfl rfl ?_)))))))))
 refine wl_split (t := 7) rfl (fun hg7 => ?_) (fun hg7 => ?_)
 ·replace hg7 := of_decide_eq_true hg7
  refine wln 3 4 rfl rfl rfl rfl rfl rfl rfl rfl rfl (wln 4 5 rfl rfl rfl rfl rfl rfl rfl rfl rfl (wln 5 6 rfl rfl rfl rfl rfl rfl rfl rfl rfl (wln 6 7 rfl rfl rfl rfl rfl rfl rfl rfl rfl (wlo 7 8 rfl rfl rfl (wo_run rfl rfl (run_pickT rfl rfl rfl) (wla 8 9 rfl rfl rfl rfl rfl rfl rfl (wl_end rfl (nmk [4] rfl (nm_thn ?_)))))))))
  refine ws_ret hC [_] rfl rfl ⟨rfl, trivial⟩ ?_
  exact ⟨_, rfl, (S1.pick [] [] (by decide) trivial), (by show Value.bool _ = _; refine congrArg Value.bool ?_; unfold crIn; first | (symm; rw [decide_eq_true_iff]; left; omega) | (unfold overIn; refine decide_eq_decide.2 ?_; cases hp9 : x.plus <;> simp <;> omega))⟩
 ·replace hg7 := of_decide_eq_false hg7
  refine wlg 3 4 rfl rfl rfl rfl rfl rfl rfl rfl (wo_run rfl rfl (run_move rfl rfl) (wlg 4 5 rfl rfl rfl rfl rfl rfl rfl rfl (wo_run rfl rfl (run_loadN (us := [_, _, _, _, _]) rfl rfl Tryz.underlying77 rfl sz77 (S1.boxcs (i := 0) rfl ⟨rfl, rfl, rfl, rfl, rfl, trivial⟩)) (wlg 5 6 rfl rfl rfl rfl rfl rfl rfl rfl (wo_cq rfl rfl rfl rfl rfl rfl rfl cf170 S1 (OverIn_q x  S1.lend) ?_)))))
  rintro _ w2 S2 rfl; clear S1
  refine wlg 6 7 rfl rfl rfl rfl rfl rfl rfl rfl (wo_run rfl rfl (run_eql rfl rfl rfl) (wlo 7 8 rfl rfl rfl (wo_run rfl rfl (run_pickF rfl rfl rfl) (wla 8 9 rfl rfl rfl rfl rfl rfl rfl (wl_end rfl (nmk [4] rfl (nm_thn (ws_ret hC [_] rfl rfl ⟨rfl, trivial⟩ ?_))))))))
  exact ⟨_, rfl, (S2.pick [] [] (by decide) trivial), (by show Value.bool _ = _; refine congrArg Value.bool ?_; unfold crIn; first | (symm; rw [decide_eq_true_iff]; left; omega) | (unfold overIn; refine decide_eq_decide.2 ?_; cases hp9 : x.plus <;> simp <;> omega))⟩
noncomputable def At_n0 : Code := Tryz.f129.body.getD .skip
noncomputable def At_n1 : Code := cL At_n0
noncomputable def At_n2 : Code := cR At_n0
noncomputable def At_n3 : Code := cL At_n2
noncomputable def At_n4 : Code := cR At_n2
set_option maxRecDepth 10000 in
theorem At_q {w : World} {M : Hp} {X : Fr} (d : Dg) {gsh : Nat} {cA iA oA : Option Addr} {cc ic oc : Nat} (c k : Nat) (hsb : BxM (M.un X.h) gsh 70 [.slice cA d.crs.length cc, .int .i64 d.loops, .slice iA (tabL d false (4 * d.crs.length)).length ic, .slice oA (tabL d true (4 * d.crs.length)).length oc]) (hsc : RdA cdCr (M.un X.h) cA cc d.crs) (hsi : RdA cdPl (M.un X.h) iA ic (tabL d false (4 * d.crs.length))) (hso : RdA cdPl (M.un X.h) oA oc (tabL d true (4 * d.crs.length))) (hc : c < d.crs.length) (hk : k < 4) (S : SH w M X []) : Cq Tryz.prog 129 [.pointer (some ⟨gsh, 0, none⟩), .agg [.int .i64 (c : Int), .int .i64 (k : Int)].toArray] w M X (fun u => u = .int .i64 (arcAt d c k)) := by
 unfold Cq
 refine calls_in (b := At_n0) Tryz.func129 rfl Tryz.ntmps129 rfl (fun C hC => (ws_sub [(0, _), (1, _)] ⟨rfl, rfl, trivial⟩ (ws_seqN At_n1 At_n2 rfl rfl rfl (ws_region rfl (wlo 0 1 rfl rfl rfl (wo_box (l := [_, _]) rfl rfl rfl rfl rfl S ?_))))))
 intro gb1 w1 S1; clear S
 refine wla 1 2 rfl rfl rfl rfl rfl rfl rfl (wl_end rfl (nmk [0, 3] rfl (nm_thn (ws_seqN At_n3 At_n4 rfl rfl rfl (ws_draw rfl (by kernel_rfl) S1 13 rfl ?_)))))
 clear S1
 refine wap 0 12 rfl (by kernel_rfl) rfl rfl rfl (fun w2 => run_move rfl rfl) ?_
 refine wap 1 11 rfl (by kernel_rfl) rfl rfl rfl (fun w3 => run_nilCheck rfl rfl) ?_
 refine wap 2 10 rfl (by kernel_rfl) rfl rfl rfl (fun w4 => run_fieldAddr rfl rfl Tryz.underlying70 rfl (ce24) (nf24)) ?_
 refine wap 3 9 rfl (by kernel_rfl) rfl rfl rfl (fun w5 => run_fieldAddr rfl rfl Tryz.underlying24 rfl (ce22) (nf22)) ?_
 refine wat 4 8 rfl (by kernel_rfl) rfl rfl rfl (fun M5 N5 w6 hle5 S6 => .inl (run_load1 rfl rfl Tryz.underlying22 rfl ((hsb.mono (Hp.un_mono hle5 S6.mx)).cell S6.um rfl))) ?_
 refine wap 5 7 rfl (by kernel_rfl) rfl rfl rfl (fun w7 => run_fieldAddr rfl rfl Tryz.underlying190 rfl (ce3) (nf3)) ?_
 refine wat 6 6 rfl (by kernel_rfl) rfl rfl rfl (fun M7 N7 w8 hle7 S8 => .inl (run_load1 rfl rfl Tryz.underlying3 rfl (S8.suf.boxc (i := 0) rfl rfl))) ?_
 refine wat 7 5 rfl (by kernel_rfl) rfl rfl rfl (fun M8 N8 w9 hle8 S9 => .inl (run_indexM (C := cdCr) c rfl rfl rfl sl22 (by first | rfl | omega) (hsc.mono (Hp.un_mono hle8 S9.mx)) (by first | omega | (simp only [lens]; omega)))) ?_
 refine wat 8 4 rfl (by kernel_rfl) rfl rfl rfl (fun M9 N9 w10 hle9 S10 => .inl (run_loadN (us := [_, _, _, _, _]) rfl rfl Tryz.underlying77 rfl sz77 ((hsc.mono (Hp.un_mono hle9 S10.mx)).cellsAt S10.um (e := c) (by first | omega | (simp only [lens]; omega)) (j := 0) ⟨rfl, rfl, rfl, rfl, rfl, trivial⟩))) ?_
 refine wap 9 3 rfl (by kernel_rfl) rfl rfl rfl (fun w11 => run_fieldAddr rfl rfl Tryz.underlying190 rfl (ce3) (nf3)) ?_
 refine wat 10 2 rfl (by kernel_rfl) rfl rfl rfl (fun M11 N11 w12 hle11 S12 => .inl (run_load1 rfl rfl Tryz.underlying3 rfl (S12.suf.boxc (i := 0) rfl rfl))) ?_
 refine wat 11 1 rfl (by kernel_rfl) rfl rfl rfl (fun M12 N12 w13 hle12 S13 => yield_cq rfl rfl rfl rfl rfl cf115 S13 (Arc_q (ga d.crs c) k (by omega) S13.lend)) ?_
 refine wap 12 0 rfl (by kernel_rfl) rfl rfl rfl (fun w14 => run_assign rfl rfl) ?_
 refine wa_end (by kernel_rfl) (fun w15 S15 => ?_)
 refine nmk [4] rfl (nm_thn (ws_ret hC [_] rfl rfl ⟨rfl, trivial⟩ ?_))
 exact ⟨_, rfl, (S15.pick [] [] (by decide) trivial), rfl⟩
noncomputable def Arcs_n0 : Code := Tryz.f111.body.getD .skip
noncomputable def Arcs_n1 : Code := cL Arcs_n0
noncomputable def Arcs_n2 : Code := cR Arcs_n0
noncomputable def Arcs_n3 : Code := cL Arcs_n2
noncomputable def Arcs_n4 : Code := cR Arcs_n2
set_option maxRecDepth 10000 in
theorem Arcs_q {w : World} {M : Hp} {X : Fr} (d : Dg) {gsh : Nat} {cA iA oA : Option Addr} {cc ic oc : Nat} (hsb : BxM (M.un X.h) gsh 70 [.slice cA d.crs.length cc, .int .i64 d.loops, .slice iA (tabL d false (4 * d.crs.length)).length ic, .slice oA (tabL d true (4 * d.crs.length)).length oc]) (hsc : RdA cdCr (M.un X.h) cA cc d.crs) (hsi : RdA cdPl (M.un X.h) iA ic (tabL d false (4 * d.crs.length))) (hso : RdA cdPl (M.un X.h) oA oc (tabL d true (4 * d.crs.length))) (hn : d.crs.length ≤ 16) (S : SH w M X []) : Cq Tryz.prog 111 [.pointer (some ⟨gsh, 0, none⟩)] w M X (fun u => u = .int .i64 (2 * (d.crs.length : Int))) := by
 unfold Cq
 refine calls_in (b := Arcs_n0) Tryz.func111 rfl Tryz.ntmps111 rfl (fun C hC => (ws_sub [(0, _)] ⟨rfl, trivial⟩ (ws_seqN Arcs_n1 Arcs_n2 rfl rfl rfl (ws_region rfl (wla 0 1 rfl rfl rfl rfl rfl rfl rfl (wl_end rfl (nmk [0] rfl (nm_thn (ws_seqN Arcs_n3 Arcs_n4 rfl rfl rfl ?_)))))))))
 refine ws_region rfl (wlm 0 1 rfl rfl rfl rfl rfl rfl rfl (wlo 1 2 rfl rfl rfl (wo_run rfl rfl (run_nilCheck rfl rfl) (wlo 2 3 rfl rfl rfl (wo_run rfl rfl (run_fieldAddr rfl rfl Tryz.underlying70 rfl (ce24) (nf24)) (wlo 3 4 rfl rfl rfl (wo_run rfl rfl (run_fieldAddr rfl rfl Tryz.underlying24 rfl (ce22) (nf22)) (wlo 4 5 rfl rfl rfl (wo_run rfl rfl (run_load1 rfl rfl Tryz.underlying22 rfl (hsb.cell S.um rfl)) (wlo 5 6 rfl rfl rfl (wo_run rfl rfl (run_len rfl rfl rfl rfl rfl rfl Tryz.underlying22) (wlo 6 7 rfl rfl rfl (wo_run rfl rfl (run_mul rfl rfl rfl (by first | omega | (simp only [lens]; omega))) ?_)))))))))))))
 refine wla 7 8 rfl rfl rfl rfl rfl rfl rfl (wl_end rfl (nmk [2] rfl (nm_thn (ws_ret hC [_] rfl rfl ⟨rfl, trivial⟩ ?_))))
 exact ⟨_, rfl, (S.pick [] [] (by decide) trivial), rfl⟩
end Go.Proofs.YthppkofceancjaaGreat
namespace Go.Proofs.YthppkofceancjaaGreat
open Go.ChangeShapes Go.WideShapes Go.ChangeAt Go.RowKit
noncomputable def Head_n0 : Code := Tryz.f106.body.getD .skip
noncomputable def Head_n1 : Code := cL Head_n0
noncomputable def Head_n2 : Code := cR Head_n0
noncomputable def Head_n3 : Code := cL Head_n2
noncomputable def Head_n4 : Code := cR Head_n2
noncomputable def Head_n5 : Code := cL Head_n3
noncomputable def Head_n6 : Code := cR Head_n3
noncomputable def Head_n7 : Code := cL Head_n6
noncomputable def Head_n8 : Code := cR Head_n6
noncomputable def Head_n9 : Code := cL Head_n7
noncomputable def Head_n10 : Code := cR Head_n7
noncomputable def Head_n11 : Code := cL Head_n4
noncomputable def Head_n12 : Code := cR Head_n4
set_option maxRecDepth 10000 in
theorem Head_q {w : World} {M : Hp} {X : Fr} (d : Dg) {gsh : Nat} {cA iA oA : Option Addr} {cc ic oc : Nat} (x : Da) (hsb : BxM (M.un X.h) gsh 70 [.slice cA d.crs.length cc, .int .i64 d.loops, .slice iA (tabL d false (4 * d.crs.length)).length ic, .slice oA (tabL d true (4 * d.crs.length)).length oc]) (hsc : RdA cdCr (M.un X.h) cA cc d.crs) (hsi : RdA cdPl (M.un X.h) iA ic (tabL d false (4 * d.crs.length))) (hso : RdA cdPl (M.un X.h) oA oc (tabL d true (4 * d.crs.length))) (hn : d.crs.length ≤ 16) (hab : arcsB d = true) (hx : okD d x) (S : SH w M X []) : Cq Tryz.prog 106 [.pointer (some ⟨gsh, 0, none⟩), .agg [.int .i64 x.a, .bool x.b].toArray] w M X (fun u => u = .agg (plF (endOf d x.a x.b)).toArray) := by
 unfold Cq
 obtain ⟨hE1, hE2, hE3, hE4, hE5⟩ := endD hab hx x.b
 have htl : ∀ b, (tabL d b (4 * d.crs.length)).length = 2 * d.crs.length + 1 := fun b => tabL_len d b _
 have htf := htl false
 have htt := htl true
 have hx1 := hx.1
 have hx2 := hx.2
 refine calls_in (b := Head_n0) Tryz.func106 rfl Tryz.ntmps106 rfl (fun C hC => (ws_sub [(0, _), (1, _)] ⟨rfl, rfl, trivial⟩ (ws_seqN Head_n1 Head_n2 rfl rfl rfl (ws_region rfl (wlo 0 1 rfl rfl rfl (wo_box (l := [_, _]) rfl rfl rfl rfl rfl S ?_))))))
 intro gb1 w1 S1; clear S
 refine wlo 1 2 rfl rfl rfl (wo_alloc (l := [_, _]) rfl rfl rfl zr190 rfl S1 ?_)
 intro gb2 w2 S2; clear S1
 refine wl_end rfl (nmk [0, 3, 4] rfl (nm_thn (ws_seqN Head_n3 Head_n4 rfl rfl rfl (ws_seqN Head_n5 Head_n6 rfl rfl rfl (ws_region rfl (wlo 0 1 rfl rfl rfl (wo_run rfl rfl (run_fieldAddr rfl rfl Tryz.underlying26 rfl (ce4) (nf4)) (wlo 1 2 rfl rfl rfl (wo_run rfl rfl (run_load1 rfl rfl Tryz.underlying4 rfl (S2.boxc (i := 1) rfl rfl)) (wl_end rfl ?_))))))))))
 refine nmk [0, 3, 4, 6] rfl (nm_thn ?_)
 refine ws_condN Head_n7 Head_n8 rfl rfl rfl rfl (fun hb6 => ?_) (fun hb6 => ?_)
 ·refine ws_seqN Head_n9 Head_n10 rfl rfl rfl (ws_draw rfl (by kernel_rfl) S2 9 rfl ?_)
  clear S2
  refine wap 0 8 rfl (by kernel_rfl) rfl rfl rfl (fun w3 => run_move rfl rfl) ?_
  refine wap 1 7 rfl (by kernel_rfl) rfl rfl rfl (fun w4 => run_nilCheck rfl rfl) ?_
  refine wap 2 6 rfl (by kernel_rfl) rfl rfl rfl (fun w5 => run_fieldAddr rfl rfl Tryz.underlying70 rfl (ce68) (nf68)) ?_
  refine wat 3 5 rfl (by kernel_rfl) rfl rfl rfl (fun M4 N4 w6 hle4 S6 => .inl (run_load1 rfl rfl Tryz.underlying68 rfl ((hsb.mono (Hp.un_mono hle4 S6.mx)).cell S6.um rfl))) ?_
  refine wap 4 4 rfl (by kernel_rfl) rfl rfl rfl (fun w7 => run_fieldAddr rfl rfl Tryz.underlying26 rfl (ce3) (nf3)) ?_
  refine wat 5 3 rfl (by kernel_rfl) rfl rfl rfl (fun M6 N6 w8 hle6 S8 => .inl (run_load1 rfl rfl Tryz.underlying3 rfl (S8.suf.boxc (i := 1) rfl rfl))) ?_
  refine wat 6 2 rfl (by kernel_rfl) rfl rfl rfl (fun M7 N7 w9 hle7 S9 => .inl (run_indexM (C := cdPl) x.a.toNat rfl rfl rfl sl68 (by first | rfl | omega) (hso.mono (Hp.un_mono hle7 S9.mx)) (by first | omega | (simp only [lens]; omega)))) ?_
  refine wat 7 1 rfl (by kernel_rfl) rfl rfl rfl (fun M8 N8 w10 hle8 S10 => .inl (run_loadN (us := [_, _]) rfl rfl Tryz.underlying190 rfl sz190 ((hso.mono (Hp.un_mono hle8 S10.mx)).cellsAt S10.um (e := x.a.toNat) (by first | omega | (simp only [lens]; omega)) (j := 0) ⟨rfl, rfl, trivial⟩))) ?_
  refine wa_only (i := 8) 0 rfl (by kernel_rfl) rfl rfl (fun w12 S12 => ?_)
  refine (wo_storeB (i := 0) (us := [_, _]) (l' := [_, _]) (H' := [_, _]) rfl rfl S12 rfl rfl rfl rfl sz190 rfl rfl rfl rfl ?_)
  intro w13 S13; clear S12
  refine LeftW.turn (by kernel_rfl) S13 ?_; clear S13
  change WA _ _ _ _ _ _ _ _ _ _ _ _ [_, _]
  refine wa_end (by kernel_rfl) (fun w14 S14 => ?_)
  refine nmk [4] rfl (nm_thn (ws_ret hC [_] rfl rfl ⟨⟨_, rfl, loadVarN (us := [_, _]) Tryz.underlying190 rfl sz190 (S14.boxcs (i := 0) rfl ⟨rfl, rfl, trivial⟩)⟩, trivial⟩ ?_))
  exact ⟨_, rfl, (S14.pick [] [] (by decide) trivial), (by rw [hb6] at hE3; show Value.agg (plF (ga (tabL d _ (4 * d.crs.length)) x.a.toNat)).toArray = _; rw [hE3, hb6])⟩
 ·refine ws_skip rfl (nmk [0, 3, 4] rfl (nm_thn (ws_seqN Head_n11 Head_n12 rfl rfl rfl (ws_draw rfl (by kernel_rfl) S2 9 rfl ?_))))
  clear S2
  refine wap 0 8 rfl (by kernel_rfl) rfl rfl rfl (fun w15 => run_move rfl rfl) ?_
  refine wap 1 7 rfl (by kernel_rfl) rfl rfl rfl (fun w16 => run_nilCheck rfl rfl) ?_
  refine wap 2 6 rfl (by kernel_rfl) rfl rfl rfl (fun w17 => run_fieldAddr rfl rfl Tryz.underlying70 rfl (ce68) (nf68)) ?_
  refine wat 3 5 rfl (by kernel_rfl) rfl rfl rfl (fun M13 N13 w18 hle13 S18 => .inl (run_load1 rfl rfl Tryz.underlying68 rfl ((hsb.mono (Hp.un_mono hle13 S18.mx)).cell S18.um rfl))) ?_
  refine wap 4 4 rfl (by kernel_rfl) rfl rfl rfl (fun w19 => run_fieldAddr rfl rfl Tryz.underlying26 rfl (ce3) (nf3)) ?_
  refine wat 5 3 rfl (by kernel_rfl) rfl rfl rfl (fun M15 N15 w20 hle15 S20 => .inl (run_load1 rfl rfl Tryz.underlying3 rfl (S20.suf.boxc (i := 1) rfl rfl))) ?_
  refine wat 6 2 rfl (by kernel_rfl) rfl rfl rfl (fun M16 N16 w21 hle16 S21 => .inl (run_indexM (C := cdPl) x.a.toNat rfl rfl rfl sl68 (by first | rfl | omega) (hsi.mono (Hp.un_mono hle16 S21.mx)) (by first | omega | (simp only [lens]; omega)))) ?_
  refine wat 7 1 rfl (by kernel_rfl) rfl rfl rfl (fun M17 N17 w22 hle17 S22 => .inl (run_loadN (us := [_, _]) rfl rfl Tryz.underlying190 rfl sz190 ((hsi.mono (Hp.un_mono hle17 S22.mx)).cellsAt S22.um (e := x.a.toNat) (by first | omega | (simp only [lens]; omega)) (j := 0) ⟨rfl, rfl, trivial⟩))) ?_
  refine wa_only (i := 8) 0 rfl (by kernel_rfl) rfl rfl (fun w24 S24 => ?_)
  refine (wo_storeB (i := 0) (us := [_, _]) (l' := [_, _]) (H' := [_, _]) rfl rfl S24 rfl rfl rfl rfl sz190 rfl rfl rfl rfl ?_)
  intro w25 S25; clear S24
  refine LeftW.turn (by kernel_rfl) S25 ?_; clear S25
  change WA _ _ _ _ _ _ _ _ _ _ _ _ [_, _]
  refine wa_end (by kernel_rfl) (fun w26 S26 => ?_)
  refine nmk [4] rfl (nm_thn (ws_ret hC [_] rfl rfl ⟨⟨_, rfl, loadVarN (us := [_, _]) Tryz.underlying190 rfl sz190 (S26.boxcs (i := 0) rfl ⟨rfl, rfl, trivial⟩)⟩, trivial⟩ ?_))
  exact ⟨_, rfl, (S26.pick [] [] (by decide) trivial), (by rw [hb6] at hE3; show Value.agg (plF (ga (tabL d _ (4 * d.crs.length)) x.a.toNat)).toArray = _; rw [hE3, hb6])⟩
noncomputable def Left_n0 : Code := Tryz.f108.body.getD .skip
noncomputable def Left_n1 : Code := cL Left_n0
noncomputable def Left_n2 : Code := cR Left_n0
noncomputable def Left_n3 : Code := cL Left_n2
noncomputable def Left_n4 : Code := cR Left_n2
noncomputable def Left_n5 : Code := cL Left_n4
noncomputable def Left_n6 : Code := cR Left_n4
noncomputable def Left_n7 : Code := cL Left_n6
noncomputable def Left_n8 : Code := cR Left_n6
set_option maxRecDepth 10000 in
theorem Left_q {w : World} {M : Hp} {X : Fr} (d : Dg) {gsh : Nat} {cA iA oA : Option Addr} {cc ic oc : Nat} (x : Da) (hsb : BxM (M.un X.h) gsh 70 [.slice cA d.crs.length cc, .int .i64 d.loops, .slice iA (tabL d false (4 * d.crs.length)).length ic, .slice oA (tabL d true (4 * d.crs.length)).length oc]) (hsc : RdA cdCr (M.un X.h) cA cc d.crs) (hsi : RdA cdPl (M.un X.h) iA ic (tabL d false (4 * d.crs.length))) (hso : RdA cdPl (M.un X.h) oA oc (tabL d true (4 * d.crs.length))) (hn : d.crs.length ≤ 16) (hab : arcsB d = true) (hx : okD d x) (S : SH w M X []) : Cq Tryz.prog 108 [.pointer (some ⟨gsh, 0, none⟩), .agg [.int .i64 x.a, .bool x.b].toArray] w M X (fun u => u = .agg (daF (leftD d x)).toArray) := by
 unfold Cq
 obtain ⟨hE1, hE2, hE3, hE4, hE5⟩ := endD hab hx x.b
 have htl : ∀ b, (tabL d b (4 * d.crs.length)).length = 2 * d.crs.length + 1 := fun b => tabL_len d b _
 have htf := htl false
 have htt := htl true
 have hx1 := hx.1
 have hx2 := hx.2
 refine calls_in (b := Left_n0) Tryz.func108 rfl Tryz.ntmps108 rfl (fun C hC => (ws_sub [(0, _), (1, _)] ⟨rfl, rfl, trivial⟩ (ws_seqN Left_n1 Left_n2 rfl rfl rfl (ws_region rfl (wlo 0 1 rfl rfl rfl (wo_box (l := [_, _]) rfl rfl rfl rfl rfl S ?_))))))
 intro gb1 w1 S1; clear S
 refine wlo 1 2 rfl rfl rfl (wo_alloc (l := [_, _]) rfl rfl rfl zr26 rfl S1 ?_)
 intro gb2 w2 S2; clear S1
 refine wl_end rfl (nmk [0, 3, 4] rfl (nm_thn (ws_seqN Left_n3 Left_n4 rfl rfl rfl (ws_region rfl (wlm 0 1 rfl rfl rfl rfl rfl rfl rfl (wlo 1 2 rfl rfl rfl (wo_run rfl rfl (run_loadN (us := [_, _]) rfl rfl Tryz.underlying26 rfl sz26 (S2.boxcs (i := 1) rfl ⟨rfl, rfl, trivial⟩)) (wlo 2 3 rfl rfl rfl (wo_cq rfl rfl rfl rfl rfl rfl rfl cf106 S2 (Head_q d x (hsb.mono S2.un_XH) (hsc.mono S2.un_XH) (hsi.mono S2.un_XH) (hso.mono S2.un_XH) (by first | assumption | omega) hab (by first | assumption | omega) S2.lend) ?_)))))))))
 rintro _ w3 S3 rfl; clear S2
 refine wlo 3 4 rfl rfl rfl (wo_alloc (l := [_, _]) rfl rfl rfl zr190 rfl S3 ?_)
 intro gb3 w4 S4; clear S3
 refine wlo 4 5 rfl rfl rfl (wo_storeB (i := 0) (us := [_, _]) (l' := [_, _]) (H' := [_, _, _]) rfl rfl S4 rfl rfl rfl rfl sz190 rfl rfl rfl rfl ?_)
 intro w5 S5; clear S4
 refine wl_end rfl (nmk [0, 4, 5] rfl (nm_thn (ws_seqN Left_n5 Left_n6 rfl rfl rfl (ws_region rfl (wlo 0 1 rfl rfl rfl (wo_run rfl rfl (run_fieldAddr rfl rfl Tryz.underlying190 rfl (ce3) (nf3)) (wlo 1 2 rfl rfl rfl (wo_run rfl rfl (run_load1 rfl rfl Tryz.underlying3 rfl (S5.boxc (i := 0) rfl rfl)) (wlo 2 3 rfl rfl rfl (wo_run rfl rfl (run_fieldAddr rfl rfl Tryz.underlying190 rfl (ce3) (nf3)) (wlo 3 4 rfl rfl rfl (wo_run rfl rfl (run_load1 rfl rfl Tryz.underlying3 rfl (S5.boxc (i := 0) rfl rfl)) ?_))))))))))))
 refine wlo 4 5 rfl rfl rfl (wo_run rfl rfl (run_add rfl rfl rfl (by first | omega | (simp only [lens]; omega))) ?_)
 refine wlo 5 6 rfl rfl rfl (wo_run rfl rfl (run_sub rfl rfl rfl (by first | omega | (simp only [lens]; omega))) ?_)
 refine wlo 6 7 rfl rfl rfl (wo_run rfl rfl (run_rem rfl rfl rfl (by first | omega | (simp only [lens]; omega))) ?_)
 refine wl_eq 16 (.int .i64 ((((endOf d x.a x.b).2 + 3) % 4 : Nat) : Int)) rfl (int_eq (by omega)) ?_
 have hlt4 : ((endOf d x.a x.b).2 + 3) % 4 < 4 := Nat.mod_lt _ (by decide)
 refine wlo 7 8 rfl rfl rfl (wo_run rfl rfl (run_build (l := [_, _]) rfl rfl st190 rfl rfl) (wlo 8 9 rfl rfl rfl (wo_alloc (l := [_, _]) rfl rfl rfl zr190 rfl S5 ?_)))
 intro gb4 w6 S6; clear S5
 refine wlo 9 10 rfl rfl rfl (wo_storeB (i := 0) (us := [_, _]) (l' := [_, _]) (H' := [_, _, _, _]) rfl rfl S6 rfl rfl rfl rfl sz190 rfl rfl rfl rfl ?_)
 intro w7 S7; clear S6
 refine wl_end rfl (nmk [0, 4, 6] rfl (nm_thn (ws_seqN Left_n7 Left_n8 rfl rfl rfl (ws_draw rfl (by kernel_rfl) S7 17 rfl ?_))))
 clear S7
 refine wap 0 16 rfl (by kernel_rfl) rfl rfl rfl (fun w8 => run_move rfl rfl) ?_
 refine wat 1 15 rfl (by kernel_rfl) rfl rfl rfl (fun M2 N2 w9 hle2 S9 => .inl (run_loadN (us := [_, _]) rfl rfl Tryz.underlying190 rfl sz190 (S9.suf.boxcs (i := 0) rfl ⟨rfl, rfl, trivial⟩))) ?_
 refine wat 2 14 rfl (by kernel_rfl) rfl rfl rfl (fun M3 N3 w10 hle3 S10 => yield_cq rfl rfl rfl rfl rfl cf129 S10 (At_q d ((endOf d x.a x.b).1) (((endOf d x.a x.b).2 + 3) % 4) ((hsb.mono (Hp.un_mono hle3 S10.mx)).mono S10.un_XH) ((hsc.mono (Hp.un_mono hle3 S10.mx)).mono S10.un_XH) ((hsi.mono (Hp.un_mono hle3 S10.mx)).mono S10.un_XH) ((hso.mono (Hp.un_mono hle3 S10.mx)).mono S10.un_XH) (by omega) (by omega) S10.lend)) ?_
 refine wap 3 13 rfl (by kernel_rfl) rfl rfl rfl (fun w11 => run_move rfl rfl) ?_
 refine wap 4 12 rfl (by kernel_rfl) rfl rfl rfl (fun w12 => run_nilCheck rfl rfl) ?_
 refine wap 5 11 rfl (by kernel_rfl) rfl rfl rfl (fun w13 => run_fieldAddr rfl rfl Tryz.underlying70 rfl (ce24) (nf24)) ?_
 refine wap 6 10 rfl (by kernel_rfl) rfl rfl rfl (fun w14 => run_fieldAddr rfl rfl Tryz.underlying24 rfl (ce22) (nf22)) ?_
 refine wat 7 9 rfl (by kernel_rfl) rfl rfl rfl (fun M8 N8 w15 hle8 S15 => .inl (run_load1 rfl rfl Tryz.underlying22 rfl ((hsb.mono (Hp.un_mono hle8 S15.mx)).cell S15.um rfl))) ?_
 refine wap 8 8 rfl (by kernel_rfl) rfl rfl rfl (fun w16 => run_fieldAddr rfl rfl Tryz.underlying190 rfl (ce3) (nf3)) ?_
 refine wat 9 7 rfl (by kernel_rfl) rfl rfl rfl (fun M10 N10 w17 hle10 S17 => .inl (run_load1 rfl rfl Tryz.underlying3 rfl (S17.suf.boxc (i := 0) rfl rfl))) ?_
 refine wat 10 6 rfl (by kernel_rfl) rfl rfl rfl (fun M11 N11 w18 hle11 S18 => .inl (run_indexM (C := cdCr) ((endOf d x.a x.b).1) rfl rfl rfl sl22 (by first | rfl | omega) (hsc.mono (Hp.un_mono hle11 S18.mx)) (by first | omega | (simp only [lens]; omega)))) ?_
 refine wat 11 5 rfl (by kernel_rfl) rfl rfl rfl (fun M12 N12 w19 hle12 S19 => .inl (run_loadN (us := [_, _, _, _, _]) rfl rfl Tryz.underlying77 rfl sz77 ((hsc.mono (Hp.un_mono hle12 S19.mx)).cellsAt S19.um (e := (endOf d x.a x.b).1) (by first | omega | (simp only [lens]; omega)) (j := 0) ⟨rfl, rfl, rfl, rfl, rfl, trivial⟩))) ?_
 refine wap 12 4 rfl (by kernel_rfl) rfl rfl rfl (fun w20 => run_fieldAddr rfl rfl Tryz.underlying190 rfl (ce3) (nf3)) ?_
 refine wat 13 3 rfl (by kernel_rfl) rfl rfl rfl (fun M14 N14 w21 hle14 S21 => .inl (run_load1 rfl rfl Tryz.underlying3 rfl (S21.suf.boxc (i := 0) rfl rfl))) ?_
 refine wat 14 2 rfl (by kernel_rfl) rfl rfl rfl (fun M15 N15 w22 hle15 S22 => yield_cq rfl rfl rfl rfl rfl cf133 S22 (Comes_q (ga d.crs ((endOf d x.a x.b).1)) (((endOf d x.a x.b).2 + 3) % 4) (by omega) S22.lend)) ?_
 refine wat 15 1 rfl (by kernel_rfl) rfl rfl rfl (fun M16 N16 w23 hle16 S23 => .inl (run_build (l := [_, _]) rfl rfl st26 rfl rfl)) ?_
 refine wa_only (i := 16) 0 rfl (by kernel_rfl) rfl rfl (fun w25 S25 => ?_)
 refine (wo_storeB (i := 2) (us := [_, _]) (l' := [_, _]) (H' := [_, _, _, _]) rfl rfl S25 rfl rfl rfl rfl sz26 rfl rfl rfl rfl ?_)
 intro w26 S26; clear S25
 refine LeftW.turn (by kernel_rfl) S26 ?_; clear S26
 change WA _ _ _ _ _ _ _ _ _ _ _ _ [_, _, _, _]
 refine wa_end (by kernel_rfl) (fun w27 S27 => ?_)
 refine nmk [4] rfl (nm_thn (ws_ret hC [_] rfl rfl ⟨⟨_, rfl, loadVarN (us := [_, _]) Tryz.underlying26 rfl sz26 (S27.boxcs (i := 2) rfl ⟨rfl, rfl, trivial⟩)⟩, trivial⟩ ?_))
 exact ⟨_, rfl, (S27.pick [] [] (by decide) trivial), rfl⟩
noncomputable def Other_n0 : Code := Tryz.f163.body.getD .skip
noncomputable def Other_n1 : Code := cL Other_n0
noncomputable def Other_n2 : Code := cR Other_n0
noncomputable def Other_n3 : Code := cL Other_n2
noncomputable def Other_n4 : Code := cR Other_n2
noncomputable def Other_n5 : Code := cL Other_n4
noncomputable def Other_n6 : Code := cR Other_n4
noncomputable def Other_n7 : Code := cL Other_n5
noncomputable def Other_n8 : Code := cR Other_n5
noncomputable def Other_n9 : Code := cL Other_n8
noncomputable def Other_n10 : Code := cR Other_n8
noncomputable def Other_n11 : Code := cL Other_n9
noncomputable def Other_n12 : Code := cR Other_n9
noncomputable def Other_n13 : Code := cL Other_n6
noncomputable def Other_n14 : Code := cR Other_n6
set_option maxRecDepth 10000 in
theorem Other_q {w : World} {M : Hp} {X : Fr} (d : Dg) {gsh : Nat} {cA iA oA : Option Addr} {cc ic oc : Nat} (c k : Nat) (hsb : BxM (M.un X.h) gsh 70 [.slice cA d.crs.length cc, .int .i64 d.loops, .slice iA (tabL d false (4 * d.crs.length)).length ic, .slice oA (tabL d true (4 * d.crs.length)).length oc]) (hsc : RdA cdCr (M.un X.h) cA cc d.crs) (hsi : RdA cdPl (M.un X.h) iA ic (tabL d false (4 * d.crs.length))) (hso : RdA cdPl (M.un X.h) oA oc (tabL d true (4 * d.crs.length))) (hn : d.crs.length ≤ 16) (hab : arcsB d = true) (hc : c < d.crs.length) (hk : k < 4) (S : SH w M X []) : Cq Tryz.prog 163 [.pointer (some ⟨gsh, 0, none⟩), .agg [.int .i64 (c : Int), .int .i64 (k : Int)].toArray] w M X (fun u => u = .agg (plF (endOf d (arcAt d c k) (entryB d c k))).toArray) := by
 unfold Cq
 have hx := arcAt_bd hab hc hk
 have hx1 := hx.1
 have hx2 := hx.2
 obtain ⟨hE1, hE2, hE3, hE4, hE5⟩ := endD hab hx (entryB d c k)
 have htl : ∀ b, (tabL d b (4 * d.crs.length)).length = 2 * d.crs.length + 1 := fun b => tabL_len d b _
 have htf := htl false
 have htt := htl true
 refine calls_in (b := Other_n0) Tryz.func163 rfl Tryz.ntmps163 rfl (fun C hC => (ws_sub [(0, _), (1, _)] ⟨rfl, rfl, trivial⟩ (ws_seqN Other_n1 Other_n2 rfl rfl rfl (ws_region rfl (wlo 0 1 rfl rfl rfl (wo_box (l := [_, _]) rfl rfl rfl rfl rfl S ?_))))))
 intro gb1 w1 S1; clear S
 refine wlo 1 2 rfl rfl rfl (wo_alloc (l := [_, _]) rfl rfl rfl zr190 rfl S1 ?_)
 intro gb2 w2 S2; clear S1
 refine wl_end rfl (nmk [0, 3, 4] rfl (nm_thn (ws_seqN Other_n3 Other_n4 rfl rfl rfl (ws_region rfl (wlm 0 1 rfl rfl rfl rfl rfl rfl rfl (wlo 1 2 rfl rfl rfl (wo_run rfl rfl (run_loadN (us := [_, _]) rfl rfl Tryz.underlying190 rfl sz190 (S2.boxcs (i := 1) rfl ⟨rfl, rfl, trivial⟩)) (wlo 2 3 rfl rfl rfl (wo_cq rfl rfl rfl rfl rfl rfl rfl cf129 S2 (At_q d c k (hsb.mono S2.un_XH) (hsc.mono S2.un_XH) (hsi.mono S2.un_XH) (hso.mono S2.un_XH) (by omega) (by omega) S2.lend) ?_)))))))))
 rintro _ w3 S3 rfl; clear S2
 refine wla 3 4 rfl rfl rfl rfl rfl rfl rfl (wl_end rfl (nmk [0, 3, 4, 5] rfl (nm_thn (ws_seqN Other_n5 Other_n6 rfl rfl rfl (ws_seqN Other_n7 Other_n8 rfl rfl rfl (ws_draw rfl (by kernel_rfl) S3 12 rfl ?_))))))
 clear S3
 refine wap 0 11 rfl (by kernel_rfl) rfl rfl rfl (fun w4 => run_move rfl rfl) ?_
 refine wap 1 10 rfl (by kernel_rfl) rfl rfl rfl (fun w5 => run_nilCheck rfl rfl) ?_
 refine wap 2 9 rfl (by kernel_rfl) rfl rfl rfl (fun w6 => run_fieldAddr rfl rfl Tryz.underlying70 rfl (ce24) (nf24)) ?_
 refine wap 3 8 rfl (by kernel_rfl) rfl rfl rfl (fun w7 => run_fieldAddr rfl rfl Tryz.underlying24 rfl (ce22) (nf22)) ?_
 refine wat 4 7 rfl (by kernel_rfl) rfl rfl rfl (fun M5 N5 w8 hle5 S8 => .inl (run_load1 rfl rfl Tryz.underlying22 rfl ((hsb.mono (Hp.un_mono hle5 S8.mx)).cell S8.um rfl))) ?_
 refine wap 5 6 rfl (by kernel_rfl) rfl rfl rfl (fun w9 => run_fieldAddr rfl rfl Tryz.underlying190 rfl (ce3) (nf3)) ?_
 refine wat 6 5 rfl (by kernel_rfl) rfl rfl rfl (fun M7 N7 w10 hle7 S10 => .inl (run_load1 rfl rfl Tryz.underlying3 rfl (S10.suf.boxc (i := 1) rfl rfl))) ?_
 refine wat 7 4 rfl (by kernel_rfl) rfl rfl rfl (fun M8 N8 w11 hle8 S11 => .inl (run_indexM (C := cdCr) c rfl rfl rfl sl22 (by first | rfl | omega) (hsc.mono (Hp.un_mono hle8 S11.mx)) (by first | omega | (simp only [lens]; omega)))) ?_
 refine wat 8 3 rfl (by kernel_rfl) rfl rfl rfl (fun M9 N9 w12 hle9 S12 => .inl (run_loadN (us := [_, _, _, _, _]) rfl rfl Tryz.underlying77 rfl sz77 ((hsc.mono (Hp.un_mono hle9 S12.mx)).cellsAt S12.um (e := c) (by first | omega | (simp only [lens]; omega)) (j := 0) ⟨rfl, rfl, rfl, rfl, rfl, trivial⟩))) ?_
 refine wap 9 2 rfl (by kernel_rfl) rfl rfl rfl (fun w13 => run_fieldAddr rfl rfl Tryz.underlying190 rfl (ce3) (nf3)) ?_
 refine wat 10 1 rfl (by kernel_rfl) rfl rfl rfl (fun M11 N11 w14 hle11 S14 => .inl (run_load1 rfl rfl Tryz.underlying3 rfl (S14.suf.boxc (i := 1) rfl rfl))) ?_
 refine wat 11 0 rfl (by kernel_rfl) rfl rfl rfl (fun M12 N12 w15 hle12 S15 => yield_cq rfl rfl rfl rfl rfl cf133 S15 (Comes_q (ga d.crs c) k (by omega) S15.lend)) ?_
 refine wa_end (by kernel_rfl) (fun w16 S16 => ?_)
 refine nmk [0, 4, 5, 20] rfl (nm_thn ?_)
 refine ws_condN Other_n9 Other_n10 rfl rfl rfl rfl (fun hb20 => ?_) (fun hb20 => ?_)
 ·refine ws_seqN Other_n11 Other_n12 rfl rfl rfl (ws_region rfl (wlm 0 1 rfl rfl rfl rfl rfl rfl rfl (wlo 1 2 rfl rfl rfl (wo_run rfl rfl (run_nilCheck rfl rfl) (wlo 2 3 rfl rfl rfl (wo_run rfl rfl (run_fieldAddr rfl rfl Tryz.underlying70 rfl (ce68) (nf68)) (wlo 3 4 rfl rfl rfl (wo_run rfl rfl (run_load1 rfl rfl Tryz.underlying68 rfl (hsb.cell S16.um rfl)) (wlm 4 5 rfl rfl rfl rfl rfl rfl rfl (wlo 5 6 rfl rfl rfl (wo_run rfl rfl (run_indexM (C := cdPl) ((arcAt d c k).toNat) rfl rfl rfl sl68 (by first | rfl | omega) hso (by first | omega | (simp only [lens]; omega))) ?_)))))))))))
  refine wlo 6 7 rfl rfl rfl (wo_run rfl rfl (run_loadN (us := [_, _]) rfl rfl Tryz.underlying190 rfl sz190 (hso.cellsAt S16.um (e := (arcAt d c k).toNat) (by first | omega | (simp only [lens]; omega)) (j := 0) ⟨rfl, rfl, trivial⟩)) ?_)
  refine wlo 7 8 rfl rfl rfl (wo_storeB (i := 0) (us := [_, _]) (l' := [_, _]) (H' := [_, _]) rfl rfl S16 rfl rfl rfl rfl sz190 rfl rfl rfl rfl ?_)
  intro w17 S17; clear S16
  refine wl_end rfl (nmk [4] rfl (nm_thn (ws_ret hC [_] rfl rfl ⟨⟨_, rfl, loadVarN (us := [_, _]) Tryz.underlying190 rfl sz190 (S17.boxcs (i := 0) rfl ⟨rfl, rfl, trivial⟩)⟩, trivial⟩ ?_)))
  exact ⟨_, rfl, (S17.pick [] [] (by decide) trivial), (by have hb9 : entryB d c k = _ := hb20; rw [hb9] at hE3 ⊢; show Value.agg (plF (ga (tabL d _ (4 * d.crs.length)) (arcAt d c k).toNat)).toArray = _; rw [hE3])⟩
 ·refine ws_skip rfl (nmk [0, 4, 5] rfl (nm_thn (ws_seqN Other_n13 Other_n14 rfl rfl rfl (ws_region rfl (wlm 0 1 rfl rfl rfl rfl rfl rfl rfl (wlo 1 2 rfl rfl rfl (wo_run rfl rfl (run_nilCheck rfl rfl) (wlo 2 3 rfl rfl rfl (wo_run rfl rfl (run_fieldAddr rfl rfl Tryz.underlying70 rfl (ce68) (nf68)) (wlo 3 4 rfl rfl rfl (wo_run rfl rfl (run_load1 rfl rfl Tryz.underlying68 rfl (hsb.cell S16.um rfl)) ?_)))))))))))
  refine wlm 4 5 rfl rfl rfl rfl rfl rfl rfl (wlo 5 6 rfl rfl rfl (wo_run rfl rfl (run_indexM (C := cdPl) ((arcAt d c k).toNat) rfl rfl rfl sl68 (by first | rfl | omega) hsi (by first | omega | (simp only [lens]; omega))) ?_))
  refine wlo 6 7 rfl rfl rfl (wo_run rfl rfl (run_loadN (us := [_, _]) rfl rfl Tryz.underlying190 rfl sz190 (hsi.cellsAt S16.um (e := (arcAt d c k).toNat) (by first | omega | (simp only [lens]; omega)) (j := 0) ⟨rfl, rfl, trivial⟩)) ?_)
  refine wlo 7 8 rfl rfl rfl (wo_storeB (i := 0) (us := [_, _]) (l' := [_, _]) (H' := [_, _]) rfl rfl S16 rfl rfl rfl rfl sz190 rfl rfl rfl rfl ?_)
  intro w18 S18; clear S16
  refine wl_end rfl (nmk [4] rfl (nm_thn (ws_ret hC [_] rfl rfl ⟨⟨_, rfl, loadVarN (us := [_, _]) Tryz.underlying190 rfl sz190 (S18.boxcs (i := 0) rfl ⟨rfl, rfl, trivial⟩)⟩, trivial⟩ ?_)))
  exact ⟨_, rfl, (S18.pick [] [] (by decide) trivial), (by have hb9 : entryB d c k = _ := hb20; rw [hb9] at hE3 ⊢; show Value.agg (plF (ga (tabL d _ (4 * d.crs.length)) (arcAt d c k).toNat)).toArray = _; rw [hE3])⟩
end Go.Proofs.YthppkofceancjaaGreat
namespace Go.Proofs.YthppkofceancjaaGreat
open Go.ChangeShapes Go.WideShapes Go.ChangeAt Go.RowKit
theorem SH.pubB {w : World} {M : Hp} {X : Fr} {H H' : List Rs} {i g : Nat} {T : TypeId} {l : List Value} (S : SH w M X H) (hi : nth H i = some (Rs.box g T l)) (hH : H.set i Rs.emp = H') : ∃ M', M.le M' ∧ SH w M' X H' ∧ BxM M' g T l := by
 obtain ⟨h1, h2, h3⟩ := S.pub hi hH
 refine ⟨_, h1, h2, ?_⟩
 show (M.put w _) g = _
 rw [h3 g (by simp [Rs.box])]
 exact S.get hi
theorem mk26 : MapK Tryz.prog 26 (fun x => Value.agg (cdDa.f x).toArray) := mapK_st se26 (fun x y => ⟨x.a = y.a ∧ x.b = y.b, ⟨_, _, _, _, rfl, rfl, ⟨_, _, rfl, rfl, rfl⟩, rfl⟩, ⟨fun h => by cases x; cases y; simp at h; simp [h], fun h => by rw [h]; exact ⟨rfl, rfl⟩⟩⟩) (fun k => by simp [Instr.sameBits, cdDa, daF])
/-- The k-th dart. -/
def dA (c : Nat) : Da := ⟨((c / 2 : Nat) : Int), decide (c % 2 = 1)⟩
def dartN (k : Nat) : Da := dA (k + 2)
def encD (k : Nat) : Value := .agg (daF (dartN k)).toArray
def DartsR (g : Nat) (u : Value) (M : Hp) : Prop := ∃ b, u = .func (.func 164) #[] [.pointer (some ⟨b, 0, none⟩)].toArray ∧ BxM M b 64 [.pointer (some ⟨g, 0, none⟩)]
theorem dart_eq (a i : Nat) (hi : i < 2) : (Value.agg [.int .i64 ((a : Int) + 1), .bool (ga [false, true] i)].toArray) = encD (2 * a + i) := by
 have e : i = 0 ∨ i = 1 := by omega
 unfold encD dartN dA
 rcases e with rfl | rfl
 ·rw [show (2 * a + 0 + 2) / 2 = a + 1 by omega, show (2 * a + 0 + 2) % 2 = 0 by omega]; rfl
 ·rw [show (2 * a + 1 + 2) / 2 = a + 1 by omega, show (2 * a + 1 + 2) % 2 = 1 by omega]; rfl
noncomputable def Darts_n0 : Code := Tryz.f107.body.getD .skip
noncomputable def Darts_n1 : Code := cL Darts_n0
noncomputable def Darts_n2 : Code := cR Darts_n0
noncomputable def Darts_n3 : Code := cL Darts_n2
noncomputable def Darts_n4 : Code := cR Darts_n2
set_option maxRecDepth 10000 in
theorem Darts_t {w : World} {M : Hp} {X : Fr} (d : Dg) {gsh : Nat} {cA iA oA : Option Addr} {cc ic oc : Nat} (hsb : BxM M gsh 70 [.slice cA d.crs.length cc, .int .i64 d.loops, .slice iA (tabL d false (4 * d.crs.length)).length ic, .slice oA (tabL d true (4 * d.crs.length)).length oc]) (hsc : RdA cdCr M cA cc d.crs) (hsi : RdA cdPl M iA ic (tabL d false (4 * d.crs.length))) (hso : RdA cdPl M oA oc (tabL d true (4 * d.crs.length))) (S : SH w M X []) : Ct Tryz.prog 107 [.pointer (some ⟨gsh, 0, none⟩)] w M X (DartsR gsh) := by
 unfold Ct
 refine calls_in (b := Darts_n0) Tryz.func107 rfl Tryz.ntmps107 rfl (fun C hC => ?_)
 refine ws_sub [(0, _)] ⟨rfl, trivial⟩ ?_
 refine ws_seqN Darts_n1 Darts_n2 rfl rfl rfl ?_
 refine ws_region rfl ?_
 refine wl_op (k := 0) (k' := 1) rfl rfl rfl (wo_box (l := [_]) rfl rfl rfl rfl rfl S ?_)
 intro gb1 w1 S1; clear S
 refine wl_op (k := 1) (k' := 2) rfl rfl rfl (wo_run rfl rfl (run_assign rfl rfl) ?_)
 refine wl_end rfl ?_
 refine nm_sub [(1, _)] ⟨rfl, trivial⟩ ?_
 refine nm_thn ?_
 refine ws_seqN Darts_n3 Darts_n4 rfl rfl rfl ?_
 refine ws_region rfl ?_
 refine wl_op (k := 0) (k' := 1) rfl rfl rfl (wo_run rfl rfl (run_makeFunc (vs := [_]) rfl rfl rfl rfl) ?_)
 refine wl_op (k := 1) (k' := 2) rfl rfl rfl (wo_run rfl rfl (run_assign rfl rfl) ?_)
 refine wl_end rfl ?_
 refine nm_sub [(2, _)] ⟨rfl, trivial⟩ ?_
 refine nm_thn ?_
 obtain ⟨M1, hle1, S2, hbx1⟩ := S1.pubB (i := 0) (H' := [_]) rfl rfl
 clear S1
 replace hsb := hsb.mono hle1
 replace hsc := hsc.mono hle1
 replace hsi := hsi.mono hle1
 replace hso := hso.mono hle1
 refine ws_ret hC [_] rfl rfl ⟨rfl, trivial⟩ ?_
 refine ⟨_, rfl, _, hle1, (S2.pick [] [] (by decide) trivial), ?_⟩
 exact ⟨_, rfl, hbx1⟩
namespace InF
noncomputable def Darts1_n0 : Code := Tryz.f164.body.getD .skip
noncomputable def Darts1_n1 : Code := cL Darts1_n0
noncomputable def Darts1_n2 : Code := cR Darts1_n0
noncomputable def Darts1_n3 : Code := cL Darts1_n2
noncomputable def Darts1_n4 : Code := cL Darts1_n3
noncomputable def Darts1_n5 : Code := cL Darts1_n4
noncomputable def Darts1_n6 : Code := cR Darts1_n4
noncomputable def Darts1_n7 : Code := cL Darts1_n5
noncomputable def Darts1_n8 : Code := cR Darts1_n5
noncomputable def Darts1_n9 : Code := cL Darts1_n8
noncomputable def Darts1_n10 : Code := cR Darts1_n8
noncomputable def Darts1_n11 : Code := cL Darts1_n6
noncomputable def Darts1_n12 : Code := cR Darts1_n6
noncomputable def Darts1_n13 : Code := cL Darts1_n11
noncomputable def Darts1_n14 : Code := cL Darts1_n13
noncomputable def Darts1_n15 : Code := cR Darts1_n13
noncomputable def Darts1_n16 : Code := cL Darts1_n15
noncomputable def Darts1_n17 : Code := cL Darts1_n16
noncomputable def Darts1_n18 : Code := cL Darts1_n17
noncomputable def Darts1_n19 : Code := cR Darts1_n17
noncomputable def Darts1_n20 : Code := cL Darts1_n19
noncomputable def Darts1_n21 : Code := cR Darts1_n19
noncomputable def Darts1_n22 : Code := cL Darts1_n20
noncomputable def Darts1_n23 : Code := cR Darts1_n20
noncomputable def Darts1_n24 : Code := cL Darts1_n21
noncomputable def Darts1_n25 : Code := cR Darts1_n21
noncomputable def Darts1_n26 : Code := cL Darts1_n24
noncomputable def Darts1_n27 : Code := cL Darts1_n26
noncomputable def Darts1_n28 : Code := cR Darts1_n26
noncomputable def Darts1_n29 : Code := cL Darts1_n28
noncomputable def Darts1_n30 : Code := cR Darts1_n28
noncomputable def Darts1_n32 : Code := cR Darts1_n30
set_option maxRecDepth 10000 in
theorem Darts1_iter {M : Hp} {X : Fr} (d : Dg) {gsh : Nat} {cA iA oA : Option Addr} {cc ic oc : Nat} {b : Nat} (hsb : BxM M gsh 70 [.slice cA d.crs.length cc, .int .i64 d.loops, .slice iA (tabL d false (4 * d.crs.length)).length ic, .slice oA (tabL d true (4 * d.crs.length)).length oc]) (hsc : RdA cdCr M cA cc d.crs) (hsi : RdA cdPl M iA ic (tabL d false (4 * d.crs.length))) (hso : RdA cdPl M oA oc (tabL d true (4 * d.crs.length))) (hbx : BxM M b 64 [.pointer (some ⟨gsh, 0, none⟩)]) (hn : d.crs.length ≤ 16) : Iter Tryz.prog 164 [.pointer (some ⟨b, 0, none⟩)] encD (4 * d.crs.length) M X := by
 intro l J w M1 B hle0 hY S hJ0
 replace hsb := hsb.mono hle0
 replace hsc := hsc.mono hle0
 replace hsi := hsi.mono hle0
 replace hso := hso.mono hle0
 replace hbx := hbx.mono hle0
 refine calls_in (b := Darts1_n0) Tryz.func164 rfl Tryz.ntmps164 rfl (fun C hCr hC => ?_)
 have hCF : C.F = Fence.wide := by unfold Ctx.F; rw [hCr]
 refine ws_sub [(0, _), (1, _)] ⟨rfl, rfl, trivial⟩ ?_
 refine ws_seqN Darts1_n1 Darts1_n2 rfl rfl rfl ?_
 refine ws_region rfl ?_
 refine wl_op (k := 0) (k' := 1) rfl rfl rfl (wo_run rfl rfl (run_assign rfl rfl) ?_)
 refine wl_end rfl ?_
 refine nm_thn ?_
 refine ws_blockN Darts1_n3 0 rfl rfl rfl ?_
 refine ws_loopE (fun mx_ ax_ wx_ => ∃ (a : Nat) (B1 : Rs) (M2 : Hp), M1.le M2 ∧ mx_ = 2 * d.crs.length - a ∧ Env 23 [(0, .func (.yield l) #[] #[]), (1, .pointer (some ⟨b, 0, none⟩)), (3, .int .i64 ((a : Int) + 1))] ax_ ∧ SH wx_ M2 X [B1] ∧ a ≤ 2 * d.crs.length ∧ J (2 * a) M2 B1) rfl ?_ ?_
 ·intro ax_ hax_
  refine ⟨_, ⟨0, _, _, Hp.le_refl _, rfl, hax_.sub ⟨rfl, rfl, rfl, trivial⟩, S.pick [0] [_] (by decide) ⟨rfl, trivial⟩, ?hq1f0, ?hq1f1⟩⟩
  case hq1f0 => omega
  case hq1f1 => exact hJ0
 ·rintro m1 a1 w1 ⟨a, B1, M2, hle1, rfl, he1, S1, ha, hJa⟩
  clear S
  refine ws_in he1 (c := Darts1_n4) rfl ?_
  clear he1 a1
  replace hsb := hsb.mono hle1
  replace hsc := hsc.mono hle1
  replace hsi := hsi.mono hle1
  replace hso := hso.mono hle1
  replace hbx := hbx.mono hle1
  refine ws_seqN Darts1_n5 Darts1_n6 rfl rfl rfl ?_
  refine ws_seqN Darts1_n7 Darts1_n8 rfl rfl rfl ?_
  refine ws_region rfl ?_
  refine wl_op (k := 0) (k' := 1) rfl rfl rfl (wo_run rfl rfl (run_move rfl rfl) ?_)
  refine wl_op (k := 1) (k' := 2) rfl rfl rfl (wo_run rfl rfl (run_load1 rfl rfl Tryz.underlying64 rfl (hbx.cell S1.m rfl)) ?_)
  refine wl_op (k := 2) (k' := 3) rfl rfl rfl (wo_cq rfl rfl rfl rfl rfl rfl rfl cf111 S1 (Arcs_q d  (hsb.mono (Hp.le_un _ _)) (hsc.mono (Hp.le_un _ _)) (hsi.mono (Hp.le_un _ _)) (hso.mono (Hp.le_un _ _)) (by omega) S1.lend) ?_)
  rintro _ w2 S2 rfl; clear S1
  refine wl_op (k := 3) (k' := 4) rfl rfl rfl (wo_run rfl rfl (run_leq rfl rfl rfl) ?_)
  refine wl_end rfl ?_
  refine nm_sub [(0, _), (1, _), (3, _), (9, _)] ⟨rfl, rfl, rfl, rfl, trivial⟩ ?_
  refine nm_thn ?_
  refine ws_condN Darts1_n9 Darts1_n10 rfl rfl rfl rfl (fun hb9 => ?_) (fun hb9 => ?_)
  ·replace hb9 := of_decide_eq_true hb9
   refine ws_skip rfl ?_
   refine nm_sub [(0, _), (1, _), (3, _)] ⟨rfl, rfl, rfl, trivial⟩ ?_
   refine nm_thn ?_
   refine ws_seqN Darts1_n11 Darts1_n12 rfl rfl rfl ?_
   refine ws_blockN Darts1_n13 1 rfl rfl rfl ?_
   refine ws_seqN Darts1_n14 Darts1_n15 rfl rfl rfl ?_
   refine ws_region rfl ?_
   refine wl_op (k := 0) (k' := 1) rfl rfl rfl (wo_run rfl rfl (run_buildA (l := [_, _]) (pl := [(0, 1), (1, 1)]) rfl rfl Tryz.underlying249 zr249 sz4 rfl rfl rfl) ?_)
   refine wl_op (k := 1) (k' := 2) rfl rfl rfl (wo_run rfl rfl (run_move rfl rfl) ?_)
   refine wl_end rfl ?_
   refine nm_thn ?_
   refine ws_blockN Darts1_n16 2 rfl rfl rfl ?_
   refine ws_loopE (fun mx_ ax_ wx_ => ∃ (i : Nat) (B2 : Rs) (M3 : Hp), M2.le M3 ∧ mx_ = 2 - i ∧ Env 23 [(0, .func (.yield l) #[] #[]), (1, .pointer (some ⟨b, 0, none⟩)), (3, .int .i64 ((a : Int) + 1)), (12, .agg [.bool false, .bool true].toArray), (13, .int .i64 (i : Int))] ax_ ∧ SH wx_ M3 X [B2] ∧ i ≤ 2 ∧ J (2 * a + i) M3 B2) rfl ?_ ?_
   ·intro ax_ hax_
    refine ⟨_, ⟨0, _, _, Hp.le_refl _, rfl, hax_.sub ⟨rfl, rfl, rfl, rfl, rfl, trivial⟩, S2.pick [0] [_] (by decide) ⟨rfl, trivial⟩, ?hq2f0, ?hq2f1⟩⟩
    case hq2f0 => omega
    case hq2f1 => exact hJa
   ·rintro m2 a2 w3 ⟨i, B2, M3, hle2, rfl, he2, S3, hi, hJi⟩
    clear S2
    refine ws_in he2 (c := Darts1_n17) rfl ?_
    clear he2 a2
    replace hsb := hsb.mono hle2
    replace hsc := hsc.mono hle2
    replace hsi := hsi.mono hle2
    replace hso := hso.mono hle2
    replace hbx := hbx.mono hle2
    refine ws_seqN Darts1_n18 Darts1_n19 rfl rfl rfl ?_
    refine ws_region rfl ?_
    refine wl_op (k := 0) (k' := 1) rfl rfl rfl (wo_run rfl rfl (run_lss rfl rfl rfl) ?_)
    refine wl_end rfl ?_
    refine nm_thn ?_
    refine ws_seqN Darts1_n20 Darts1_n21 rfl rfl rfl ?_
    refine ws_condN Darts1_n22 Darts1_n23 rfl rfl rfl rfl (fun hb14 => ?_) (fun hb14 => ?_)
    ·replace hb14 := of_decide_eq_true hb14
     refine ws_skip rfl ?_
     refine nm_sub [(0, _), (1, _), (3, _), (12, _), (13, _)] ⟨rfl, rfl, rfl, rfl, rfl, trivial⟩ ?_
     refine nm_thn ?_
     refine ws_seqN Darts1_n24 Darts1_n25 rfl rfl rfl ?_
     refine ws_blockN Darts1_n26 3 rfl rfl rfl ?_
     refine ws_seqN Darts1_n27 Darts1_n28 rfl rfl rfl ?_
     refine ws_region rfl ?_
     refine wl_op (k := 0) (k' := 1) rfl rfl rfl (wo_run rfl rfl (run_index1 (e := i) rfl rfl rfl Tryz.underlying249 Tryz.underlying4 rfl sz4 (by first | rfl | omega) (by first | omega | (simp only [lens]; omega)) (nth_bv [false, true] i (by simp; first | omega | (simp only [lens]; omega)))) ?_)
     refine wl_op (k := 1) (k' := 2) rfl rfl rfl (wo_run rfl rfl (run_assign rfl rfl) ?_)
     refine wl_end rfl ?_
     refine nm_sub [(0, _), (1, _), (3, _), (12, _), (13, _), (5, _)] ⟨rfl, rfl, rfl, rfl, rfl, rfl, trivial⟩ ?_
     refine nm_thn ?_
     refine ws_seqN Darts1_n29 Darts1_n30 rfl rfl rfl ?_
     refine ws_region rfl ?_
     refine wl_op (k := 0) (k' := 1) rfl rfl rfl (wo_run rfl rfl (run_move rfl rfl) ?_)
     refine wl_op (k := 1) (k' := 2) rfl rfl rfl (wo_run rfl rfl (run_move rfl rfl) ?_)
     refine wl_op (k := 2) (k' := 3) rfl rfl rfl (wo_run rfl rfl (run_move rfl rfl) ?_)
     refine wl_op (k := 3) (k' := 4) rfl rfl rfl (wo_run rfl rfl (run_build (l := [_, _]) rfl rfl st26 rfl rfl) ?_)
     have hlt4 : 2 * a + i < 4 * d.crs.length := by omega
     refine wl_yield (k := 4) (k' := 5) rfl rfl rfl rfl rfl rfl rfl rfl rfl rfl (by rw [hCF]; have h9 := hY (2 * a + i) _ _ _ (by omega) (hle1.trans hle2) S3 hJi; rw [← dart_eq a i (by omega)] at h9; exact h9) ?_
     rintro _ w4 ⟨rfl, M4, B6, hle3, S4, hJ1⟩; clear S3
     replace hsb := hsb.mono hle3
     replace hsc := hsc.mono hle3
     replace hsi := hsi.mono hle3
     replace hso := hso.mono hle3
     replace hbx := hbx.mono hle3
     refine wl_op (k := 5) (k' := 6) rfl rfl rfl (wo_run rfl rfl (run_not rfl rfl) ?_)
     refine wl_end rfl ?_
     refine nm_sub [(0, _), (1, _), (3, _), (12, _), (13, _), (21, _)] ⟨rfl, rfl, rfl, rfl, rfl, rfl, trivial⟩ ?_
     refine nm_thn ?_
     refine ws_condFN Darts1_n32 rfl rfl rfl ?_
     refine ws_skip rfl ?_
     refine nm_blk ?_
     refine nm_sub [(0, _), (1, _), (3, _), (12, _), (13, _)] ⟨rfl, rfl, rfl, rfl, rfl, trivial⟩ ?_
     refine nm_thn ?_
     refine ws_region rfl ?_
     refine wl_op (k := 0) (k' := 1) rfl rfl rfl (wo_run rfl rfl (run_add rfl rfl rfl (by first | omega | (simp only [lens]; omega))) ?_)
     refine wl_op (k := 1) (k' := 2) rfl rfl rfl (wo_run rfl rfl (run_move rfl rfl) ?_)
     refine wl_end rfl ?_
     refine nm_lp ?_
     intro ax_ hax_
     refine ⟨_, ?hq3m, ⟨i + 1, _, _, (hle2.trans hle3), rfl, hax_.sub ⟨rfl, rfl, rfl, rfl, rfl, trivial⟩, S4.pick [0] [_] (by decide) ⟨rfl, trivial⟩, ?hq3f0, ?hq3f1⟩⟩
     case hq3f0 => omega
     case hq3f1 => first | assumption | (rw [show 2 * a + (i + 1) = 2 * a + i + 1 by omega]; assumption)
     case hq3m => omega
    ·replace hb14 := of_decide_eq_false hb14
     refine ws_exit rfl rfl ?_
     refine nm_blk ?_
     refine nm_sub [(0, _), (1, _), (3, _)] ⟨rfl, rfl, rfl, trivial⟩ ?_
     refine nm_thn ?_
     refine ws_region rfl ?_
     refine wl_op (k := 0) (k' := 1) rfl rfl rfl (wo_run rfl rfl (run_move rfl rfl) ?_)
     refine wl_op (k := 1) (k' := 2) rfl rfl rfl (wo_run rfl rfl (run_add rfl rfl rfl (by first | omega | (simp only [lens]; omega))) ?_)
     refine wl_op (k := 2) (k' := 3) rfl rfl rfl (wo_run rfl rfl (run_assign rfl rfl) ?_)
     refine wl_end rfl ?_
     refine nm_lp ?_
     intro ax_ hax_
     refine ⟨_, ?hq4m, ⟨a + 1, _, _, (hle1.trans hle2), rfl, hax_.sub ⟨rfl, rfl, rfl, trivial⟩, S3.pick [0] [_] (by decide) ⟨rfl, trivial⟩, ?hq4f0, ?hq4f1⟩⟩
     case hq4f0 => omega
     case hq4f1 => (rw [show 2 * (a + 1) = 2 * a + i by omega]; exact hJi)
     case hq4m => omega
  ·replace hb9 := of_decide_eq_false hb9
   refine ws_exit rfl rfl ?_
   refine nm_end hC [] rfl trivial ?_
   refine ⟨⟨_, rfl⟩, _, _, hle1, S2, ?_⟩
   rw [show 4 * d.crs.length = 2 * a by omega]
   exact hJa
end InF
end Go.Proofs.YthppkofceancjaaGreat
namespace Go.Proofs.YthppkofceancjaaGreat
open Go.RowKit
/-- Marks to come. -/
def free (seen : List Bool) : Nat := seen.countP (fun b => !b)
theorem free_set {seen : List Bool} {x : Nat} (h : x < seen.length) (hx : ga seen x = false) : free (seen.set x true) + 1 = free seen := by
  induction seen generalizing x with
  | nil => simp at h
  | cons b seen ih =>
    cases x with
    | zero =>
      have : b = false := by simpa [ga] using hx
      subst this
      simp [free]
    | succ x =>
      have h1 : ga (b :: seen) (x + 1) = ga seen x := by simp [ga]
      rw [h1] at hx
      have h2 := ih (by simpa using h) hx
      unfold free at *
      rw [List.set_cons_succ, List.countP_cons, List.countP_cons]
      omega
/-- One ring: on by nx until a mark is met. -/
def ringF (nx : Nat → Nat) (seen : List Bool) (x : Nat) (acc : List Int) : List Bool × List Int :=
  if _h : x < seen.length ∧ ga seen x = false then ringF nx (seen.set x true) (nx x) (acc ++ [(x : Int)]) else (seen, acc)
termination_by free seen
decreasing_by have := free_set _h.1 _h.2; omega
theorem ringF_go {nx : Nat → Nat} {seen : List Bool} {x : Nat} {acc : List Int} (h : x < seen.length) (hx : ga seen x = false) : ringF nx seen x acc = ringF nx (seen.set x true) (nx x) (acc ++ [(x : Int)]) := by
  rw [ringF]; simp [h, hx]
theorem ringF_stop {nx : Nat → Nat} {seen : List Bool} {x : Nat} {acc : List Int} (hx : ga seen x = true) : ringF nx seen x acc = (seen, acc) := by
  rw [ringF]; simp [hx]
theorem ringF_len (nx : Nat → Nat) (seen : List Bool) (x : Nat) (acc : List Int) : (ringF nx seen x acc).1.length = seen.length := by
  induction hk : free seen using Nat.strongRecOn generalizing seen x acc with
  | _ k ih =>
    by_cases h : x < seen.length ∧ ga seen x = false
    · rw [ringF_go h.1 h.2]
      have := free_set h.1 h.2
      rw [ih (free (seen.set x true)) (by omega) _ _ _ rfl, List.length_set]
    · rw [ringF]; simp [h]
/-- All rings, behind the first A arcs. -/
def ringsF (nx : Nat → Nat) (N : Nat) : Nat → List Bool × List (List Int)
  | 0 => (List.replicate N false, [])
  | A + 1 =>
    let s := ringsF nx N A
    if ga s.1 (A + 1) = true then s else ((ringF nx s.1 (A + 1) []).1, s.2 ++ [(ringF nx s.1 (A + 1) []).2])
theorem ringsF_len (nx : Nat → Nat) (N A : Nat) : (ringsF nx N A).1.length = N := by
  induction A with
  | zero => simp [ringsF]
  | succ A ih =>
    unfold ringsF
    dsimp only
    split
    · exact ih
    · rw [ringF_len]; exact ih
theorem ringsF_skip {nx : Nat → Nat} {N A : Nat} (h : ga (ringsF nx N A).1 (A + 1) = true) : ringsF nx N (A + 1) = ringsF nx N A := by
  show (if _ then _ else _) = _
  rw [if_pos h]
theorem ringsF_ring {nx : Nat → Nat} {N A : Nat} (h : ga (ringsF nx N A).1 (A + 1) = false) :
    ringsF nx N (A + 1) = ((ringF nx (ringsF nx N A).1 (A + 1) []).1, (ringsF nx N A).2 ++ [(ringF nx (ringsF nx N A).1 (A + 1) []).2]) := by
  show (if _ then _ else _) = _
  rw [if_neg (by simp [h])]
def nextN (d : Dg) (a : Nat) : Nat := (nextA d (a : Int)).toNat
theorem nextN_eq {d : Dg} (h : arcsB d = true) {a : Nat} (h0 : 1 ≤ a) (h1 : a ≤ 2 * d.crs.length) : nextA d (a : Int) = (nextN d a : Int) ∧ 1 ≤ nextN d a ∧ nextN d a ≤ 2 * d.crs.length := by
  obtain ⟨e1, e2, _⟩ := endOf_lt h h0 h1 false
  have hr := arcs_rng h (j := 4 * (endOf d a false).1 + ((endOf d a false).2 + 2) % 4) (by omega)
  have hj : arcJ d (4 * (endOf d a false).1 + ((endOf d a false).2 + 2) % 4) = nextA d a := by
    unfold arcJ nextA
    rw [show (4 * (endOf d (a : Int) false).1 + ((endOf d (a : Int) false).2 + 2) % 4) / 4 = (endOf d (a : Int) false).1 by omega, show (4 * (endOf d (a : Int) false).1 + ((endOf d (a : Int) false).2 + 2) % 4) % 4 = ((endOf d (a : Int) false).2 + 2) % 4 by omega]
  rw [hj] at hr
  unfold nextN
  omega
/-- The strands of a diagram. -/
def strandsL (d : Dg) : List (List Int) := (ringsF (nextN d) (2 * d.crs.length + 1) (2 * d.crs.length)).2
end Go.Proofs.YthppkofceancjaaGreat
