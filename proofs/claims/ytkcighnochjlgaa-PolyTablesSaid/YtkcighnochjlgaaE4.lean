/- Regions that draw their order: what yields one value whatever else has been done may be taken first. Nothing of one program stands here. -/
import Derived.Test.YtkcighnochjlgaaE3
import Derived.Test.YtkcighnochjlgaaR0
namespace Go.Proofs.Ytkcighnochjlgaa
open Go.ChangeShapes Go.WideShapes Go.ChangeAt Go.RowKit

section
variable {P : Program} {ops : Array Oper} {Q : Exit → Act → World → Prop} {md : Region.Mode} {X : Fr}

/-- What leaves memory alone and does not look at it; and what is never taken first. -/
def pureOp (ops : Array Oper) (k : Nat) : Bool := match ops[k]? with
  | some o => (match o.op with
    | .move _ => true
    | .assign _ => true
    | .pick _ _ _ => true
    | .binOp _ _ _ _ _ => true
    | .unOp _ _ _ => true
    | .field _ _ _ => true
    | .extract _ _ => true
    | .fieldAddr _ _ _ => true
    | .nilCheck _ => true
    | .alloc _ => true
    | .box _ _ => true
    | .store _ _ _ => true
    | .buildSlice _ _ _ => true
    | .makeSlice _ _ _ => true
    | _ => false)
  | none => false
/-- All that is listed comes before j, or is pure. -/
def closP (md : Region.Mode) (ops : Array Oper) (l : Array Bool) (j : Nat) : Bool := (List.range ops.size).all fun k => !l.getD k false || pureOp ops k || (allBefore md ops ops.size j).contains k
theorem closP_not {l : Array Bool} (hd : Down md ops l) {i j : Nat} (hj : j ∈ Region.ready md ops l) (hc : closP md ops (l.setIfInBounds i true) j = true) (hs : pureOp ops i = false) (hlt : i < ops.size) (hil : ¬ l.getD i false = true) (hsz : i < l.size) : False := by
  have := List.all_eq_true.1 hc i (by simpa using hlt)
  have e : (l.setIfInBounds i true).getD i false = true := by simp [Array.getD_eq_getD_getElem?, hsz]
  simp only [e, Bool.not_true, hs, Bool.false_or] at this
  exact hil (down_all hd ops.size j (ready_preds hj) i (List.contains_iff_mem.1 this))

/-- More lasts and more is owned. -/
def Grown (Mb : Hp) (Hb : List Rs) (M : Hp) (H : List Rs) : Prop := Mb.le M ∧ ∃ N, H = N ++ Hb
theorem Grown.refl (M : Hp) (H : List Rs) : Grown M H M H := ⟨Hp.le_refl _, [], rfl⟩
theorem Grown.trans {Ma Mb M : Hp} {Ha Hb H : List Rs} (h : Grown Ma Ha Mb Hb) (k : Grown Mb Hb M H) : Grown Ma Ha M H := by
  obtain ⟨h1, N, rfl⟩ := h
  obtain ⟨k1, N', rfl⟩ := k
  exact ⟨h1.trans k1, N' ++ N, by rw [List.append_assoc]⟩
/-- Any order; what lay at the base (Mb, Hb) stays, unless all that is listed comes before. -/
def AnyM (P : Program) (md : Region.Mode) (ops : Array Oper) (Q : Exit → Act → World → Prop) (X : Fr) : Nat → Array Bool → Act → Hp → List Rs → Hp → List Rs → Prop
  | 0, l, a, _, _, M, H => ∀ w, SH w M X H → Region.ready md ops l = [] ∧ Q .normal a w
  | f + 1, l, a, Mb, Hb, M, H => ∀ w, SH w M X H → Down md ops l → (Region.ready md ops l = [] → Q .normal a w) ∧
    ∀ j ∈ Region.ready md ops l, wpOp P ops Q j (fun a2 w2 => ∃ M2 H2, SH w2 M2 X H2 ∧
      ((Grown Mb Hb M2 H2 ∧ AnyM P md ops Q X f (l.setIfInBounds j true) a2 Mb Hb M2 H2) ∨ (closP md ops l j = true ∧ AnyM P md ops Q X f (l.setIfInBounds j true) a2 M2 H2 M2 H2))) a w
theorem AnyM.any : ∀ (f : Nat) (l : Array Bool) (a : Act) (Mb : Hp) (Hb : List Rs) (M : Hp) (H : List Rs) (w : World), SH w M X H → Down md ops l → AnyM P md ops Q X f l a Mb Hb M H → wpAny P md ops Q f l a w := by
  intro f
  induction f with
  | zero => intro l a Mb Hb M H w S _ h; exact h w S
  | succ f ih =>
    intro l a Mb Hb M H w S hd h
    obtain ⟨h0, h1⟩ := h w S hd
    refine ⟨h0, fun j hj => wpOp_mono (fun a2 w2 hc => ?_) (h1 j hj)⟩
    obtain ⟨M2, H2, S2, ⟨_, hc⟩ | ⟨_, hc⟩⟩ := hc
    · exact ih _ _ _ _ _ _ _ S2 (down_set hd hj) hc
    · exact ih _ _ _ _ _ _ _ S2 (down_set hd hj) hc
theorem AnyM.rebase : ∀ (f : Nat) (l : Array Bool) (a : Act) (Ma : Hp) (Ha : List Rs) (Mb : Hp) (Hb : List Rs) (M : Hp) (H : List Rs), Grown Ma Ha Mb Hb → AnyM P md ops Q X f l a Mb Hb M H → AnyM P md ops Q X f l a Ma Ha M H := by
  intro f
  induction f with
  | zero => intro l a Ma Ha Mb Hb M H _ h; exact h
  | succ f ih =>
    intro l a Ma Ha Mb Hb M H hg h w S hd
    obtain ⟨h0, h1⟩ := h w S hd
    refine ⟨h0, fun j hj => wpOp_mono (fun a2 w2 hc => ?_) (h1 j hj)⟩
    obtain ⟨M2, H2, S2, ⟨hg2, hc⟩ | ⟨h3, hc⟩⟩ := hc
    · exact ⟨M2, H2, S2, .inl ⟨hg.trans hg2, ih _ _ _ _ _ _ _ _ hg hc⟩⟩
    · exact ⟨M2, H2, S2, .inr ⟨h3, hc⟩⟩

/-- The operation yields v, however much more lasts or is owned. -/
def YieldM (P : Program) (ops : Array Oper) (X : Fr) (o : Oper) (v : Value) (a : Act) (M : Hp) (H : List Rs) : Prop :=
  (Region.wanted o (yielded ops a.tmps) = true ∧ ∀ M2 N w, M.le M2 → SH w M2 X (N ++ H) → match (execOp a.eval o).run P w with
    | .ok (.value u) w2 => u = v ∧ SH w2 M2 X (N ++ H)
    | .ok .skip w2 => v = undef ∧ SH w2 M2 X (N ++ H)
    | .ok (.enter f args) w2 => Calls P f args w2 fun e w3 => e = .returned v ∧ SH w3 M2 X (N ++ H)
    | .ok (.row row args) w2 => Rows P row args w2 fun u w3 => u = v ∧ SH w3 M2 X (N ++ H)
    | _ => False) ∨ (Region.wanted o (yielded ops a.tmps) = false ∧ v = undef)
theorem YieldM.later {o : Oper} {v : Value} {a : Act} {M M2 : Hp} {H N : List Rs} (h : YieldM P ops X o v a M H) (k : M.le M2) : YieldM P ops X o v a M2 (N ++ H) := by
  rcases h with ⟨h1, h2⟩ | h
  · refine .inl ⟨h1, fun M3 N3 w k3 S => ?_⟩
    have := h2 M3 (N3 ++ N) w (k.trans k3) (by rwa [List.append_assoc])
    rwa [List.append_assoc] at this
  · exact .inr h
theorem YieldM.of_same {o : Oper} {v : Value} {a b : Act} {M : Hp} {H : List Rs} (h : YieldM P ops X o v a M H) (he : execOp b.eval o = execOp a.eval o) (hw : Region.wanted o (yielded ops b.tmps) = Region.wanted o (yielded ops a.tmps)) : YieldM P ops X o v b M H := by
  unfold YieldM at *
  rw [he, hw]
  exact h
theorem YieldM.wpOp {i : Nat} {o : Oper} {v : Value} {a : Act} {Mb M : Hp} {Hb H : List Rs} {w : World} (S : SH w M X H) (hg : Grown Mb Hb M H) (hi : ops[i]? = some o) (hy : YieldM P ops X o v a Mb Hb) {K : Act → World → Prop} (h : ∀ w2, SH w2 M X H → K (a.put o.dst v) w2) : wpOp P ops Q i K a w := by
  obtain ⟨hle, N0, rfl⟩ := hg
  unfold Go.wpOp
  simp only [hi]
  rcases hy with ⟨hw, hv⟩ | ⟨hw, rfl⟩
  · simp only [hw, if_true]
    refine .inl ?_
    have h1 := hv M N0 w hle S
    unfold Oper.wp
    generalize (execOp a.eval o).run P w = r at *
    cases r with
    | ok n w' =>
      cases n <;> simp only [Oper.upon] at h1 ⊢
      case value u => rw [h1.1]; exact h _ h1.2
      case skip => rw [← h1.1]; exact h _ h1.2
      case row row args => exact Rows.mono h1 fun u w3 he => by rw [he.1]; exact h _ he.2
      case enter f args => exact Calls.mono h1 fun e w3 he => by rw [he.1]; exact h _ he.2
    | halt x w' => exact h1.elim
  · simp only [hw, Bool.false_eq_true, if_false]
    exact h _ S
/-- It yields v here; if it counts as pure, everywhere. -/
def YieldA (P : Program) (ops : Array Oper) (X : Fr) (i : Nat) (o : Oper) (v : Value) (a : Act) (M : Hp) (H : List Rs) : Prop :=
  YieldM P ops X o v a M H ∧ (pureOp ops i = true → ∀ M H, YieldM P ops X o v a M H)

theorem AnyM.first_ {i : Nat} {oi : Oper} {v : Value} (hi : ops[i]? = some oi) (hsel : ∀ (j : Nat) (o : Oper) cs b, ops[j]? = some o → o.op ≠ .select cs b) (hQ : ∀ c a w, Q (.panic c) (a.put oi.dst v) w → Q (.panic c) a w) :
    ∀ (f : Nat) (l : Array Bool) (a : Act) (Mb : Hp) (Hb : List Rs) (M : Hp) (H : List Rs),
      (∀ j oj, ops[j]? = some oj → j ≠ i → l.getD j true = false → (∀ e ∈ oj.after, Region.binds md e = true → e.on ≠ i) → oi.apart ops oj = true) →
      i ∈ Region.ready md ops l → Grown Mb Hb M H → YieldA P ops X i oi v a Mb Hb → AnyM P md ops Q X f (l.setIfInBounds i true) (a.put oi.dst v) Mb Hb M H → AnyM P md ops Q X (f + 1) l a Mb Hb M H := by
  intro f
  induction f with
  | zero =>
    intro l a Mb Hb M H _ hr hg hy hH w S hd
    refine ⟨fun h => (by rw [h] at hr; cases hr), fun j hj => ?_⟩
    by_cases hji : j = i
    · subst hji
      exact hy.1.wpOp S hg hi fun w2 S2 => ⟨M, H, S2, .inl ⟨hg, hH⟩⟩
    · have := ready_mono hj hji
      rw [(hH w S).1] at this
      cases this
  | succ f ih =>
    intro l a Mb Hb M H hfree hr hg hy hH w S hd
    refine ⟨fun h => (by rw [h] at hr; cases hr), fun j hj => ?_⟩
    by_cases hji : j = i
    · subst hji
      exact hy.1.wpOp S hg hi fun w2 S2 => ⟨M, H, S2, .inl ⟨hg, hH⟩⟩
    · have h1 := (hH w S (down_set hd hr)).2 j (ready_mono hj hji)
      obtain ⟨hjun, oj, hoj, hall⟩ := mem_ready.1 hj
      have hiun := (mem_ready.1 hr).1
      have hilt : i < ops.size := (Array.getElem?_eq_some_iff.1 hi).1
      have hisz : i < l.size := by
        rcases Nat.lt_or_ge i l.size with h' | h'
        · exact h'
        · simp [Array.getD_eq_getD_getElem?, Array.getElem?_eq_none h'] at hiun
      have hnl : ¬ l.getD i false = true := by
        intro h
        simp [hisz] at h hiun; rw [hiun] at h; cases h
      have hnot : ∀ e ∈ oj.after, Region.binds md e = true → e.on ≠ i := fun e he hb heq => hnl (by have h2 := hall e he hb; rw [heq] at h2; exact h2)
      have hap := hfree j oj hoj hji hjun hnot
      obtain ⟨p1, p2, p3⟩ := Oper.apart_spec hap
      have hfree' : ∀ k ok, ops[k]? = some ok → k ≠ i → (l.setIfInBounds j true).getD k true = false → (∀ e ∈ ok.after, Region.binds md e = true → e.on ≠ i) → oi.apart ops ok = true := fun k ok hk hki hun hno => by
        refine hfree k ok hk hki ?_ hno
        by_cases hjk : j = k
        · subst hjk; exact hjun
        · rw [getD_set_ne true hjk] at hun; exact hun
      have keep1 : ∀ (b : Act) (M : Hp) (H : List Rs), YieldM P ops X oi v b M H → ∀ u, YieldM P ops X oi v (b.put oj.dst u) M H := fun b M H hb u => hb.of_same (execOp_put oi (fun cs b => hsel i oi cs b hi) b oj.dst u p3) (wanted_put oi b oj.dst u p3)
      have keep : ∀ (b : Act), YieldA P ops X i oi v b Mb Hb → ∀ u, YieldA P ops X i oi v (b.put oj.dst u) Mb Hb := fun b hb u => ⟨keep1 b Mb Hb hb.1 u, fun hp M' H' => keep1 b M' H' (hb.2 hp M' H') u⟩
      have cont : ∀ (b : Act) (w2 : World), YieldA P ops X i oi v b Mb Hb → (∃ M2 H2, SH w2 M2 X H2 ∧ ((Grown Mb Hb M2 H2 ∧ AnyM P md ops Q X f ((l.setIfInBounds i true).setIfInBounds j true) (b.put oi.dst v) Mb Hb M2 H2) ∨ (closP md ops (l.setIfInBounds i true) j = true ∧ AnyM P md ops Q X f ((l.setIfInBounds i true).setIfInBounds j true) (b.put oi.dst v) M2 H2 M2 H2))) →
          (∃ M2 H2, SH w2 M2 X H2 ∧ ((Grown Mb Hb M2 H2 ∧ AnyM P md ops Q X (f + 1) (l.setIfInBounds j true) b Mb Hb M2 H2) ∨ (closP md ops l j = true ∧ AnyM P md ops Q X (f + 1) (l.setIfInBounds j true) b M2 H2 M2 H2))) := by
        intro b w2 hb hc
        obtain ⟨M2, H2, S2, ⟨hg2, hc⟩ | ⟨hx, hc⟩⟩ := hc
        · rw [Array.setIfInBounds_comm _ _ (Ne.symm hji)] at hc
          exact ⟨M2, H2, S2, .inl ⟨hg2, ih (l.setIfInBounds j true) b Mb Hb M2 H2 hfree' (ready_mono hr (Ne.symm hji)) hg2 hb hc⟩⟩
        · cases hp : pureOp ops i with
          | false => exact (closP_not hd hj hx hp hilt hnl hisz).elim
          | true =>
            rw [Array.setIfInBounds_comm _ _ (Ne.symm hji)] at hc
            refine ⟨M2, H2, S2, .inr ⟨?_, ih (l.setIfInBounds j true) b M2 H2 M2 H2 hfree' (ready_mono hr (Ne.symm hji)) (Grown.refl _ _) ⟨hb.2 hp M2 H2, hb.2⟩ hc⟩⟩
            refine List.all_eq_true.2 fun k hk => ?_
            have := List.all_eq_true.1 hx k hk
            by_cases hki : i = k
            · subst hki; simp [hp]
            · rw [getD_set_ne false hki] at this
              exact this
      unfold Go.wpOp at h1 ⊢
      simp only [hoj] at h1 ⊢
      rw [wanted_put oj a oi.dst v p1] at h1
      have hse := execOp_put oj (fun cs b => hsel j oj cs b hoj) a oi.dst v p1
      split
      · rename_i hw
        simp only [hw, if_true] at h1
        rcases h1 with h1 | ⟨hasks, hlets⟩
        · refine .inl (wp_shift hse (fun u w2 hk => ?_) (fun d w2 hk => ?_) (fun c w2 hq => hQ c _ _ hq) h1)
          · refine cont _ w2 (keep a hy u) ?_
            rw [← Act.put_comm a v u p2]
            exact hk
          · have hd0 : YieldA P ops X i oi v ({ a with defers := d :: a.defers } : Act) Mb Hb := ⟨hy.1.of_same rfl rfl, fun hp M' H' => (hy.2 hp M' H').of_same rfl rfl⟩
            refine cont _ w2 (keep { a with defers := d :: a.defers } hd0 _) ?_
            rw [← Act.put_comm _ v undef p2, ← Act.put_defers]
            exact hk
        · exact .inr ⟨asks_shift hse hasks, hlets⟩
      · rename_i hw
        simp only [hw] at h1
        refine cont _ w (keep a hy _) ?_
        rw [← Act.put_comm a v undef p2]
        exact h1
end

/-! ### With the list of slots -/

section
variable {P : Program} {n : Nat} {C : Ctx} {c : Code} {s : List K} {L : List (Nat × Value)} {w : World} {Mb M : Hp} {X : Fr} {Hb H : List Rs} {l : Array Bool} {f : Nat}

def WA (P : Program) (n : Nat) (C : Ctx) (c : Code) (s : List K) (X : Fr) (f : Nat) (l : Array Bool) (L : List (Nat × Value)) (Mb : Hp) (Hb : List Rs) (M : Hp) (H : List Rs) : Prop := Grown Mb Hb M H → ∀ a, Env n L a → AnyM P .any (rg c) (post P C s) X f l a Mb Hb M H
theorem post_panic {ch : List PanicEntry} : ∀ {s : List K} {a b : Act} {w : World}, a.defers = b.defers → post P C s (.panic ch) a w → post P C s (.panic ch) b w
  | [], a, b, w, e, h => ⟨e ▸ h.1, h.2⟩
  | .thn c :: s, a, b, w, e, h => post_panic (s := s) e h
  | .lp I :: s, a, b, w, e, h => post_panic (s := s) e h
  | .blk i :: s, a, b, w, e, h => post_panic (s := s) e h
theorem put_defers' (a : Act) (dst : Option Tmp) (v : Value) : (a.put dst v).defers = a.defers := by cases dst <;> rfl
theorem ws_draw (hk : kind c = 8) (hm : P.follows .mixedOrders = true) (S : SH w M X H) (f : Nat) (hf : (rg c).size = f) (h : WA P n C c s X f (Array.replicate f false) L M H M H) : WS P n C c s L w := by
  intro a ha
  rw [kind_draw hk]
  refine wp_region_any hm ?_
  rw [hf]
  exact AnyM.any _ _ _ _ _ _ _ _ (S.kp ⟨rfl, rfl, rfl, Nat.le_refl _⟩ fun _ _ => rfl) (down_start _) (h (Grown.refl _ _) a ha)
theorem op_get {k : Nat} {o : Oper} (ho : op c k = some o) : (rg c)[k]? = some o := by
  unfold op at ho
  rw [nth_eq] at ho
  simpa using ho
theorem wa_end (hr : Region.ready .any (rg c) l = []) (h : ∀ w, SH w M X H → NM P n C s L w) : WA P n C c s X f l L Mb Hb M H := by
  intro _ a ha
  cases f with
  | zero => exact fun w S => ⟨hr, h w S a ha⟩
  | succ f => exact fun w S _ => ⟨fun _ => h w S a ha, by rw [hr]; simp⟩
theorem wa_base (h : WA P n C c s X f l L M H M H) : WA P n C c s X f l L Mb Hb M H := fun hg a ha => AnyM.rebase _ _ _ _ _ _ _ _ _ hg (h (Grown.refl _ _) a ha)
theorem wa_take {i d : Nat} {o : Oper} {v : Value} (f : Nat) (ho : op c i = some o) (hs : (Region.noSelect (rg c) && !pureOp (rg c) i) = true) (hf : Region.free .any (rg c) l i = true) (hr : (Region.ready .any (rg c) l).contains i = true)
    (hg : Wanted c L o.guard true) (hd : o.dst = some d) (hn : (Nat.blt d n && gslot c o n) = true)
    (hy : ∀ M2 N w, Mb.le M2 → SH w M2 X (N ++ Hb) → (Run P o L w v w ∨ ∃ fid vs, (∀ n a, Env n L a → (execOp a.eval o).run P w = .ok (.enter fid vs) w) ∧ Calls P fid vs w fun e w3 => e = .returned v ∧ SH w3 M2 X (N ++ Hb)))
    (h : WA P n C c s X f (l.setIfInBounds i true) ((d, v) :: L) Mb Hb M H) : WA P n C c s X (f + 1) l L Mb Hb M H := by
  intro hg0 a ha
  simp only [Bool.and_eq_true] at hn
  simp only [Bool.and_eq_true, Bool.not_eq_true'] at hs
  refine AnyM.first_ (v := v) (op_get ho) (Region.noSelect_spec hs.1) (fun ch b w hq => post_panic (put_defers' _ _ _) hq) f l a Mb Hb M H (Region.free_spec (op_get ho) hf) (by simpa using hr) hg0 ⟨?_, fun hp => by rw [hs.2] at hp; cases hp⟩ ?_
  · refine .inl ⟨wanted_eq ha hg (gslot_spec hn.2), fun M2 N w k S => ?_⟩
    rcases hy M2 N w k S with hrun | ⟨fid, vs, h1, h2⟩
    · rw [hrun n a ha]
      exact ⟨rfl, S⟩
    · rw [h1 n a ha]
      exact h2
  · rw [hd]
    exact h hg0 _ (ha.put (by simpa using hn.1) v)
theorem wa_takeP {i d : Nat} {o : Oper} {v : Value} (f : Nat) (ho : op c i = some o) (hs : Region.noSelect (rg c) = true) (hf : Region.free .any (rg c) l i = true) (hr : (Region.ready .any (rg c) l).contains i = true)
    (hg : Wanted c L o.guard true) (hd : o.dst = some d) (hn : (Nat.blt d n && gslot c o n) = true) (hy : ∀ w, Run P o L w v w)
    (h : WA P n C c s X f (l.setIfInBounds i true) ((d, v) :: L) Mb Hb M H) : WA P n C c s X (f + 1) l L Mb Hb M H := by
  intro hg0 a ha
  simp only [Bool.and_eq_true] at hn
  have key : ∀ M H, YieldM P (rg c) X o v a M H := fun M H => .inl ⟨wanted_eq ha hg (gslot_spec hn.2), fun M2 N w k S => by
    rw [hy w n a ha]
    exact ⟨rfl, S⟩⟩
  refine AnyM.first_ (v := v) (op_get ho) (Region.noSelect_spec hs) (fun ch b w hq => post_panic (put_defers' _ _ _) hq) f l a Mb Hb M H (Region.free_spec (op_get ho) hf) (by simpa using hr) hg0 ⟨key Mb Hb, fun _ => key⟩ ?_
  rw [hd]
  exact h hg0 _ (ha.put (by simpa using hn.1) v)
theorem wa_no {i d : Nat} {o : Oper} (f : Nat) (ho : op c i = some o) (hs : Region.noSelect (rg c) = true) (hf : Region.free .any (rg c) l i = true) (hr : (Region.ready .any (rg c) l).contains i = true)
    (hg : Wanted c L o.guard false) (hd : o.dst = some d) (hn : (Nat.blt d n && gslot c o n) = true)
    (h : WA P n C c s X f (l.setIfInBounds i true) ((d, undef) :: L) Mb Hb M H) : WA P n C c s X (f + 1) l L Mb Hb M H := by
  intro hg0 a ha
  simp only [Bool.and_eq_true] at hn
  have key : ∀ M H, YieldM P (rg c) X o undef a M H := fun M H => .inr ⟨wanted_eq ha hg (gslot_spec hn.2), rfl⟩
  refine AnyM.first_ (v := undef) (op_get ho) (Region.noSelect_spec hs) (fun ch b w hq => post_panic (put_defers' _ _ _) hq) f l a Mb Hb M H (Region.free_spec (op_get ho) hf) (by simpa using hr) hg0 ⟨key Mb Hb, fun _ => key⟩ ?_
  rw [hd]
  exact h hg0 _ (ha.put (d := d) (by simpa using hn.1) undef)
/-- What an operation that has been carried out leaves. -/
def LeftW (P : Program) (n : Nat) (C : Ctx) (c : Code) (s : List K) (X : Fr) (f : Nat) (l : Array Bool) (j : Nat) (Mb : Hp) (Hb : List Rs) (L' : List (Nat × Value)) (w' : World) : Prop :=
  ∃ M2 H2, SH w' M2 X H2 ∧ ((Grown Mb Hb M2 H2 ∧ WA P n C c s X f (l.setIfInBounds j true) L' Mb Hb M2 H2) ∨ (closP .any (rg c) l j = true ∧ WA P n C c s X f (l.setIfInBounds j true) L' M2 H2 M2 H2))
theorem LeftW.grow {j : Nat} {L' : List (Nat × Value)} {w' : World} {M2 : Hp} (N : List Rs) (k : Mb.le M2) (S : SH w' M2 X (N ++ Hb)) (h : WA P n C c s X f (l.setIfInBounds j true) L' Mb Hb M2 (N ++ Hb)) : LeftW P n C c s X f l j Mb Hb L' w' := ⟨M2, N ++ Hb, S, .inl ⟨⟨k, N, rfl⟩, h⟩⟩
theorem LeftW.turn {j : Nat} {L' : List (Nat × Value)} {w' : World} {M2 : Hp} {H2 : List Rs} (hc : closP .any (rg c) l j = true) (S : SH w' M2 X H2) (h : WA P n C c s X f (l.setIfInBounds j true) L' M2 H2 M2 H2) : LeftW P n C c s X f l j Mb Hb L' w' := ⟨M2, H2, S, .inr ⟨hc, h⟩⟩
theorem LeftW.out {j : Nat} {L' : List (Nat × Value)} {w' : World} {a' : Act} (he : Env n L' a') (h : LeftW P n C c s X f l j Mb Hb L' w') : ∃ M2 H2, SH w' M2 X H2 ∧
      ((Grown Mb Hb M2 H2 ∧ AnyM P .any (rg c) (post P C s) X f (l.setIfInBounds j true) a' Mb Hb M2 H2) ∨ (closP .any (rg c) l j = true ∧ AnyM P .any (rg c) (post P C s) X f (l.setIfInBounds j true) a' M2 H2 M2 H2)) := by
  obtain ⟨M2, H2, S, ⟨hg, h⟩ | ⟨hc, h⟩⟩ := h
  · exact ⟨M2, H2, S, .inl ⟨hg, h hg a' he⟩⟩
  · exact ⟨M2, H2, S, .inr ⟨hc, h (Grown.refl _ _) a' he⟩⟩
theorem wp_left {i : Nat} {o : Oper} {a : Act} (ho : op c i = some o) (ha : Env n L a) (hg : Wanted c L o.guard true) (hs : gslot c o n = true) (h : WO P n o L w (LeftW P n C c s X f l i Mb Hb)) : Go.wpOp P (rg c) (post P C s) i (fun a2 w2 => ∃ M2 H2, SH w2 M2 X H2 ∧
      ((Grown Mb Hb M2 H2 ∧ AnyM P .any (rg c) (post P C s) X f (l.setIfInBounds i true) a2 Mb Hb M2 H2) ∨ (closP .any (rg c) l i = true ∧ AnyM P .any (rg c) (post P C s) X f (l.setIfInBounds i true) a2 M2 H2 M2 H2))) a w := by
  unfold Go.wpOp
  simp only [op_get ho]
  rw [if_pos (wanted_eq ha hg (gslot_spec hs))]
  exact .inl (h a ha _ _ fun L' a' w' he hl => hl.out he)
/-- The only one that is ready. -/
theorem wa_only {i : Nat} {o : Oper} (f : Nat) (ho : op c i = some o) (hr : Region.ready .any (rg c) l = [i]) (hg : Wanted c L o.guard true) (hs : gslot c o n = true)
    (h : ∀ w, SH w M X H → WO P n o L w (LeftW P n C c s X f l i Mb Hb)) : WA P n C c s X (f + 1) l L Mb Hb M H := by
  intro _ a ha w S hd
  refine ⟨fun h0 => (by rw [hr] at h0; cases h0), fun k hk => ?_⟩
  rw [hr, List.mem_singleton] at hk
  subst hk
  exact wp_left ho ha hg hs (h w S)
/-- Two are ready: either may come first. -/
theorem wa_two {i j : Nat} {o o' : Oper} (f : Nat) (ho : op c i = some o) (ho' : op c j = some o') (hr : Region.ready .any (rg c) l = [i, j]) (hg : Wanted c L o.guard true) (hs : gslot c o n = true) (hg' : Wanted c L o'.guard true) (hs' : gslot c o' n = true)
    (h : ∀ w, SH w M X H → WO P n o L w (LeftW P n C c s X f l i Mb Hb)) (h' : ∀ w, SH w M X H → WO P n o' L w (LeftW P n C c s X f l j Mb Hb)) : WA P n C c s X (f + 1) l L Mb Hb M H := by
  intro _ a ha w S hd
  refine ⟨fun h0 => (by rw [hr] at h0; cases h0), fun k hk => ?_⟩
  rw [hr] at hk
  rcases List.mem_cons.1 hk with rfl | hk
  · exact wp_left ho ha hg hs (h w S)
  · rw [List.mem_singleton] at hk
    subst hk
    exact wp_left ho' ha hg' hs' (h' w S)
theorem wa_three {i j m : Nat} {o o' o'' : Oper} (f : Nat) (ho : op c i = some o) (ho' : op c j = some o') (ho'' : op c m = some o'') (hr : Region.ready .any (rg c) l = [i, j, m]) (hg : Wanted c L o.guard true) (hs : gslot c o n = true) (hg' : Wanted c L o'.guard true) (hs' : gslot c o' n = true) (hg'' : Wanted c L o''.guard true) (hs'' : gslot c o'' n = true)
    (h : ∀ w, SH w M X H → WO P n o L w (LeftW P n C c s X f l i Mb Hb)) (h' : ∀ w, SH w M X H → WO P n o' L w (LeftW P n C c s X f l j Mb Hb)) (h'' : ∀ w, SH w M X H → WO P n o'' L w (LeftW P n C c s X f l m Mb Hb)) : WA P n C c s X (f + 1) l L Mb Hb M H := by
  intro _ a ha w S hd
  refine ⟨fun h0 => (by rw [hr] at h0; cases h0), fun k hk => ?_⟩
  rw [hr] at hk
  rcases List.mem_cons.1 hk with rfl | hk
  · exact wp_left ho ha hg hs (h w S)
  · rcases List.mem_cons.1 hk with rfl | hk
    · exact wp_left ho' ha hg' hs' (h' w S)
    · rw [List.mem_singleton] at hk
      subst hk
      exact wp_left ho'' ha hg'' hs'' (h'' w S)
theorem SH.suf {N : List Rs} (S : SH w M X (N ++ H)) : SH w M X H := by
  have hg : ∀ (j : Nat) r, H[j]? = some r → (N ++ H)[N.length + j]? = some r := fun j r h => by rw [List.getElem?_append_right (by omega)]; simpa using h
  exact ⟨S.m, S.x, S.mx, fun s hs => S.ok s (List.mem_append_right _ hs), fun s hs => S.bl s (List.mem_append_right _ hs), fun i j r t hij hr ht => S.ap (N.length + i) (N.length + j) r t (by omega) (hg i r hr) (hg j t ht), S.like⟩
theorem enter_of {o : Oper} {fid : FuncId} {vs : List Value} {ca : Call} {fo : Operand} {xs : List Operand} (hop : o.op = .call ca) (hca : ca.callee = .value fo) (hfo : oev L fo = some (.func (.func fid) #[] #[]))
    (hxs : ca.args = xs.toArray) (hvs : oevs L xs = some vs) (hen : ∀ args w, (callFunc fid args).run P w = .ok (.enter fid args) w) : ∀ n a, Env n L a → (execOp a.eval o).run P w = .ok (.enter fid vs.toArray) w := by
  intro n a ha
  unfold execOp
  simp only [hop, resolve, hca, ha.eval hfo, hxs, List.map_toArray, ha.evals hvs, Deferred.ofValue, Sem.run_bind, Sem.run_pure, Result.andThen_ok, invoke, Array.empty_append, Array.append_empty]
  exact hen _ _
/-- A call that only computes, whatever else has been done. -/
theorem yield_cq {o : Oper} {fid : FuncId} {vs : List Value} {ca : Call} {fo : Operand} {xs : List Operand} {v : Value} (hop : o.op = .call ca) (hca : ca.callee = .value fo) (hfo : oev L fo = some (.func (.func fid) #[] #[]))
    (hxs : ca.args = xs.toArray) (hvs : oevs L xs = some vs) (hen : ∀ args w, (callFunc fid args).run P w = .ok (.enter fid args) w) (S : SH w M X H) (hc : Cq P fid vs w M (XH w X H) (fun u => u = v)) :
    Run P o L w v w ∨ ∃ fid vs, (∀ n a, Env n L a → (execOp a.eval o).run P w = .ok (.enter fid vs) w) ∧ Calls P fid vs w fun e w3 => e = .returned v ∧ SH w3 M X H :=
  .inr ⟨fid, vs.toArray, enter_of hop hca hfo hxs hvs hen, hc.mono fun e w3 ⟨u, h1, h2, h3⟩ => ⟨by rw [h1, h3], S.back h2⟩⟩
end
end Go.Proofs.Ytkcighnochjlgaa
