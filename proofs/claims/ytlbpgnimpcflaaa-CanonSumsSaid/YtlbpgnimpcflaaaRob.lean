/- A region that draws its order: what yields one value in every later world may be taken first. Nothing of one program stands here. -/
import Derived.Test.YtlbpgnimpcflaaaMem
import Derived.Test.YtlbpgnimpcflaaaR0
namespace Go.Proofs.Ytlbpgnimpcflaaa
open Go.RowKit

section
variable {P : Program} {ops : Array Oper} {Q : Exit → Act → World → Prop} {md : Region.Mode}

/-- Any order; between operations anything new may have been made. -/
def AnyR (P : Program) (md : Region.Mode) (ops : Array Oper) (Q : Exit → Act → World → Prop) : Nat → Array Bool → Act → World → Prop
  | 0, l, a, w => Region.ready md ops l = [] ∧ Q .normal a w
  | f + 1, l, a, w => Down md ops l → (Region.ready md ops l = [] → Q .normal a w) ∧
    ∀ j ∈ Region.ready md ops l, wpOp P ops Q j (fun a2 w2 => (Kp w w2 ∧ ∀ w3, Kp w2 w3 → AnyR P md ops Q f (l.setIfInBounds j true) a2 w3) ∨ (closing md ops j = true ∧ AnyR P md ops Q f (l.setIfInBounds j true) a2 w2)) a w

theorem AnyR.any : ∀ (f : Nat) (l : Array Bool) (a : Act) (w : World), Down md ops l → AnyR P md ops Q f l a w → wpAny P md ops Q f l a w := by
  intro f
  induction f with
  | zero => intro l a w _ h; exact h
  | succ f ih =>
    intro l a w hd h
    obtain ⟨h0, h1⟩ := h hd
    refine ⟨h0, fun j hj => wpOp_mono (fun a2 w2 hc => ?_) (h1 j hj)⟩
    rcases hc with ⟨_, hc⟩ | ⟨_, hc⟩
    · exact ih _ _ _ (down_set hd hj) (hc w2 (Kp.refl _))
    · exact ih _ _ _ (down_set hd hj) hc

/-- The operation yields v in every later world, and what was there stays. -/
def YieldR (P : Program) (ops : Array Oper) (o : Oper) (v : Value) (a : Act) (w : World) : Prop :=
  (Region.wanted o (yielded ops a.tmps) = true ∧ ∀ w', Kp w w' → match (execOp a.eval o).run P w' with
    | .ok (.value u) w2 => u = v ∧ Kp w' w2
    | .ok .skip w2 => v = undef ∧ Kp w' w2
    | .ok (.enter f args) w2 => Calls P f args w2 fun e w3 => e = .returned v ∧ Kp w' w3
    | .ok (.row row args) w2 => Rows P row args w2 fun u w3 => u = v ∧ Kp w' w3
    | _ => False) ∨ (Region.wanted o (yielded ops a.tmps) = false ∧ v = undef)
theorem YieldR.later {o : Oper} {v : Value} {a : Act} {w w' : World} (h : YieldR P ops o v a w) (k : Kp w w') : YieldR P ops o v a w' := by
  rcases h with ⟨h1, h2⟩ | h
  · exact .inl ⟨h1, fun w2 k2 => h2 w2 (k.trans k2)⟩
  · exact .inr h
theorem YieldR.of_same {o : Oper} {v : Value} {a b : Act} {w : World} (h : YieldR P ops o v a w) (he : execOp b.eval o = execOp a.eval o) (hw : Region.wanted o (yielded ops b.tmps) = Region.wanted o (yielded ops a.tmps)) : YieldR P ops o v b w := by
  unfold YieldR at *
  rw [he, hw]
  exact h
theorem YieldR.wpOp {i : Nat} {o : Oper} {v : Value} {a : Act} {w : World} (hi : ops[i]? = some o) (hy : YieldR P ops o v a w) {K : Act → World → Prop} (h : ∀ w2, Kp w w2 → K (a.put o.dst v) w2) : wpOp P ops Q i K a w := by
  unfold Go.wpOp
  simp only [hi]
  rcases hy with ⟨hw, hv⟩ | ⟨hw, rfl⟩
  · simp only [hw, if_true]
    refine .inl ?_
    have h1 := hv w (Kp.refl _)
    unfold Oper.wp
    generalize (execOp a.eval o).run P w = r at *
    cases r with
    | ok n w' =>
      cases n <;> simp only [Oper.upon] at h1 ⊢
      case value u => rw [h1.1]; exact h _ h1.2
      case skip => rw [← h1.1]; exact h _ h1.2
      case row row args => exact Rows.mono h1 fun u w3 he => by rw [he.1]; exact h _ he.2
      case enter f args => exact Calls.mono h1 fun e w3 he => by rw [he.1]; exact h _ he.2
    | halt x w' => exact h1.elim
  · simp only [hw, Bool.false_eq_true, if_false]
    exact h _ (Kp.refl _)

theorem AnyR.first_ {i : Nat} {oi : Oper} {v : Value} (hi : ops[i]? = some oi) (hsel : ∀ (j : Nat) (o : Oper) cs b, ops[j]? = some o → o.op ≠ .select cs b) (hQ : ∀ c a w, Q (.panic c) (a.put oi.dst v) w → Q (.panic c) a w) :
    ∀ (f : Nat) (l : Array Bool) (a : Act) (w : World),
      (∀ j oj, ops[j]? = some oj → j ≠ i → l.getD j true = false → (∀ e ∈ oj.after, Region.binds md e = true → e.on ≠ i) → oi.apart ops oj = true) →
      i ∈ Region.ready md ops l → YieldR P ops oi v a w → (∀ w2, Kp w w2 → AnyR P md ops Q f (l.setIfInBounds i true) (a.put oi.dst v) w2) → AnyR P md ops Q (f + 1) l a w := by
  intro f
  induction f with
  | zero =>
    intro l a w _ hr hy H hd
    refine ⟨fun h => (by rw [h] at hr; cases hr), fun j hj => ?_⟩
    by_cases hji : j = i
    · subst hji
      exact hy.wpOp hi fun w2 k2 => .inl ⟨k2, fun w3 k3 => H w3 (k2.trans k3)⟩
    · have := ready_mono hj hji
      rw [(H w (Kp.refl _)).1] at this
      cases this
  | succ f ih =>
    intro l a w hfree hr hy H hd
    refine ⟨fun h => (by rw [h] at hr; cases hr), fun j hj => ?_⟩
    by_cases hji : j = i
    · subst hji
      exact hy.wpOp hi fun w2 k2 => .inl ⟨k2, fun w3 k3 => H w3 (k2.trans k3)⟩
    · have h1 := (H w (Kp.refl _) (down_set hd hr)).2 j (ready_mono hj hji)
      obtain ⟨hjun, oj, hoj, hall⟩ := mem_ready.1 hj
      have hiun := (mem_ready.1 hr).1
      have hilt : i < ops.size := (Array.getElem?_eq_some_iff.1 hi).1
      have hnl : ¬ l.getD i false = true := by
        intro h
        rcases Nat.lt_or_ge i l.size with h' | h'
        · simp [h'] at h hiun; rw [hiun] at h; cases h
        · simp [Array.getElem?_eq_none h'] at h
      have hncl : ¬ closing md ops j = true := fun hc => closing_not hd hr hj hc hilt (fun e => hji e.symm) hnl (ready_un hj)
      have hnot : ∀ e ∈ oj.after, Region.binds md e = true → e.on ≠ i := fun e he hb heq => hnl (by have h2 := hall e he hb; rw [heq] at h2; exact h2)
      have hap := hfree j oj hoj hji hjun hnot
      obtain ⟨p1, p2, p3⟩ := Oper.apart_spec hap
      have hfree' : ∀ k ok, ops[k]? = some ok → k ≠ i → (l.setIfInBounds j true).getD k true = false → (∀ e ∈ ok.after, Region.binds md e = true → e.on ≠ i) → oi.apart ops ok = true := fun k ok hk hki hun hno => by
        refine hfree k ok hk hki ?_ hno
        by_cases hjk : j = k
        · subst hjk; exact hjun
        · rw [getD_set_ne true hjk] at hun; exact hun
      have keep : ∀ (b : Act), YieldR P ops oi v b w → ∀ u, YieldR P ops oi v (b.put oj.dst u) w := fun b hb u => hb.of_same (execOp_put oi (fun cs b => hsel i oi cs b hi) b oj.dst u p3) (wanted_put oi b oj.dst u p3)
      have cont : ∀ (b : Act) (w2 : World), YieldR P ops oi v b w → ((Kp w w2 ∧ ∀ w3, Kp w2 w3 → AnyR P md ops Q f ((l.setIfInBounds i true).setIfInBounds j true) (b.put oi.dst v) w3) ∨ (closing md ops j = true ∧ AnyR P md ops Q f ((l.setIfInBounds i true).setIfInBounds j true) (b.put oi.dst v) w2)) →
          ((Kp w w2 ∧ ∀ w3, Kp w2 w3 → AnyR P md ops Q (f + 1) (l.setIfInBounds j true) b w3) ∨ (closing md ops j = true ∧ AnyR P md ops Q (f + 1) (l.setIfInBounds j true) b w2)) := by
        intro b w2 hb hc
        rcases hc with ⟨k2, hc⟩ | ⟨hc, _⟩
        · refine .inl ⟨k2, fun w3 k3 => ih (l.setIfInBounds j true) b w3 hfree' (ready_mono hr (Ne.symm hji)) (hb.later (k2.trans k3)) fun w4 k4 => ?_⟩
          rw [Array.setIfInBounds_comm _ _ hji]
          exact hc w4 (k3.trans k4)
        · exact absurd hc hncl
      unfold Go.wpOp at h1 ⊢
      simp only [hoj] at h1 ⊢
      rw [wanted_put oj a oi.dst v p1] at h1
      have hse := execOp_put oj (fun cs b => hsel j oj cs b hoj) a oi.dst v p1
      split
      · rename_i hw
        simp only [hw, if_true] at h1
        rcases h1 with h1 | ⟨hasks, hlets⟩
        · refine .inl (wp_shift hse (fun u w2 hk => ?_) (fun d w2 hk => ?_) (fun c w2 hq => hQ c _ _ hq) h1)
          · refine cont _ w2 (keep a hy u) ?_
            rw [← Act.put_comm a v u p2]
            exact hk
          · refine cont _ w2 (keep { a with defers := d :: a.defers } (hy.of_same rfl rfl) _) ?_
            rw [← Act.put_comm _ v undef p2, ← Act.put_defers]
            exact hk
        · exact .inr ⟨asks_shift hse hasks, hlets⟩
      · rename_i hw
        simp only [hw] at h1
        refine cont _ w (keep a hy _) ?_
        rw [← Act.put_comm a v undef p2]
        exact h1

theorem AnyR.first {i : Nat} {oi : Oper} {v : Value} {f : Nat} {l : Array Bool} {a : Act} {w : World} (hi : ops[i]? = some oi) (hs : Region.noSelect ops = true) (hf : Region.free md ops l i = true) (hr : (Region.ready md ops l).contains i = true)
    (hQ : ∀ c a w, Q (.panic c) (a.put oi.dst v) w → Q (.panic c) a w) (hy : YieldR P ops oi v a w) (h : ∀ w2, Kp w w2 → AnyR P md ops Q f (l.setIfInBounds i true) (a.put oi.dst v) w2) : AnyR P md ops Q (f + 1) l a w :=
  AnyR.first_ hi (Region.noSelect_spec hs) hQ f l a w (Region.free_spec hi hf) (by simpa using hr) hy h

theorem AnyR.done {f : Nat} {l : Array Bool} {a : Act} {w : World} (hr : Region.ready md ops l = []) (h : Q .normal a w) : AnyR P md ops Q f l a w := by
  cases f with
  | zero => exact ⟨hr, h⟩
  | succ f => exact fun _ => ⟨fun _ => h, by rw [hr]; simp⟩
theorem AnyR.last {j : Nat} {f : Nat} {l : Array Bool} {a : Act} {w : World} (hr : Region.ready md ops l = [j]) (hc : closing md ops j = true) (hr2 : Region.ready md ops (l.setIfInBounds j true) = []) (h : Go.wpOp P ops Q j (Q .normal) a w) : AnyR P md ops Q (f + 1) l a w := by
  refine fun _ => ⟨fun h0 => (by rw [hr] at h0; cases h0), fun k hk => ?_⟩
  rw [hr, List.mem_singleton] at hk
  subst hk
  exact wpOp_mono (fun a2 w2 hq => .inr ⟨hc, AnyR.done hr2 hq⟩) h

theorem AnyR.close {j : Nat} {o : Oper} {f : Nat} {l : Array Bool} {a : Act} {w : World} (ho : ops[j]? = some o) (hr : Region.ready md ops l = [j]) (hc : closing md ops j = true) (hr2 : Region.ready md ops (l.setIfInBounds j true) = []) (h : wpList P ops Q [o] a w) : AnyR P md ops Q (f + 1) l a w := by
  refine AnyR.last hr hc hr2 ?_
  unfold Go.wpOp
  simp only [ho]
  exact h

theorem wp_then {o : Oper} {a : Act} {w : World} {K : Act → World → Prop} (h : o.wp P a w K (Exit.then K Q)) : o.wp P a w K Q := by
  unfold Oper.wp at *
  generalize (execOp a.eval o).run P w = r at *
  cases r with
  | ok n w' =>
    cases n <;> simp only [Oper.upon] at h ⊢ <;> first
      | exact h
      | exact Calls.mono h (fun e w2 he => by cases e <;> exact he)
  | halt x w' => cases x <;> simp only [Oper.upon] at h ⊢ <;> exact h
theorem AnyR.only {i : Nat} {o : Oper} {f : Nat} {l : Array Bool} {a : Act} {w : World} (ho : ops[i]? = some o) (hr : Region.ready md ops l = [i])
    (h : ∀ K : Act → World → Prop, (∀ a2 w2, Kp w w2 → (∀ w3, Kp w2 w3 → AnyR P md ops Q f (l.setIfInBounds i true) a2 w3) → K a2 w2) → wpList P ops (Exit.then K Q) [o] a w) : AnyR P md ops Q (f + 1) l a w := by
  refine fun _ => ⟨fun h0 => (by rw [hr] at h0; cases h0), fun k hk => ?_⟩
  rw [hr, List.mem_singleton] at hk
  subst hk
  refine wpOp_mono (K := fun a2 w2 => Kp w w2 ∧ ∀ w3, Kp w2 w3 → AnyR P md ops Q f (l.setIfInBounds k true) a2 w3) (fun a2 w2 hq => .inl hq) ?_
  have h1 := h _ fun a2 w2 h2 h3 => And.intro h2 h3
  unfold Go.wpOp
  simp only [ho]
  unfold wpList at h1
  by_cases hw : Region.wanted o (yielded ops a.tmps) = true
  · rw [if_pos hw] at h1 ⊢
    rcases h1 with h1 | h1
    · exact .inl (wp_then h1)
    · exact .inr h1
  · rw [if_neg hw] at h1 ⊢
    exact h1

/-- The only ready one, with which all others are ordered. -/
theorem AnyR.next {i : Nat} {o : Oper} {f : Nat} {l : Array Bool} {a : Act} {w : World} (ho : ops[i]? = some o) (hr : Region.ready md ops l = [i]) (hc : closing md ops i = true)
    (h : ∀ K : Act → World → Prop, (∀ a2 w2, AnyR P md ops Q f (l.setIfInBounds i true) a2 w2 → K a2 w2) → wpList P ops (Exit.then K Q) [o] a w) : AnyR P md ops Q (f + 1) l a w := by
  refine fun _ => ⟨fun h0 => (by rw [hr] at h0; cases h0), fun k hk => ?_⟩
  rw [hr, List.mem_singleton] at hk
  subst hk
  refine wpOp_mono (K := fun a2 w2 => AnyR P md ops Q f (l.setIfInBounds k true) a2 w2) (fun a2 w2 hq => .inr ⟨hc, hq⟩) ?_
  have h1 := h _ fun a2 w2 h2 => h2
  unfold Go.wpOp
  simp only [ho]
  unfold wpList at h1
  by_cases hw : Region.wanted o (yielded ops a.tmps) = true
  · rw [if_pos hw] at h1 ⊢
    rcases h1 with h1 | h1
    · exact .inl (wp_then h1)
    · exact .inr h1
  · rw [if_neg hw] at h1 ⊢
    exact h1

/-- What a single operation is to yield. -/
def YQ (D : List Deferred) (d : Nat) (v : Value) (w : World) (e : Exit) (a : Act) (w' : World) : Prop := e = .normal ∧ a.defers = D ∧ a.tmps.getD d undef = v ∧ Kp w w'

theorem YieldR.of_list {o : Oper} {v : Value} {a : Act} {w : World} {d : Nat} (hd : o.dst = some d) (hlt : d < a.tmps.size) (hw : Region.wanted o (yielded ops a.tmps) = true)
    (h : ∀ w', Kp w w' → wpList P ops (YQ a.defers d v w') [o] a w') : YieldR P ops o v a w := by
  refine .inl ⟨hw, fun w' k => ?_⟩
  have h1 := h w' k
  unfold wpList at h1
  rw [if_pos hw] at h1
  rcases h1 with h1 | ⟨_, a2, w2, h3, _⟩
  · unfold Oper.wp at h1
    generalize (execOp a.eval o).run P w' = r at *
    have hput : ∀ u, (a.put o.dst u).tmps.getD d undef = u := by
      intro u
      rw [hd]
      simp [Act.put, hlt]
    cases r with
    | ok n w2 =>
      cases n <;> simp only [Oper.upon] at h1 ⊢
      case value u =>
        obtain ⟨_, _, h3, h4⟩ := h1
        rw [hput] at h3
        exact ⟨h3, h4⟩
      case skip =>
        obtain ⟨_, _, h3, h4⟩ := h1
        rw [hput] at h3
        exact ⟨h3.symm, h4⟩
      case defer g =>
        obtain ⟨_, h3, _⟩ := h1
        rw [hd] at h3
        have := congrArg List.length h3
        simp [Act.put] at this
      case enter f args =>
        refine Calls.mono h1 fun e w3 he => ?_
        cases e with
        | returned u =>
          obtain ⟨_, _, h3, h4⟩ := he
          rw [hput] at h3
          exact ⟨by rw [h3], h4⟩
        | panicked c => exact absurd he.1 (by simp)
        | outgrown =>
          obtain ⟨_, _, h3, _⟩ := he
          cases h3
      case row row args =>
        refine Rows.mono h1 fun u w3 he => ?_
        obtain ⟨_, _, h3, h4⟩ := he
        rw [hput] at h3
        exact ⟨h3, h4⟩
    | halt x w2 =>
      cases x <;> simp only [Oper.upon] at h1
      case panic u => exact absurd h1.1 (by simp)
  · cases h3

theorem AnyR.take {i : Nat} {oi : Oper} {v : Value} {d : Nat} {f : Nat} {l : Array Bool} {T : Array Value} {D : List Deferred} {w : World} (hi : ops[i]? = some oi) (hs : Region.noSelect ops = true) (hf : Region.free md ops l i = true) (hr : (Region.ready md ops l).contains i = true)
    (hd : oi.dst = some d) (hQ2 : ∀ c a w, Q (.panic c) (a.put (some d) v) w → Q (.panic c) a w) (hlt : d < T.size) (hw : Region.wanted oi (yielded ops T) = true)
    (h1 : ∀ w', Kp w w' → wpList P ops (YQ D d v w') [oi] ⟨T, D⟩ w') (h : ∀ w2, Kp w w2 → AnyR P md ops Q f (l.setIfInBounds i true) ⟨T.setIfInBounds d v, D⟩ w2) : AnyR P md ops Q (f + 1) l ⟨T, D⟩ w := by
  refine AnyR.first hi hs hf hr (by rw [hd]; exact hQ2) (YieldR.of_list hd hlt hw h1) ?_
  intro w2 k2
  have := h w2 k2
  rw [hd]
  exact this
theorem wp_region_rob {id : Nat} {a : Act} {w : World} (hm : P.follows .mixedOrders = true) (h : AnyR P .any ops Q ops.size (Array.replicate ops.size false) a w.drew) : (Code.region id ops true).wp P Q a w :=
  wp_region_any hm (AnyR.any _ _ _ _ (down_start _) h)
end
end Go.Proofs.Ytlbpgnimpcflaaa
