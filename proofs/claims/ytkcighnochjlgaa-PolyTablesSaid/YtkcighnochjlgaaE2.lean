/- Slices, rows and boxes, and the operations on them. Nothing of one program stands here. -/
import Derived.Test.YtkcighnochjlgaaE1
import Derived.Test.YtkcighnochjlgaaL0
import Derived.Great.BuildSlice
namespace Go.Proofs.Ytkcighnochjlgaa
open Go.ChangeShapes Go.WideShapes Go.ChangeAt Go.RowKit

/-- A piece of a list replaced. -/
def spl {α : Type} : List α → Nat → List α → List α
  | l, _, [] => l
  | l, o, u :: us => spl (l.set o u) (o + 1) us
theorem spl_len {α : Type} : ∀ (us l : List α) (o : Nat), (spl l o us).length = l.length
  | [], l, o => rfl
  | u :: us, l, o => by rw [spl, spl_len us]; simp
theorem spl_get {α : Type} : ∀ (us l : List α) (o j : Nat), o + us.length ≤ l.length → (spl l o us)[j]? = if o ≤ j ∧ j < o + us.length then us[j - o]? else l[j]?
  | [], l, o, j, _ => by rw [spl, if_neg (by simp)]
  | u :: us, l, o, j, h => by
    simp only [List.length_cons] at h ⊢
    rw [spl, spl_get us (l.set o u) (o + 1) j (by simp; omega), List.getElem?_set]
    by_cases h1 : o = j
    · subst h1
      rw [if_neg (by omega), if_pos rfl, if_pos (by omega), if_pos (by omega)]; simp
    · rw [if_neg h1]
      by_cases h2 : o + 1 ≤ j ∧ j < o + 1 + us.length
      · rw [if_pos h2, if_pos (by omega), show j - o = (j - (o + 1)) + 1 by omega]; simp
      · rw [if_neg h2, if_neg (by omega)]
theorem spl_eq {α : Type} (us l : List α) (o : Nat) (h : o + us.length ≤ l.length) : spl l o us = l.take o ++ us ++ l.drop (o + us.length) := by
  apply List.ext_getElem?
  intro j
  rw [spl_get us l o j h]
  simp only [List.getElem?_append, List.length_append, List.length_take, List.getElem?_take, List.getElem?_drop]
  have e : min o l.length = o := by omega
  rw [e]
  by_cases h1 : o ≤ j ∧ j < o + us.length
  · rw [if_pos h1, if_pos h1.2, if_neg (by omega)]
  · rw [if_neg h1]
    by_cases h2 : j < o
    · rw [if_pos (by omega), if_pos h2, if_pos h2]
    · rw [if_neg (by omega)]
      congr 1; omega

/-! ### Element types -/

structure Cd (α : Type) where
  f : α → List Value
  k : Nat
  u8 : Nat
  E : TypeId
  z : α
  hf : ∀ x, (f x).length = k
  one : ∀ x, ∀ u ∈ f x, u.oneCell' = true
theorem Cd.flat1 {α : Type} (C : Cd α) (xs : List α) : ∀ u ∈ xs.flatMap C.f, u.oneCell' = true := fun u hu => by
  obtain ⟨x, _, hx⟩ := List.mem_flatMap.1 hu
  exact C.one x u hx
/-- T is the type of the slices of C's elements. -/
def SlOf {α : Type} (P : Program) (T : TypeId) (C : Cd α) : Prop :=
  ∃ z, P.underlying T = some (.slice C.E) ∧ (P.info? C.E).map (fun i => (i.zero, i.size, i.bytes)) = some (some z, C.k, C.u8) ∧ z.cells.toList = C.f C.z ∧ 0 < C.k ∧ 0 < C.u8

/-! ### A slice that lasts -/

def adB : Option Addr → Nat
  | some a => a.block
  | none => 0
def adO : Option Addr → Nat
  | some a => a.off
  | none => 0
def RdA {α : Type} (C : Cd α) (N : Hp) (A : Option Addr) (c : Nat) (xs : List α) : Prop :=
  xs.length ≤ c ∧ xs.length * C.u8 ≤ 140737488355328 ∧ (0 < xs.length → A = some ⟨adB A, adO A, none⟩ ∧ ∃ cs T fz, N (adB A) = some (.cells cs T fz) ∧ ∀ j u, (xs.flatMap C.f)[j]? = some u → cs[adO A + j]? = some u)
def Rds {α : Type} (C : Cd α) (N : Hp) (v : Value) (xs : List α) : Prop := ∃ A c, v = .slice A xs.length c ∧ RdA C N A c xs
section
variable {α : Type} {C : Cd α} {N N' : Hp} {A : Option Addr} {cp : Nat} {xs : List α} {v : Value} {w : World}
theorem RdA.mono (h : RdA C N A cp xs) (k : N.le N') : RdA C N' A cp xs := ⟨h.1, h.2.1, fun h0 => by
  obtain ⟨e, cs, T, fz, hc, hu⟩ := h.2.2 h0
  exact ⟨e, cs, T, fz, k _ _ hc, hu⟩⟩
theorem Rds.mono (h : Rds C N v xs) (k : N.le N') : Rds C N' v xs := by
  obtain ⟨A, c, e, h⟩ := h
  exact ⟨A, c, e, h.mono k⟩
theorem RdA.room (h : RdA C N A cp xs) : xs.length * C.u8 ≤ 140737488355328 := h.2.1
theorem RdA.cap (h : RdA C N A cp xs) : xs.length ≤ cp := h.1
theorem RdA.nil_ : RdA C N A cp [] := ⟨Nat.zero_le _, by simp, fun h => absurd h (by simp)⟩
theorem Rds.nil_ : Rds C N (.slice none 0 0) ([] : List α) := ⟨none, 0, rfl, RdA.nil_⟩
theorem RdA.cell [Inhabited α] (h : RdA C N A cp xs) (hN : N.le (hp w)) {i : Nat} (hi : i < xs.length) (j : Nat) {u : Value} (hj : Nat.blt j C.k = true) (hu : nth (C.f (ga xs i)) j = some u) : w.cell? ⟨adB A, adO A + i * C.k + j, none⟩ = some u := by
  obtain ⟨e, cs, T, fz, hc, hat⟩ := h.2.2 (by omega)
  have h1 := hN _ _ hc
  rw [nth_eq] at hu
  have := hat (i * C.k + j) u (by rw [flat_get C.hf hi (by simpa using hj), ← ga_eq hi]; exact hu)
  rw [cell_of_row w (adB A) _ cs T fz h1, Nat.add_assoc]
  exact this
theorem RdA.cells (h : RdA C N A cp xs) (hN : N.le (hp w)) : ∀ j u, (xs.flatMap C.f)[j]? = some u → w.cell? ⟨adB A, adO A + j, none⟩ = some u := by
  intro j u hu
  have h0 : 0 < xs.length := by
    rcases Nat.eq_zero_or_pos xs.length with h0 | h0
    · have : xs = [] := List.eq_nil_of_length_eq_zero h0
      subst this; simp at hu
    · exact h0
  obtain ⟨e, cs, T, fz, hc, hat⟩ := h.2.2 h0
  rw [cell_of_row w (adB A) _ cs T fz (hN _ _ hc)]
  exact hat j u hu
/-- A block that lasts, known whole. -/
def BxM (N : Hp) (g : Nat) (T : TypeId) (l : List Value) : Prop := N g = some (.cells l.toArray T (0, 0))
theorem BxM.mono {g : Nat} {T : TypeId} {l : List Value} (h : BxM N g T l) (k : N.le N') : BxM N' g T l := k _ _ h
theorem BxM.cell {g : Nat} {T : TypeId} {l : List Value} (h : BxM N g T l) (hN : N.le (hp w)) {o : Nat} {u : Value} (hu : nth l o = some u) : w.cell? ⟨g, o, none⟩ = some u := by
  rw [cell_of_row w g o _ T (0, 0) (hN _ _ h)]
  rw [nth_eq] at hu
  simpa using hu
end

/-! ### Boxes and rows of the call's own -/

def Rs.box (g : Nat) (T : TypeId) (l : List Value) : Rs :=
  ⟨[g], fun h => h g = some (.cells l.toArray T (0, 0)), fun h h' hb hk => by rw [hb g (by simp)]; exact hk⟩
def rb : Value → Nat
  | .slice (some a) _ _ => a.block
  | _ => 0
def RowOk {α : Type} (C : Cd α) (v : Value) (xs : List α) (h : Hp) : Prop :=
  (v = .slice none 0 0 ∧ xs = []) ∨ ∃ g cap cur, v = .slice (some ⟨g, 0, none⟩) xs.length cap ∧ h g = some (.cells cur C.E (0, 0)) ∧ xs.length ≤ cap ∧ cap ≤ maxLen ∧ cur.size = cap * C.k ∧ cur.toList.take (xs.length * C.k) = xs.flatMap C.f
def Rs.row {α : Type} (C : Cd α) (v : Value) (xs : List α) : Rs :=
  ⟨v.ownBlock.toList, RowOk C v xs, fun h h' hb hk => by
    rcases hk with hk | ⟨g, cap, cur, rfl, hg, rest⟩
    · exact .inl hk
    · exact .inr ⟨g, cap, cur, rfl, by rw [hb g (by simp [Value.ownBlock])]; exact hg, rest⟩⟩
section
variable {α : Type} {C : Cd α} {xs : List α} {v : Value} {w w' : World} {M : Hp} {X : Fr} {H H' : List Rs} {i : Nat} {g : Nat} {T : TypeId} {l : List Value}
theorem RowOk.owns (h : RowOk C v xs (hp w)) : w.ownsRow 0 C.E C.k v xs.length (xs.flatMap C.f) := by
  refine ⟨flat_len C.hf xs, ?_⟩
  rcases h with ⟨h1, h2⟩ | ⟨g, cap, cur, h1, h2, h3⟩
  · exact .inl ⟨h1, by rw [h2]; rfl⟩
  · exact .inr ⟨g, cap, cur, h1, Nat.zero_le _, h2, h3⟩
theorem RowOk.of_owns (h : w.ownsRow 0 C.E C.k v xs.length (xs.flatMap C.f)) : RowOk C v xs (hp w) := by
  rcases h.2 with ⟨h1, h2⟩ | ⟨g, cap, cur, h1, _, h2, h3⟩
  · exact .inl ⟨h1, List.eq_nil_of_length_eq_zero h2⟩
  · exact .inr ⟨g, cap, cur, h1, h2, h3⟩
theorem SH.get {r : Rs} (S : SH w M X H) (hi : nth H i = some r) : r.ok (hp w) := by
  rw [nth_eq] at hi
  exact S.ok r (List.mem_of_getElem? hi)
theorem SH.boxc (S : SH w M X H) (hi : nth H i = some (Rs.box g T l)) {o : Nat} {u : Value} (hu : nth l o = some u) : w.cell? ⟨g, o, none⟩ = some u := by
  have h : hp w g = some (.cells l.toArray T (0, 0)) := S.get hi
  rw [cell_of_row w g o _ T (0, 0) h]
  rw [nth_eq] at hu
  simpa using hu
theorem SH.sl (S : SH w M X H) (hi : nth H i = some (Rs.row C v xs)) : ∃ A c, v = .slice A xs.length c ∧ xs.length ≤ c := by
  rcases (S.get hi : RowOk C v xs (hp w)) with ⟨h1, h2⟩ | ⟨g, cap, cur, h1, h2, h3, _⟩
  · exact ⟨none, 0, by rw [h1, h2]; rfl, by rw [h2]; simp⟩
  · exact ⟨_, cap, h1, h3⟩
theorem SH.some_ (S : SH w M X H) (hi : nth H i = some (Rs.row C v xs)) (h0 : 0 < xs.length) : ∃ cap, v = .slice (some ⟨rb v, 0, none⟩) xs.length cap ∧ xs.length ≤ cap := by
  rcases (S.get hi : RowOk C v xs (hp w)) with ⟨h1, h2⟩ | ⟨g, cap, cur, h1, h2, h3, _⟩
  · rw [h2] at h0; simp at h0
  · subst h1
    exact ⟨cap, rfl, h3⟩
theorem SH.rowc [Inhabited α] (S : SH w M X H) (hi : nth H i = some (Rs.row C v xs)) {e j : Nat} {u : Value} (he : e < xs.length) (hj : Nat.blt j C.k = true) (hu : nth (C.f (ga xs e)) j = some u) : w.cell? ⟨rb v, e * C.k + j, none⟩ = some u := by
  obtain ⟨cap, hv, _⟩ := S.some_ hi (by omega)
  have ho := RowOk.owns (S.get hi : RowOk C v xs (hp w))
  rw [hv] at ho
  have hlt : e * C.k + j < xs.length * C.k := by
    have := Nat.mul_le_mul_right C.k (show e + 1 ≤ xs.length by omega)
    rw [Nat.succ_mul] at this
    have h2 : j < C.k := by simpa using hj
    omega
  have := World.ownsRow.cellAt ho (e * C.k + j) hlt
  rw [this, flat_get C.hf he (by simpa using hj), ← ga_eq he, ← hu, nth_eq]
/-- A row of the own that is known to be nil. -/
theorem SH.nilrow (S : SH w M X H) (C : Cd α) : SH w M X (Rs.row C (.slice none 0 0) [] :: H) := S.add (.inl ⟨rfl, rfl⟩) rfl
theorem SH.rowRd (S : SH w M X H) (hi : nth H i = some (Rs.row C v xs)) (hr : xs.length * C.u8 ≤ 140737488355328) {N : Hp} (hN : ∀ b ∈ v.ownBlock.toList, N b = hp w b) : Rds C N v xs := by
  rcases (S.get hi : RowOk C v xs (hp w)) with ⟨h1, h2⟩ | ⟨g, cap, cur, h1, h2, h3, h4, h5, h6⟩
  · subst h1; subst h2
    exact Rds.nil_
  · subst h1
    refine ⟨_, cap, rfl, h3, hr, fun _ => ⟨rfl, cur, C.E, (0, 0), ?_, fun j u hu => ?_⟩⟩
    · show N g = _
      rw [hN g (by simp [Value.ownBlock])]
      exact h2
    · show cur[0 + j]? = some u
      rw [Nat.zero_add]
      rw [← h6, List.getElem?_take] at hu
      split at hu
      · simpa using hu
      · cases hu
/-- What was built up is laid down for good. -/
theorem SH.pubrow (S : SH w M X H) (hi : nth H i = some (Rs.row C v xs)) (hH : H.set i Rs.emp = H') (hr : xs.length * C.u8 ≤ 140737488355328) : ∃ M', M.le M' ∧ SH w M' X H' ∧ Rds C M' v xs := by
  obtain ⟨h1, h2, h3⟩ := S.pub hi hH
  exact ⟨_, h1, h2, S.rowRd hi hr h3⟩
/-- A row that is lent to a call, to be read. -/
theorem SH.lendRd (S : SH w M X H) (hi : nth H i = some (Rs.row C v xs)) (hr : xs.length * C.u8 ≤ 140737488355328) : Rds C (M.un (XH w X H).h) v xs := by
  have hmem : Rs.row C v xs ∈ H := by rw [nth_eq] at hi; exact List.mem_of_getElem? hi
  refine S.rowRd hi hr fun b hb => ?_
  have h1 := S.bl _ hmem b hb
  simp only [Hp.un, h1.2.1, XH, any_bl.2 ⟨_, hmem, hb⟩, if_true]
theorem SH.un_XH (S : SH w M X H) : (M.un X.h).le (M.un (XH w X H).h) := by
  intro b o e
  unfold Hp.un at e ⊢
  cases hm : M b with
  | some o' => rw [hm] at e; exact e
  | none =>
    rw [hm] at e
    simp only [XH]
    split
    · exact S.x b o e
    · exact e
end

/-! ### Running -/

section
variable {P : Program} {o : Oper} {L : List (Nat × Value)} {w w' : World} {x y z : Operand} {t t' T : TypeId} {a b : Int} {v u : Value} {n d : Nat} {Kt : List (Nat × Value) → World → Prop} {M M' : Hp} {X : Fr} {H H' : List Rs} {i g off : Nat} {l : List Value}

/-- One operation, and what comes behind it. -/
def WO (P : Program) (n : Nat) (o : Oper) (L : List (Nat × Value)) (w : World) (Kt : List (Nat × Value) → World → Prop) : Prop :=
  ∀ a, Env n L a → ∀ (next : Act → World → Prop) (Q : Exit → Act → World → Prop), (∀ L' a' w', Env n L' a' → Kt L' w' → next a' w') → o.wp P a w next Q
theorem wl_op {C : Ctx} {c : Code} {s : List K} {k k' : Nat} (ho : op c k = some o) (hk : k' = k.succ) (hg : o.guard = none) (h : WO P n o L w (fun L' w' => WL P n C c k' s L' w')) : WL P n C c k s L w := by
  intro a ha
  rw [drop_op ho]
  subst hk
  refine wpList_plain hg fun K hK => ?_
  exact h a ha K _ fun L' a' w' he hw => hK _ _ (hw a' he)
theorem wl_opG {C : Ctx} {c : Code} {s : List K} {k k' : Nat} (ho : op c k = some o) (hk : k' = k.succ) (hg : Wanted c L o.guard true) (hs : gslot c o n = true) (h : WO P n o L w (fun L' w' => WL P n C c k' s L' w')) : WL P n C c k s L w := by
  intro a ha
  rw [drop_op ho]
  subst hk
  refine wpList_step fun K hK => ?_
  rw [if_pos (wanted_eq ha hg (gslot_spec hs))]
  exact h a ha K _ fun L' a' w' he hw => hK _ _ (hw a' he)
theorem wo_run (hd : o.dst = some d) (hn : Nat.blt d n = true) (hr : Run P o L w v w') (h : Kt ((d, v) :: L) w') : WO P n o L w Kt := by
  intro a ha next Q hk
  unfold Oper.wp
  rw [hr n a ha, Oper.upon_value, hd]
  exact hk _ _ _ (ha.put (by simpa using hn) v) h
theorem wo_runS (hd : o.dst = none) (hr : RunS P o L w w') (h : Kt L w') : WO P n o L w Kt := by
  intro a ha next Q hk
  unfold Oper.wp
  rw [hr n a ha, Oper.upon_skip, hd]
  exact hk _ _ _ ha h
theorem wo_call {f : FuncId} {vs : List Value} {ca : Call} {fo : Operand} {xs : List Operand} (hd : o.dst = some d) (hop : o.op = .call ca) (hca : ca.callee = .value fo) (hfo : oev L fo = some (.func (.func f) #[] #[]))
    (hxs : ca.args = xs.toArray) (hvs : oevs L xs = some vs) (hn : Nat.blt d n = true) (hen : ∀ args w, (callFunc f args).run P w = .ok (.enter f args) w)
    {R : Value → World → Prop} (hcall : Calls P f vs.toArray w fun e w' => ∃ v, e = .returned v ∧ R v w') (h : ∀ v w', R v w' → Kt ((d, v) :: L) w') : WO P n o L w Kt := by
  intro a ha next Q hk
  have hr : (execOp a.eval o).run P w = .ok (.enter f vs.toArray) w := by
    unfold execOp
    simp only [hop, resolve, hca, ha.eval hfo, hxs, List.map_toArray, ha.evals hvs, Deferred.ofValue, Sem.run_bind, Sem.run_pure, Result.andThen_ok, invoke, Array.empty_append, Array.append_empty]
    exact hen _ _
  unfold Oper.wp
  rw [hr, Oper.upon_enter, hd]
  refine hcall.mono ?_
  rintro e w' ⟨v, rfl, hR⟩
  exact hk _ _ _ (ha.put (by simpa using hn) v) (h v w' hR)

/-- What a call does: the results last; what others own stays. -/
def Ct (P : Program) (f : FuncId) (vs : List Value) (w : World) (M : Hp) (X : Fr) (R : Value → Hp → Prop) : Prop :=
  Calls P f vs.toArray w fun e w' => ∃ v, e = .returned v ∧ ∃ M', M.le M' ∧ SH w' M' X [] ∧ R v M'
/-- A call that only computes. -/
def Cq (P : Program) (f : FuncId) (vs : List Value) (w : World) (M : Hp) (X : Fr) (R : Value → Prop) : Prop :=
  Calls P f vs.toArray w fun e w' => ∃ v, e = .returned v ∧ SH w' M X [] ∧ R v
/-- A call that writes into a thing that it is lent. -/
def C1 (P : Program) (f : FuncId) (vs : List Value) (w : World) (M : Hp) (X : Fr) (R : Value → Hp → Rs → Prop) : Prop :=
  Calls P f vs.toArray w fun e w' => ∃ v, e = .returned v ∧ ∃ M' r', M.le M' ∧ SH w' M' X [r'] ∧ R v M' r'
theorem wo_ct {f : FuncId} {vs : List Value} {ca : Call} {fo : Operand} {xs : List Operand} (hd : o.dst = some d) (hop : o.op = .call ca) (hca : ca.callee = .value fo) (hfo : oev L fo = some (.func (.func f) #[] #[]))
    (hxs : ca.args = xs.toArray) (hvs : oevs L xs = some vs) (hn : Nat.blt d n = true) (hen : ∀ args w, (callFunc f args).run P w = .ok (.enter f args) w) (S : SH w M X H)
    {R : Value → Hp → Prop} (hcall : Ct P f vs w M (XH w X H) R) (h : ∀ v w' M', M.le M' → SH w' M' X H → R v M' → Kt ((d, v) :: L) w') : WO P n o L w Kt :=
  wo_call (R := fun v w' => ∃ M', M.le M' ∧ SH w' M' (XH w X H) [] ∧ R v M') hd hop hca hfo hxs hvs hn hen hcall fun v w' ⟨M', h1, h2, h4⟩ => h v w' M' h1 (S.back h2) h4
theorem wo_cq {f : FuncId} {vs : List Value} {ca : Call} {fo : Operand} {xs : List Operand} (hd : o.dst = some d) (hop : o.op = .call ca) (hca : ca.callee = .value fo) (hfo : oev L fo = some (.func (.func f) #[] #[]))
    (hxs : ca.args = xs.toArray) (hvs : oevs L xs = some vs) (hn : Nat.blt d n = true) (hen : ∀ args w, (callFunc f args).run P w = .ok (.enter f args) w) (S : SH w M X H)
    {R : Value → Prop} (hcall : Cq P f vs w M (XH w X H) R) (h : ∀ v w', SH w' M X H → R v → Kt ((d, v) :: L) w') : WO P n o L w Kt :=
  wo_call (R := fun v w' => SH w' M (XH w X H) [] ∧ R v) hd hop hca hfo hxs hvs hn hen hcall fun v w' ⟨h2, h4⟩ => h v w' (S.back h2) h4
/-- A call that hands over things to own. -/
def Co (P : Program) (f : FuncId) (vs : List Value) (w : World) (M : Hp) (X : Fr) (R : Value → List Rs → Prop) : Prop :=
  Calls P f vs.toArray w fun e w' => ∃ v, e = .returned v ∧ ∃ N, SH w' M X N ∧ R v N
theorem wo_co {f : FuncId} {vs : List Value} {ca : Call} {fo : Operand} {xs : List Operand} (hd : o.dst = some d) (hop : o.op = .call ca) (hca : ca.callee = .value fo) (hfo : oev L fo = some (.func (.func f) #[] #[]))
    (hxs : ca.args = xs.toArray) (hvs : oevs L xs = some vs) (hn : Nat.blt d n = true) (hen : ∀ args w, (callFunc f args).run P w = .ok (.enter f args) w) (S : SH w M X H)
    {R : Value → List Rs → Prop} (hcall : Co P f vs w M (XH w X H) R) (h : ∀ v w' N, SH w' M X (N ++ H) → R v N → Kt ((d, v) :: L) w') : WO P n o L w Kt :=
  wo_call (R := fun v w' => ∃ N, SH w' M (XH w X H) N ∧ R v N) hd hop hca hfo hxs hvs hn hen hcall fun v w' ⟨N, h2, h4⟩ => h v w' N (S.backN h2) h4
theorem wo_c1 {r : Rs} {f : FuncId} {vs : List Value} {ca : Call} {fo : Operand} {xs : List Operand} (hd : o.dst = some d) (hop : o.op = .call ca) (hca : ca.callee = .value fo) (hfo : oev L fo = some (.func (.func f) #[] #[]))
    (hxs : ca.args = xs.toArray) (hvs : oevs L xs = some vs) (hn : Nat.blt d n = true) (hen : ∀ args w, (callFunc f args).run P w = .ok (.enter f args) w) (S : SH w M X H) (hi : nth H i = some r)
    {R : Value → Hp → Rs → Prop} (hcall : C1 P f vs w M (XH w X (H.set i Rs.emp)) R) (h : ∀ v w' M' r', M.le M' → SH w' M' X (H.set i r') → R v M' r' → Kt ((d, v) :: L) w') : WO P n o L w Kt :=
  wo_call (R := fun v w' => ∃ M' r', M.le M' ∧ SH w' M' (XH w X (H.set i Rs.emp)) [r'] ∧ R v M' r') hd hop hca hfo hxs hvs hn hen hcall fun v w' ⟨M', r', h1, h2, h4⟩ => h v w' M' r' h1 (S.back1 hi h2 rfl) h4

def flatD : TypeDesc → Bool
  | .struct _ => false
  | .array _ _ => false
  | _ => true
theorem run_isAgg {T : TypeId} {dd : TypeDesc} (hu : P.underlying T = some dd) (w : World) : (isAgg T).run P w = .ok (!flatD dd) w := by
  unfold isAgg
  simp only [Sem.run_bind, run_underlying hu, Result.andThen_ok]
  cases dd <;> rfl
theorem run_sizeOf {T : TypeId} {k : Nat} (hk : (P.info? T).map (·.size) = some k) (w : World) : (sizeOf T).run P w = .ok k w := by
  cases hi : P.info? T with
  | none => rw [hi] at hk; cases hk
  | some inf =>
    rw [hi] at hk
    simp only [Option.map_some, Option.some.injEq] at hk
    simp [sizeOf, typeInfo, hi, hk]
theorem run_load1 {dd : TypeDesc} {p : Addr} (ho : o.op = .load T x) (hx : oev L x = some (.pointer (some p))) (hu : P.underlying T = some dd) (hd : flatD dd = true) (hc : w.cell? p = some u) : Run P o L w u w := by
  intro n c he
  unfold execOp
  simp only [ho, he.eval hx, Instr.loadAt, Instr.sureAddr, Sem.run_bind, Sem.run_pure, Result.andThen_ok, loadVar, run_isAgg hu, hd, Bool.not_true, Bool.false_eq_true, if_false, run_load, hc]
theorem loadVarN {dd : TypeDesc} {blk : Nat} {us : List Value} (hu : P.underlying T = some dd) (hd : flatD dd = false) (hk : (P.info? T).map (·.size) = some us.length)
    (hc : ∀ j u, us[j]? = some u → w.cell? ⟨blk, off + j, none⟩ = some u) : (loadVar T ⟨blk, off, none⟩).run P w = .ok (.agg us.toArray) w := by
  have hl := run_loadCells_list (P := P) w ⟨blk, off, none⟩ us (fun j u hj => by
    have := hc j u hj
    unfold Addr.add
    split
    · rename_i e; subst e; exact this
    · exact this)
  simp only [loadVar, Sem.run_bind, Sem.run_pure, Result.andThen_ok, run_isAgg hu, hd, Bool.not_false, if_true, run_sizeOf hk, hl]
theorem loadVar1 {dd : TypeDesc} {p : Addr} (hu : P.underlying T = some dd) (hd : flatD dd = true) (hc : w.cell? p = some u) : (loadVar T p).run P w = .ok u w := by
  simp only [Sem.run_bind, Result.andThen_ok, loadVar, run_isAgg hu, hd, Bool.not_true, Bool.false_eq_true, if_false, run_load, hc]
theorem run_loadN {dd : TypeDesc} {blk : Nat} {us : List Value} (ho : o.op = .load T x) (hx : oev L x = some (.pointer (some ⟨blk, off, none⟩))) (hu : P.underlying T = some dd) (hd : flatD dd = false) (hk : (P.info? T).map (·.size) = some us.length)
    (hc : ∀ j u, us[j]? = some u → w.cell? ⟨blk, off + j, none⟩ = some u) : Run P o L w (.agg us.toArray) w := by
  intro n c he
  unfold execOp
  simp only [ho, he.eval hx, Instr.loadAt, Instr.sureAddr, Sem.run_bind, Sem.run_pure, Result.andThen_ok, loadVarN hu hd hk hc]
/-- A piece of a box. -/
def piece (l : List Value) : Nat → List Value → Prop
  | _, [] => True
  | o, u :: us => nth l o = some u ∧ piece l (o + 1) us
theorem piece_at {l : List Value} : ∀ {us : List Value} {o : Nat}, piece l o us → ∀ j u, us[j]? = some u → nth l (o + j) = some u
  | [], o, _, j, u, h => by simp at h
  | a :: us, o, hp, 0, u, h => by simp at h; subst h; exact hp.1
  | a :: us, o, hp, j + 1, u, h => by
    have := piece_at hp.2 j u (by simpa using h)
    rwa [show o + 1 + j = o + (j + 1) by omega] at this
theorem SH.boxcs (S : SH w M X H) (hi : nth H i = some (Rs.box g T l)) {us : List Value} (hp : piece l off us) : ∀ j u, us[j]? = some u → w.cell? ⟨g, off + j, none⟩ = some u :=
  fun j u hu => S.boxc hi (piece_at hp j u hu)
theorem SH.rowcs {α : Type} [Inhabited α] {C : Cd α} {ys : List α} (S : SH w M X H) (hi : nth H i = some (Rs.row C v ys)) {e j : Nat} (he : e < ys.length) {us : List Value} (hp : piece (C.f (ga ys e)) j us) : ∀ m u, us[m]? = some u → w.cell? ⟨rb v, e * C.k + j + m, none⟩ = some u := by
  intro m u hu
  have h1 := piece_at hp m u hu
  have h2 : j + m < C.k := by rw [nth_eq] at h1; have := (List.getElem?_eq_some_iff.1 h1).1; rwa [C.hf] at this
  have := S.rowc hi he (j := j + m) (by simpa using h2) h1
  rwa [← Nat.add_assoc] at this
theorem BxM.cells {N : Hp} (h : BxM N g T l) (hN : N.le (hp w)) {us : List Value} (hp : piece l off us) : ∀ j u, us[j]? = some u → w.cell? ⟨g, off + j, none⟩ = some u :=
  fun j u hu => h.cell hN (piece_at hp j u hu)
theorem RdA.cellsAt {α : Type} [Inhabited α] {C : Cd α} {N : Hp} {A : Option Addr} {cp : Nat} {ys : List α} (h : RdA C N A cp ys) (hN : N.le (hp w)) {e : Nat} (he : e < ys.length) {j : Nat} {us : List Value} (hp : piece (C.f (ga ys e)) j us) : ∀ m u, us[m]? = some u → w.cell? ⟨adB A, adO A + e * C.k + j + m, none⟩ = some u := by
  intro m u hu
  have h1 := piece_at hp m u hu
  have h2 : j + m < C.k := by rw [nth_eq] at h1; have := (List.getElem?_eq_some_iff.1 h1).1; rwa [C.hf] at this
  have := h.cell hN he (j + m) (by simpa using h2) h1
  rwa [← Nat.add_assoc] at this

/-! A new block -/
theorem size_al (w : World) (ob : Obj) : (w.alloc ob).heap.size = w.heap.size + 1 := by show (w.heap.push ob).size = _; simp
theorem like_alloc (w : World) (ob : Obj) : Like w (w.alloc ob) := ⟨rfl, rfl, rfl, by rw [size_al]; omega⟩
theorem keep_alloc (w : World) (ob : Obj) : ∀ b, b < w.heap.size → hp (w.alloc ob) b = hp w b := fun b hb => heap_alloc_old w ob hb
theorem SH.newbox (S : SH w M X H) (T : TypeId) (l : List Value) : SH (w.alloc (.cells l.toArray T)) M X (Rs.box w.heap.size T l :: H) :=
  S.cons (like_alloc w _) (keep_alloc w _) (heap_alloc_new w _) (fun b hb => by simp [Rs.box] at hb; subst hb; rw [size_al]; omega)
theorem wo_box (hop : o.op = .box T x) (hd : o.dst = some d) (hn : Nat.blt d n = true) (hx : oev L x = some v) (hl : v.cells.toList = l) (S : SH w M X H)
    (h : ∀ g w', SH w' M X (Rs.box g T l :: H) → Kt ((d, .pointer (some ⟨g, 0, none⟩)) :: L) w') : WO P n o L w Kt := by
  subst hl
  refine wo_run (v := .pointer (some ⟨w.heap.size, 0, none⟩)) (w' := w.alloc (.cells v.cells T)) hd hn ?_ (h _ _ ?_)
  · intro n c he
    unfold execOp
    simp only [hop, he.eval hx, Instr.box, newVar, newRow, run_newObj, Sem.run_bind, Sem.run_pure, Result.andThen_ok]
    rfl
  · have := S.newbox T v.cells.toList
    rwa [Array.toArray_toList] at this
theorem wo_alloc {zv : Value} (hop : o.op = .alloc T) (hd : o.dst = some d) (hn : Nat.blt d n = true) (hz : (P.info? T).map (·.zero) = some (some zv)) (hl : zv.cells.toList = l) (S : SH w M X H)
    (h : ∀ g w', SH w' M X (Rs.box g T l :: H) → Kt ((d, .pointer (some ⟨g, 0, none⟩)) :: L) w') : WO P n o L w Kt := by
  subst hl
  refine wo_run (v := .pointer (some ⟨w.heap.size, 0, none⟩)) (w' := w.alloc (.cells zv.cells T)) hd hn ?_ (h _ _ ?_)
  · intro n c he
    have hzv : (zeroValue T).run P w = .ok zv w := by
      cases hi : P.info? T with
      | none => rw [hi] at hz; cases hz
      | some inf =>
        rw [hi] at hz
        simp only [Option.map_some, Option.some.injEq] at hz
        simp [zeroValue, typeInfo, hi, hz]
    unfold execOp
    simp only [hop, Instr.alloc, hzv, newVar, newRow, run_newObj, Sem.run_bind, Sem.run_pure, Result.andThen_ok]
    rfl
  · have := S.newbox T zv.cells.toList
    rwa [Array.toArray_toList] at this

/-! Stores -/
theorem like_setRow (w : World) (g : Nat) (cs : Array Value) : Like w (w.setRow g cs) := ⟨rfl, rfl, rfl, by simp⟩
theorem keep_setRow (w : World) (g : Nat) (cs : Array Value) : ∀ b, b ≠ g → hp (w.setRow g cs) b = hp w b := fun b hb => setRow_other w g b cs hb
def ones : List Value → Bool
  | [] => true
  | u :: us => u.oneCell' && ones us
theorem ones_spec : ∀ {us : List Value}, ones us = true → ∀ u ∈ us, u.oneCell' = true
  | [], _, u, h => by cases h
  | a :: us, h, u, hu => by
    simp only [ones, Bool.and_eq_true] at h
    rcases List.mem_cons.1 hu with rfl | hu
    · exact h.1
    · exact ones_spec h.2 u hu
theorem run_storeAt {blk : Nat} {us : List Value} {E : TypeId} {cur : Array Value} (hop : o.op = .store T x y) (hx : oev L x = some (.pointer (some ⟨blk, off, none⟩))) (hy : oev L y = some v) (hl : v.cells.toList = us) (hk : (P.info? T).map (·.size) = some us.length)
    (hg : w.heap[blk]? = some (.cells cur E (0, 0))) (hfit : off + us.length ≤ cur.size) (h1 : ∀ u ∈ us, u.oneCell' = true) : RunS P o L w (w.setRow blk (cur.toList.take off ++ us ++ cur.toList.drop (off + us.length)).toArray) := by
  intro n c he
  have hs := run_storeCells_at (P := P) blk off E us 0 cur w hg (by simpa using hfit) h1
  unfold execOp
  subst hl
  have hk' : (P.info? T).map (·.size) = some v.cells.size := by rw [hk]; simp
  simp only [hop, he.eval hx, he.eval hy, Instr.storeAt, Instr.sureAddr, storeVar, Sem.run_bind, Sem.run_pure, Result.andThen_ok, run_sizeOf hk', ne_eq, not_true_eq_false, if_false]
  rw [hs]
  simp
theorem wo_storeB {us l' : List Value} {E : TypeId} (hop : o.op = .store T x y) (hd : o.dst = none) (S : SH w M X H) (hi : nth H i = some (Rs.box g E l)) (hx : oev L x = some (.pointer (some ⟨g, off, none⟩))) (hy : oev L y = some v) (hl : v.cells.toList = us) (hk : (P.info? T).map (·.size) = some us.length)
    (hfit : Nat.ble (off + us.length) l.length = true) (h1 : ones us = true) (hl' : spl l off us = l') (hH : H.set i (Rs.box g E l') = H') (h : ∀ w', SH w' M X H' → Kt L w') : WO P n o L w Kt := by
  have hg : hp w g = some (.cells l.toArray E (0, 0)) := S.get hi
  have hfit' : off + us.length ≤ l.length := by simpa using hfit
  refine wo_runS hd (run_storeAt hop hx hy hl hk hg (by simpa using hfit') (ones_spec h1)) (h _ ?_)
  refine S.step hi hH (like_setRow _ _ _) (fun b _ hb => keep_setRow _ _ _ b (by simpa [Rs.box] using hb)) ?_ (fun b hb => ⟨.inl hb, ?_⟩)
  · show hp _ g = some _
    rw [← hl', spl_eq us l off hfit']
    have := setRow_heap w g l.toArray ((l.toArray).toList.take off ++ us ++ (l.toArray).toList.drop (off + us.length)).toArray E (0, 0) hg
    simpa [hp] using this
  · simp [Rs.box] at hb
    subst hb
    have := hp_lt hg
    simpa using this
theorem flat_spl {α : Type} {C : Cd α} (ys : List α) (e j : Nat) (us : List Value) (y' : α) (he : e < ys.length) (hj : j + us.length ≤ C.k) (hy : spl (C.f ys[e]) j us = C.f y') : spl (ys.flatMap C.f) (e * C.k + j) us = (ys.set e y').flatMap C.f := by
  have hlen : (ys.flatMap C.f).length = ys.length * C.k := flat_len C.hf ys
  have hle : e * C.k + C.k ≤ ys.length * C.k := by rw [← Nat.succ_mul]; exact Nat.mul_le_mul_right _ he
  apply List.ext_getElem?
  intro m
  rw [spl_get us _ _ m (by rw [hlen]; omega)]
  by_cases hm : m < ys.length * C.k
  · have hk0 : 0 < C.k := by
      rcases Nat.eq_zero_or_pos C.k with h | h
      · rw [h, Nat.mul_zero] at hm; omega
      · exact h
    have hmi : m / C.k < ys.length := (Nat.div_lt_iff_lt_mul hk0).2 hm
    have hmj : m % C.k < C.k := Nat.mod_lt _ hk0
    have em : m / C.k * C.k + m % C.k = m := by rw [Nat.mul_comm]; exact Nat.div_add_mod m C.k
    have g1 := flat_get C.hf hmi hmj
    have g2 := flat_get (xs := ys.set e y') C.hf (i := m / C.k) (j := m % C.k) (by rw [List.length_set]; exact hmi) hmj
    rw [em] at g1 g2
    rw [g2, g1]
    by_cases h1 : e = m / C.k
    · have e2 : (ys.set e y')[m / C.k]'(by rw [List.length_set]; exact hmi) = y' := by subst h1; simp
      rw [e2, ← hy, spl_get us _ j _ (by rw [C.hf]; exact hj)]
      have em' : m = e * C.k + m % C.k := by rw [h1]; exact em.symm
      have e3 : ys[m / C.k] = ys[e] := by congr 1; exact h1.symm
      rw [e3]
      by_cases h2 : j ≤ m % C.k ∧ m % C.k < j + us.length
      · rw [if_pos h2, if_pos (by omega)]; congr 1; omega
      · rw [if_neg h2, if_neg (by omega)]
    · have e2 : (ys.set e y')[m / C.k]'(by rw [List.length_set]; exact hmi) = ys[m / C.k] := by rw [List.getElem_set_ne h1]
      rw [e2, if_neg]
      rintro ⟨h2, h3⟩
      apply h1
      have h4 : e * C.k ≤ m := by omega
      have h5 : m < (e + 1) * C.k := by rw [Nat.succ_mul]; omega
      have := (Nat.le_div_iff_mul_le hk0).2 h4
      have := (Nat.div_lt_iff_lt_mul hk0).2 h5
      omega
  · rw [if_neg (by omega), List.getElem?_eq_none (by omega), List.getElem?_eq_none (by rw [flat_len C.hf, List.length_set]; omega)]
theorem wo_storeR {α : Type} [Inhabited α] {C : Cd α} {ys : List α} {us : List Value} {rv : Value} {e j : Nat} (y' : α) (hop : o.op = .store T x y) (hd : o.dst = none) (S : SH w M X H) (hi : nth H i = some (Rs.row C rv ys)) (he : e < ys.length) (hx : oev L x = some (.pointer (some ⟨rb rv, e * C.k + j, none⟩))) (hy : oev L y = some v) (hl : v.cells.toList = us) (hk : (P.info? T).map (·.size) = some us.length)
    (hfit : Nat.ble (j + us.length) C.k = true) (h1 : ones us = true) (hl' : spl (C.f (ga ys e)) j us = C.f y') (hH : H.set i (Rs.row C rv (ys.set e y')) = H') (h : ∀ w', SH w' M X H' → Kt L w') : WO P n o L w Kt := by
  have hfit' : j + us.length ≤ C.k := by simpa using hfit
  rw [ga_eq he] at hl'
  rcases (S.get hi : RowOk C rv ys (hp w)) with ⟨_, h2⟩ | ⟨g, cap, cur, rfl, h2, h3, h4, h5, h6⟩
  · subst h2; simp at he
  · have hcur : e * C.k + j + us.length ≤ cur.size := by
      have h7 : e * C.k + C.k ≤ cap * C.k := by rw [← Nat.succ_mul]; exact Nat.mul_le_mul_right _ (by omega)
      omega
    have hx' : oev L x = some (.pointer (some ⟨g, e * C.k + j, none⟩)) := hx
    refine wo_runS hd (run_storeAt hop hx' hy hl hk h2 hcur (ones_spec h1)) (h _ ?_)
    have hcur' : e * C.k + j + us.length ≤ cur.toList.length := by simpa using hcur
    rw [← spl_eq us cur.toList (e * C.k + j) hcur']
    refine S.step hi hH (like_setRow _ _ _) (fun b _ hb => keep_setRow _ _ _ b (by simpa [Rs.row, Value.ownBlock] using hb)) ?_ (fun b hb => ⟨.inl hb, ?_⟩)
    · have hs := setRow_heap w g cur (spl cur.toList (e * C.k + j) us).toArray C.E (0, 0) h2
      refine .inr ⟨g, cap, (spl cur.toList (e * C.k + j) us).toArray, by rw [List.length_set], hs, by rw [List.length_set]; exact h3, h4, by simp [spl_len, h5], ?_⟩
      rw [List.length_set, ← flat_spl ys e j us y' he hfit' hl', ← h6]
      apply List.ext_getElem?
      intro m
      have hle : e * C.k + C.k ≤ ys.length * C.k := by rw [← Nat.succ_mul]; exact Nat.mul_le_mul_right _ he
      have hys : ys.length * C.k ≤ cur.size := by rw [h5]; exact Nat.mul_le_mul_right _ h3
      rw [List.getElem?_take, spl_get us _ _ _ hcur', spl_get us _ _ _ (by simp; omega), List.getElem?_take]
      by_cases hm : m < ys.length * C.k
      · rw [if_pos hm, if_pos hm]
      · rw [if_neg hm, if_neg hm, if_neg (by omega)]
    · simp [Rs.row, Value.ownBlock] at hb
      subst hb
      have := hp_lt h2
      simpa using this
end
end Go.Proofs.Ytkcighnochjlgaa
