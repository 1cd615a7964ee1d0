/- A row of the call's own whose elements are rows of its own; pointers. Nothing of one program stands here. -/
import Derived.Test.YtkcighnochjlgaaE8
import Derived.Laws.Pointers
namespace Go.Proofs.Ytkcighnochjlgaa
open Go.ChangeShapes Go.WideShapes Go.ChangeAt Go.RowKit

def SlV.v (s : SlV) : Value := .slice s.A s.n s.c
def tabBl (vs : List SlV) : List Nat := vs.flatMap (fun s => s.v.ownBlock.toList)
def TabOk {α : Type} (C : Cd α) (vs : List SlV) (xss : List (List α)) (h : Hp) : Prop :=
  vs.length = xss.length ∧ (∀ i, i < xss.length → RowOk C (ga vs i).v (ga xss i) h) ∧ ∀ i j, i < vs.length → j < vs.length → i ≠ j → ∀ b ∈ (ga vs i).v.ownBlock.toList, b ∉ (ga vs j).v.ownBlock.toList
theorem tab_mem {vs : List SlV} {b : Nat} : b ∈ tabBl vs ↔ ∃ i, i < vs.length ∧ b ∈ (ga vs i).v.ownBlock.toList := by
  unfold tabBl
  rw [List.mem_flatMap]
  constructor
  · rintro ⟨s, hs, hb⟩
    obtain ⟨i, hi, rfl⟩ := List.mem_iff_getElem.1 hs
    exact ⟨i, hi, by rw [ga_eq hi]; exact hb⟩
  · rintro ⟨i, hi, hb⟩
    exact ⟨ga vs i, ga_mem hi, hb⟩
/-- The inner rows. -/
def Rs.tab {α : Type} (C : Cd α) (vs : List SlV) (xss : List (List α)) : Rs :=
  ⟨tabBl vs, TabOk C vs xss, fun h h' hb hk => ⟨hk.1, fun i hi => (Rs.row C (ga vs i).v (ga xss i)).loc h h' (fun b hm => hb b (tab_mem.2 ⟨i, by rw [hk.1]; exact hi, hm⟩)) (hk.2.1 i hi), hk.2.2⟩⟩

section
variable {α : Type} {C : Cd α} {xs zs : List α} {v : Value} {w w' : World} {M : Hp} {X : Fr} {H H' : List Rs} {i q g k : Nat} {T : TypeId} {l : List Value} {vs : List SlV} {xss : List (List α)} {r s t : Rs}

theorem SH.newtab (S : SH w M X H) (C : Cd α) (n : Nat) : SH w M X (Rs.tab C (List.replicate n ⟨none, 0, 0⟩) (List.replicate n []) :: H) := by
  have hb : tabBl (List.replicate n ⟨none, 0, 0⟩) = [] := by
    unfold tabBl
    rw [List.flatMap_eq_nil_iff]
    intro x hx
    rw [List.eq_of_mem_replicate hx]
    rfl
  refine S.add ⟨by simp, fun i hi => ?_, fun i j hi hj _ b hb' => ?_⟩ hb
  · rw [List.length_replicate] at hi
    rw [ga_rep _ _ _ hi, ga_rep _ _ _ hi]
    exact .inl ⟨rfl, rfl⟩
  · rw [List.length_replicate] at hi
    rw [ga_rep _ _ _ hi] at hb'
    cases hb'
theorem SH.newtab0 (S : SH w M X H) (C : Cd α) : SH w M X (Rs.tab C [] [] :: H) := S.newtab C 0
/-- Two things become one. -/
theorem SH.merge (S : SH w M X H) (hi : nth H i = some r) (hq : nth H q = some s) (hiq : i ≠ q) (hok : t.ok (hp w)) (hbl : ∀ b ∈ t.bl, b ∈ r.bl ∨ b ∈ s.bl) (hH : (H.set i t).set q Rs.emp = H') : SH w M X H' := by
  subst hH
  rw [nth_eq] at hi hq
  have hget : ∀ j u, ((H.set i t).set q Rs.emp)[j]? = some u → (j = q ∧ u = Rs.emp) ∨ (j ≠ q ∧ j = i ∧ u = t) ∨ (j ≠ q ∧ j ≠ i ∧ H[j]? = some u) := fun j u hu => by
    rw [List.getElem?_set] at hu
    by_cases h1 : q = j
    · subst h1
      rw [if_pos rfl] at hu
      split at hu
      · injection hu with hu; exact .inl ⟨rfl, hu.symm⟩
      · cases hu
    · rw [if_neg h1, List.getElem?_set] at hu
      by_cases h2 : i = j
      · subst h2
        rw [if_pos rfl] at hu
        split at hu
        · injection hu with hu; exact .inr (.inl ⟨fun e => h1 e.symm, rfl, hu.symm⟩)
        · cases hu
      · rw [if_neg h2] at hu
        exact .inr (.inr ⟨fun e => h1 e.symm, fun e => h2 e.symm, hu⟩)
  refine ⟨S.m, S.x, S.mx, fun u hu => ?_, fun u hu b hb => ?_, fun j m u y hjm hu hy b hb => ?_, S.like⟩
  · obtain ⟨j, hj⟩ := List.mem_iff_getElem?.1 hu
    rcases hget j u hj with ⟨_, rfl⟩ | ⟨_, _, rfl⟩ | ⟨_, _, h⟩
    · trivial
    · exact hok
    · exact S.ok u (List.mem_of_getElem? h)
  · obtain ⟨j, hj⟩ := List.mem_iff_getElem?.1 hu
    rcases hget j u hj with ⟨_, rfl⟩ | ⟨_, _, rfl⟩ | ⟨_, _, h⟩
    · cases hb
    · rcases hbl b hb with h | h
      · exact S.bl r (List.mem_of_getElem? hi) b h
      · exact S.bl s (List.mem_of_getElem? hq) b h
    · exact S.bl u (List.mem_of_getElem? h) b hb
  · rcases hget j u hu with ⟨_, rfl⟩ | ⟨h1, rfl, rfl⟩ | ⟨h1, h2, h⟩
    · cases hb
    · rcases hget m y hy with ⟨_, rfl⟩ | ⟨_, rfl, _⟩ | ⟨h3, h4, h⟩
      · intro hc; cases hc
      · exact absurd rfl hjm
      · rcases hbl b hb with hb | hb
        · exact S.ap j m r y hjm hi h b hb
        · exact S.ap q m s y (fun e => h3 e.symm) hq h b hb
    · rcases hget m y hy with ⟨_, rfl⟩ | ⟨h3, rfl, rfl⟩ | ⟨_, _, h'⟩
      · intro hc; cases hc
      · intro hc
        rcases hbl b hc with hc | hc
        · exact S.ap j m u r hjm h hi b hb hc
        · exact S.ap j q u s h1 h hq b hb hc
      · exact S.ap j m u y hjm h h' b hb
theorem ga_set_ne {β : Type} [Inhabited β] (xs : List β) (i j : Nat) (y : β) (h : i ≠ j) : ga (xs.set i y) j = ga xs j := by
  unfold ga
  rw [List.getD_eq_getElem?_getD, List.getD_eq_getElem?_getD, List.getElem?_set, if_neg h]
/-- A row goes into the table. -/
theorem SH.tabput {A : Option Addr} {c : Nat} (S : SH w M X H) (k : Nat) (hi : nth H i = some (Rs.tab C vs xss)) (hq : nth H q = some (Rs.row C (.slice A zs.length c) zs)) (hiq : i ≠ q) (hk : k < xss.length) (hH : (H.set i (Rs.tab C (vs.set k ⟨A, zs.length, c⟩) (xss.set k zs))).set q Rs.emp = H') : SH w M X H' := by
  have ht : TabOk C vs xss (hp w) := S.get hi
  have hr : RowOk C (.slice A zs.length c) zs (hp w) := S.get hq
  have hkv : k < vs.length := by rw [ht.1]; exact hk
  have hap : ∀ j, j < vs.length → ∀ b ∈ (ga vs j).v.ownBlock.toList, b ∉ (Value.slice A zs.length c).ownBlock.toList := fun j hj b hb => by
    rw [nth_eq] at hi hq
    exact S.ap i q _ _ hiq hi hq b (tab_mem.2 ⟨j, hj, hb⟩)
  refine S.merge (t := Rs.tab C (vs.set k ⟨A, zs.length, c⟩) (xss.set k zs)) hi hq hiq ⟨by simp [ht.1], fun j hj => ?_, fun j m hj hm hjm b hb => ?_⟩ (fun b hb => ?_) hH
  · rw [List.length_set] at hj
    rw [ga_set _ _ _ _ hkv, ga_set _ _ _ _ hk]
    by_cases h : k = j
    · rw [if_pos h, if_pos h]; exact hr
    · rw [if_neg h, if_neg h]; exact ht.2.1 j hj
  · rw [List.length_set] at hj hm
    rw [ga_set _ _ _ _ hkv] at hb ⊢
    by_cases h1 : k = j
    · rw [if_pos h1] at hb
      rw [if_neg (by omega)]
      exact fun hc => hap m hm b hc hb
    · rw [if_neg h1] at hb
      by_cases h2 : k = m
      · rw [if_pos h2]; exact hap j hj b hb
      · rw [if_neg h2]; exact ht.2.2 j m hj hm hjm b hb
  · obtain ⟨j, hj, hb⟩ := tab_mem.1 hb
    rw [List.length_set] at hj
    rw [ga_set _ _ _ _ hkv] at hb
    by_cases h : k = j
    · rw [if_pos h] at hb; exact .inr hb
    · rw [if_neg h] at hb; exact .inl (tab_mem.2 ⟨j, hj, hb⟩)
/-- A row goes behind the table's last one. -/
theorem SH.tabsnoc {A : Option Addr} {c : Nat} (S : SH w M X H) (hi : nth H i = some (Rs.tab C vs xss)) (hq : nth H q = some (Rs.row C (.slice A zs.length c) zs)) (hiq : i ≠ q) (hH : (H.set i (Rs.tab C (vs ++ [⟨A, zs.length, c⟩]) (xss ++ [zs]))).set q Rs.emp = H') : SH w M X H' := by
  have ht : TabOk C vs xss (hp w) := S.get hi
  have hr : RowOk C (.slice A zs.length c) zs (hp w) := S.get hq
  have hap : ∀ j, j < vs.length → ∀ b ∈ (ga vs j).v.ownBlock.toList, b ∉ (Value.slice A zs.length c).ownBlock.toList := fun j hj b hb => by
    rw [nth_eq] at hi hq
    exact S.ap i q _ _ hiq hi hq b (tab_mem.2 ⟨j, hj, hb⟩)
  have hga : ∀ j, j < vs.length + 1 → ga (vs ++ [(⟨A, zs.length, c⟩ : SlV)]) j = if j < vs.length then ga vs j else ⟨A, zs.length, c⟩ := fun j hj => by
    split
    · rename_i h; exact ga_append_left _ _ _ h
    · rw [ga_append_right _ _ _ (by omega), show j - vs.length = 0 by omega]; rfl
  refine S.merge (t := Rs.tab C (vs ++ [⟨A, zs.length, c⟩]) (xss ++ [zs])) hi hq hiq ⟨by simp [ht.1], fun j hj => ?_, fun j m hj hm hjm b hb => ?_⟩ (fun b hb => ?_) hH
  · rw [List.length_append, List.length_singleton] at hj
    rw [hga j (by rw [ht.1]; exact hj)]
    by_cases h : j < vs.length
    · rw [if_pos h, ga_append_left _ _ _ (by rw [← ht.1]; exact h)]; exact ht.2.1 j (by rw [← ht.1]; exact h)
    · rw [if_neg h, ga_append_right _ _ _ (by rw [← ht.1]; omega), show j - xss.length = 0 by rw [← ht.1]; rw [← ht.1] at hj; omega]; exact hr
  · rw [List.length_append, List.length_singleton] at hj hm
    rw [hga j hj] at hb
    rw [hga m hm]
    by_cases h1 : j < vs.length
    · rw [if_pos h1] at hb
      by_cases h2 : m < vs.length
      · rw [if_pos h2]; exact ht.2.2 j m h1 h2 hjm b hb
      · rw [if_neg h2]; exact hap j h1 b hb
    · rw [if_neg h1] at hb
      rw [if_pos (by omega)]
      exact fun hc => hap m (by omega) b hc hb
  · obtain ⟨j, hj, hb⟩ := tab_mem.1 hb
    rw [List.length_append, List.length_singleton] at hj
    rw [hga j hj] at hb
    by_cases h : j < vs.length
    · rw [if_pos h] at hb; exact .inl (tab_mem.2 ⟨j, h, hb⟩)
    · rw [if_neg h] at hb; exact .inr hb
/-- A box is a row. -/
theorem SH.boxrow (S : SH w M X H) (zs : List α) (hi : nth H i = some (Rs.box g C.E l)) (hl : l = zs.flatMap C.f) (hm : zs.length ≤ 16777216) (hH : H.set i (Rs.row C (.slice (some ⟨g, 0, none⟩) zs.length zs.length) zs) = H') : SH w M X H' := by
  have hb : hp w g = some (.cells l.toArray C.E (0, 0)) := S.get hi
  refine S.step hi hH (Like.refl w) (fun _ _ _ => rfl) (.inr ⟨g, zs.length, l.toArray, rfl, hb, Nat.le_refl _, by unfold maxLen; omega, by rw [hl]; simpa using flat_len C.hf zs, ?_⟩) (fun b hb' => ⟨.inl ?_, ?_⟩)
  · rw [hl, List.take_of_length_le (by rw [List.toList_toArray, flat_len C.hf]; exact Nat.le_refl _)]
  · simpa [Rs.row, Value.ownBlock, Rs.box] using hb'
  · simp [Rs.row, Value.ownBlock] at hb'
    subst hb'
    exact hp_lt hb
/-- What is known of an inner row. -/
theorem SH.tabrow (S : SH w M X H) (hi : nth H i = some (Rs.tab C vs xss)) (hk : k < xss.length) : (ga vs k).n = (ga xss k).length ∧ (0 < (ga xss k).length → (ga vs k).A = some ⟨adB (ga vs k).A, 0, none⟩) ∧ (ga xss k).length ≤ (ga vs k).c := by
  rcases (S.get hi : TabOk C vs xss (hp w)).2.1 k hk with ⟨h1, h2⟩ | ⟨g, cap, cur, h1, h2, h3, _⟩
  · injection h1 with h1 h1' h1''
    rw [h2]
    exact ⟨h1', fun h => absurd h (by simp), by simp⟩
  · injection h1 with h1 h1' h1''
    exact ⟨h1', fun _ => by rw [h1]; rfl, by rw [h1'']; exact h3⟩
theorem SH.tablen (S : SH w M X H) (hi : nth H i = some (Rs.tab C vs xss)) : vs.length = xss.length := (S.get hi : TabOk C vs xss (hp w)).1
theorem rb_v (s : SlV) : rb s.v = adB s.A := by
  obtain ⟨A, n, c⟩ := s
  cases A <;> rfl
theorem RowOk.cell [Inhabited α] (h : RowOk C v xs (hp w)) {e j : Nat} {u : Value} (he : e < xs.length) (hj : Nat.blt j C.k = true) (hu : nth (C.f (ga xs e)) j = some u) : w.cell? ⟨rb v, e * C.k + j, none⟩ = some u := by
  rcases h with ⟨_, h2⟩ | ⟨g, cap, cur, rfl, h2, h3, h4, h5, h6⟩
  · rw [h2] at he; simp at he
  · have hj' : j < C.k := by simpa using hj
    show w.cell? ⟨g, e * C.k + j, none⟩ = some u
    rw [cell_of_row w g _ cur C.E (0, 0) h2]
    have hlt : e * C.k + j < xs.length * C.k := by
      have := Nat.mul_le_mul_right C.k (show e + 1 ≤ xs.length by omega)
      rw [Nat.succ_mul] at this
      omega
    have h7 := flat_get C.hf (xs := xs) he hj'
    rw [← h6, List.getElem?_take, if_pos hlt, ← ga_eq he, ← nth_eq (C.f (ga xs e)), hu] at h7
    simpa using h7
theorem SH.tabc [Inhabited α] (S : SH w M X H) (hi : nth H i = some (Rs.tab C vs xss)) (hk : k < xss.length) {e j : Nat} {u : Value} (he : e < (ga xss k).length) (hj : Nat.blt j C.k = true) (hu : nth (C.f (ga (ga xss k) e)) j = some u) : w.cell? ⟨adB (ga vs k).A, e * C.k + j, none⟩ = some u := by
  have := ((S.get hi : TabOk C vs xss (hp w)).2.1 k hk).cell he hj hu
  rwa [rb_v] at this
theorem SH.tabcs [Inhabited α] (S : SH w M X H) (hi : nth H i = some (Rs.tab C vs xss)) (hk : k < xss.length) {e j : Nat} (he : e < (ga xss k).length) {us : List Value} (hp' : piece (C.f (ga (ga xss k) e)) j us) : ∀ m u, us[m]? = some u → w.cell? ⟨adB (ga vs k).A, e * C.k + j + m, none⟩ = some u := by
  intro m u hu
  have h1 := piece_at hp' m u hu
  have h2 : j + m < C.k := by rw [nth_eq] at h1; have := (List.getElem?_eq_some_iff.1 h1).1; rwa [C.hf] at this
  have := S.tabc hi hk he (j := j + m) (by simpa using h2) h1
  rwa [← Nat.add_assoc] at this
theorem RowOk.rds (h : RowOk C v xs (hp w)) (hr : xs.length * C.u8 ≤ 140737488355328) {N : Hp} (hN : ∀ b ∈ v.ownBlock.toList, N b = hp w b) : Rds C N v xs := by
  rcases h with ⟨h1, h2⟩ | ⟨g, cap, cur, h1, h2, h3, h4, h5, h6⟩
  · subst h1; subst h2
    exact Rds.nil_
  · subst h1
    refine ⟨_, cap, rfl, h3, hr, fun _ => ⟨rfl, cur, C.E, (0, 0), ?_, fun j u hu => ?_⟩⟩
    · show N g = _
      rw [hN g (by simp [Value.ownBlock])]
      exact h2
    · show cur[0 + j]? = some u
      rw [Nat.zero_add]
      rw [← h6, List.getElem?_take] at hu
      split at hu
      · simpa using hu
      · cases hu
theorem SH.tabRd (S : SH w M X H) (hi : nth H i = some (Rs.tab C vs xss)) (hr : ∀ i, i < xss.length → (ga xss i).length * C.u8 ≤ 140737488355328) {N : Hp} (hN : ∀ b ∈ tabBl vs, N b = hp w b) : Rd2 C N vs xss := by
  have ht : TabOk C vs xss (hp w) := S.get hi
  refine ⟨ht.1, fun j hj => ?_⟩
  obtain ⟨A, c, e, h⟩ := (ht.2.1 j hj).rds (hr j hj) (fun b hb => hN b (tab_mem.2 ⟨j, by rw [ht.1]; exact hj, hb⟩))
  injection e with e1 e2 e3
  rw [e1, e2, e3]
  exact ⟨rfl, h⟩
/-- A table is laid down for good. -/
theorem SH.pubtab (S : SH w M X H) (hi : nth H i = some (Rs.tab C vs xss)) (hH : H.set i Rs.emp = H') (hr : ∀ i, i < xss.length → (ga xss i).length * C.u8 ≤ 140737488355328) : ∃ M', M.le M' ∧ SH w M' X H' ∧ Rd2 C M' vs xss := by
  obtain ⟨h1, h2, h3⟩ := S.pub hi hH
  exact ⟨_, h1, h2, S.tabRd hi hr h3⟩
theorem SH.lendtab (S : SH w M X H) (hi : nth H i = some (Rs.tab C vs xss)) (hr : ∀ i, i < xss.length → (ga xss i).length * C.u8 ≤ 140737488355328) : Rd2 C (M.un (XH w X H).h) vs xss := by
  have hmem : Rs.tab C vs xss ∈ H := by rw [nth_eq] at hi; exact List.mem_of_getElem? hi
  refine S.tabRd hi hr fun b hb => ?_
  have h1 := S.bl _ hmem b hb
  simp only [Hp.un, h1.2.1, XH, any_bl.2 ⟨_, hmem, hb⟩, if_true]
end

section
variable {P : Program} {o : Oper} {L : List (Nat × Value)} {w w' : World} {x y z : Operand} {t t' T E : TypeId} {a b : Int} {v u : Value} {n d : Nat} {Kt : List (Nat × Value) → World → Prop} {M M' : Hp} {X : Fr} {H H' : List Rs} {i k g off : Nat} {l : List Value}
theorem run_indexT {α : Type} {C : Cd α} {vs : List SlV} {xss : List (List α)} {m : Nat} (k e : Nat) (hop : o.op = .indexAddr T x y) (hx : oev L x = some (.slice (ga vs k).A m (ga vs k).c)) (hm : m = (ga vs k).n) (hy : oev L y = some (.int .i64 a)) (hT : SlOf P T C) (S : SH w M X H) (hi : nth H i = some (Rs.tab C vs xss)) (hk : k < xss.length)
    (ha : a = (e : Int)) (he : e < (ga xss k).length) : Run P o L w (.pointer (some ⟨adB (ga vs k).A, e * C.k, none⟩)) w := by
  obtain ⟨h0, h1, _⟩ := S.tabrow hi hk
  obtain ⟨z, hu, h2, _⟩ := hT
  obtain ⟨inf, hinf, _, hs, _⟩ := info_parts h2
  have := run_indexAddr (P := P) (w := w) hop hx hy hu (k := C.k) (by rw [hinf]; simp [hs]) ha (by rw [hm, h0]; exact he) (h1 (by omega))
  rwa [Nat.zero_add] at this
theorem run_lenT {α : Type} {C : Cd α} {vs : List SlV} {xss : List (List α)} {k m : Nat} {ca : Call} {ops : List Operand} {ts : List TypeId} (hop : o.op = .call ca) (hca : ca.callee = .builtin .len) (hxs : ca.args = ops.toArray) (hts : ca.argTypes = ts.toArray) (hx : oevs L ops = some [.slice (ga vs k).A m (ga vs k).c]) (hm : m = (ga vs k).n) (ht : nth ts 0 = some t) (hT : SlOf P t C) (S : SH w M X H) (hi : nth H i = some (Rs.tab C vs xss)) (hk : k < xss.length) : Run P o L w (.int .i64 ((ga xss k).length : Int)) w := by
  obtain ⟨h0, _⟩ := S.tabrow hi hk
  obtain ⟨z, h1, _⟩ := hT
  rw [← h0, ← hm]
  exact run_len hop hca hxs hts hx ht h1
theorem row_stored {α : Type} [Inhabited α] {C : Cd α} {ys : List α} {us : List Value} {rv : Value} {e j : Nat} (y' : α) (hok : RowOk C rv ys (hp w)) (he : e < ys.length) (hfit' : j + us.length ≤ C.k) (hl' : spl (C.f (ga ys e)) j us = C.f y') :
    ∃ cur : Array Value, hp w (rb rv) = some (.cells cur C.E (0, 0)) ∧ rb rv ∈ rv.ownBlock.toList ∧ (∀ b ∈ rv.ownBlock.toList, b = rb rv) ∧ e * C.k + j + us.length ≤ cur.size ∧ RowOk C rv (ys.set e y') (hp (w.setRow (rb rv) (cur.toList.take (e * C.k + j) ++ us ++ cur.toList.drop (e * C.k + j + us.length)).toArray)) := by
  rw [ga_eq he] at hl'
  rcases hok with ⟨_, h2⟩ | ⟨g, cap, cur, rfl, h2, h3, h4, h5, h6⟩
  · subst h2; simp at he
  · have hcur : e * C.k + j + us.length ≤ cur.size := by
      have h7 : e * C.k + C.k ≤ cap * C.k := by rw [← Nat.succ_mul]; exact Nat.mul_le_mul_right _ (by omega)
      omega
    refine ⟨cur, h2, by simp [rb, Value.ownBlock], fun b hb => by simpa [rb, Value.ownBlock] using hb, hcur, ?_⟩
    have hcur' : e * C.k + j + us.length ≤ cur.toList.length := by simpa using hcur
    rw [← spl_eq us cur.toList (e * C.k + j) hcur']
    have hs := setRow_heap w g cur (spl cur.toList (e * C.k + j) us).toArray C.E (0, 0) h2
    refine .inr ⟨g, cap, (spl cur.toList (e * C.k + j) us).toArray, by rw [List.length_set], hs, by rw [List.length_set]; exact h3, h4, by simp [spl_len, h5], ?_⟩
    rw [List.length_set, ← flat_spl ys e j us y' he hfit' hl', ← h6]
    apply List.ext_getElem?
    intro m
    have hle : e * C.k + C.k ≤ ys.length * C.k := by rw [← Nat.succ_mul]; exact Nat.mul_le_mul_right _ he
    have hys : ys.length * C.k ≤ cur.size := by rw [h5]; exact Nat.mul_le_mul_right _ h3
    rw [List.getElem?_take, spl_get us _ _ _ hcur', spl_get us _ _ _ (by simp; omega), List.getElem?_take]
    by_cases hm : m < ys.length * C.k
    · rw [if_pos hm, if_pos hm]
    · rw [if_neg hm, if_neg hm, if_neg (by omega)]
theorem wo_storeT {α : Type} [Inhabited α] {C : Cd α} {vs : List SlV} {xss : List (List α)} {us : List Value} {k e j : Nat} (y' : α) (hop : o.op = .store T x y) (hd : o.dst = none) (S : SH w M X H) (hi : nth H i = some (Rs.tab C vs xss)) (hkk : k < xss.length) (he : e < (ga xss k).length) (hx : oev L x = some (.pointer (some ⟨adB (ga vs k).A, e * C.k + j, none⟩))) (hy : oev L y = some v) (hl : v.cells.toList = us) (hk : (P.info? T).map (·.size) = some us.length)
    (hfit : Nat.ble (j + us.length) C.k = true) (h1 : ones us = true) (hl' : spl (C.f (ga (ga xss k) e)) j us = C.f y') (hH : H.set i (Rs.tab C vs (xss.set k ((ga xss k).set e y'))) = H') (h : ∀ w', SH w' M X H' → Kt L w') : WO P n o L w Kt := by
  have hfit' : j + us.length ≤ C.k := by simpa using hfit
  have ht : TabOk C vs xss (hp w) := S.get hi
  have hkv : k < vs.length := by rw [ht.1]; exact hkk
  obtain ⟨cur, h2, h3, h4, h5, h6⟩ := row_stored (w := w) y' (ht.2.1 k hkk) he hfit' hl'
  rw [← rb_v] at hx
  refine wo_runS hd (run_storeAt hop hx hy hl hk h2 h5 (ones_spec h1)) (h _ ?_)
  have hmem : rb (ga vs k).v ∈ tabBl vs := tab_mem.2 ⟨k, hkv, h3⟩
  refine S.step hi hH (like_setRow _ _ _) (fun b _ hb => keep_setRow _ _ _ b (fun e => hb (by rw [e]; exact hmem))) ⟨by simp [ht.1], fun m hm => ?_, ht.2.2⟩ (fun b hb => ⟨.inl hb, ?_⟩)
  · rw [List.length_set] at hm
    rw [ga_set _ _ _ _ hkk]
    by_cases hkm : k = m
    · subst hkm
      rw [if_pos rfl]; exact h6
    · rw [if_neg hkm]
      refine (Rs.row C (ga vs m).v (ga xss m)).loc _ _ (fun b hb => keep_setRow _ _ _ b (fun e => ?_)) (ht.2.1 m hm)
      subst e
      exact ht.2.2 k m hkv (by rw [ht.1]; exact hm) hkm _ h3 hb
  · have hm : Rs.tab C vs xss ∈ H := by rw [nth_eq] at hi; exact List.mem_of_getElem? hi
    have := S.bl _ hm b hb
    simpa using this.1
theorem run_ptrNeNil {A : Option Addr} (hop : o.op = .binOp .neq t x y t') (hx : oev L x = some (.pointer A)) (hy : oev L y = some (.pointer none)) (hu : P.underlying t = some (.pointer E)) : Run P o L w (.bool (!A.isNone)) w := by
  intro n c' he
  have hg : ∀ w, (eqGuard .neq t x y (.pointer A) (.pointer none)).run P w = .ok () w := by
    intro w; unfold eqGuard; simp
  have hp : P.underlying t = some (.pointer (P.pointee t)) := by unfold Program.pointee; rw [hu]
  unfold execOp
  simp only [hop, he.eval hx, he.eval hy, hg, Sem.run_bind, Sem.run_pure, Result.andThen_ok, run_neq_pointer_nil w t A hp]
theorem run_ptrEqNil {A : Option Addr} (hop : o.op = .binOp .eql t x y t') (hx : oev L x = some (.pointer A)) (hy : oev L y = some (.pointer none)) (hu : P.underlying t = some (.pointer E)) : Run P o L w (.bool A.isNone) w := by
  intro n c' he
  have hg : ∀ w, (eqGuard .eql t x y (.pointer A) (.pointer none)).run P w = .ok () w := by
    intro w; unfold eqGuard; simp
  have hp : P.underlying t = some (.pointer (P.pointee t)) := by unfold Program.pointee; rw [hu]
  unfold execOp
  simp only [hop, he.eval hx, he.eval hy, hg, Sem.run_bind, Sem.run_pure, Result.andThen_ok, run_eql_pointer_nil w t A hp]
end
end Go.Proofs.Ytkcighnochjlgaa
