/- Memory in parts: what lasts, what others own, what the call owns. Nothing of one program stands here. -/
import Derived.Test.YtkcighnochjlgaaE0
import Derived.Laws.MakeOwn
import Derived.Laws.CopyRow
import Derived.OwnWalk
namespace Go.Proofs.Ytkcighnochjlgaa
open Go.ChangeShapes Go.WideShapes Go.ChangeAt Go.RowKit

abbrev Hp := Nat → Option Obj
def hp (w : World) : Hp := fun b => w.heap[b]?
def Hp.le (M N : Hp) : Prop := ∀ b o, M b = some o → N b = some o
theorem Hp.le_refl (M : Hp) : M.le M := fun _ _ h => h
theorem Hp.le.trans {M N O : Hp} (h : M.le N) (k : N.le O) : M.le O := fun b o e => k b o (h b o e)
def Hp.un (M N : Hp) : Hp := fun b => match M b with
  | some o => some o
  | none => N b
theorem Hp.le_un (M N : Hp) : M.le (M.un N) := fun b o e => by simp [Hp.un, e]
theorem Hp.un_le {M N O : Hp} (h : M.le O) (k : N.le O) : (M.un N).le O := fun b o e => by
  unfold Hp.un at e
  cases hm : M b with
  | some o' => rw [hm] at e; injection e with e; subst e; exact h b _ hm
  | none => rw [hm] at e; exact k b o e
theorem Hp.un_mono {M M' N : Hp} (h : M.le M') (hd : ∀ b o, N b = some o → M' b = none) : (M.un N).le (M'.un N) := fun b o e => by
  unfold Hp.un at e ⊢
  cases hm : M b with
  | some o' => rw [hm] at e; rw [h b _ hm]; exact e
  | none => rw [hm] at e; rw [hd b o e]; exact e

/-- A thing that the call owns: its blocks, and what is said of them. -/
structure Rs where
  bl : List Nat
  ok : Hp → Prop
  loc : ∀ h h' : Hp, (∀ b ∈ bl, h' b = h b) → ok h → ok h'
def Rs.emp : Rs := ⟨[], fun _ => True, fun _ _ _ h => h⟩
structure Fr where
  h : Hp
  w0 : World
structure Like (w w' : World) : Prop where
  os : w'.os = w.os
  tape : w'.tape = w.tape
  output : w'.output = w.output
  size : w.heap.size ≤ w'.heap.size
theorem Like.refl (w : World) : Like w w := ⟨rfl, rfl, rfl, Nat.le_refl _⟩
theorem Like.trans {a b c : World} (h : Like a b) (k : Like b c) : Like a c := ⟨k.os.trans h.os, k.tape.trans h.tape, k.output.trans h.output, Nat.le_trans h.size k.size⟩

structure SH (w : World) (M : Hp) (X : Fr) (H : List Rs) : Prop where
  m : M.le (hp w)
  x : X.h.le (hp w)
  mx : ∀ b o, X.h b = some o → M b = none
  ok : ∀ r ∈ H, r.ok (hp w)
  bl : ∀ r ∈ H, ∀ b ∈ r.bl, b < w.heap.size ∧ M b = none ∧ X.h b = none
  ap : ∀ (i j : Nat) r s, i ≠ j → H[i]? = some r → H[j]? = some s → ∀ b ∈ r.bl, b ∉ s.bl
  like : Like X.w0 w

theorem hp_lt {w : World} {b : Nat} {o : Obj} (h : hp w b = some o) : b < w.heap.size := (Array.getElem?_eq_some_iff.1 h).1
section
variable {w w' : World} {M M' : Hp} {X : Fr} {H H' : List Rs} {r r' : Rs} {i : Nat}

theorem SH.xm (S : SH w M X H) : ∀ b o, X.h b = some o → M b = none := S.mx
theorem SH.um (S : SH w M X H) : (M.un X.h).le (hp w) := Hp.un_le S.m S.x
theorem SH.step (S : SH w M X H) (hi : nth H i = some r) (hH : H.set i r' = H') (like : Like w w') (keep : ∀ b, b < w.heap.size → b ∉ r.bl → hp w' b = hp w b)
    (hr : r'.ok (hp w')) (hbl : ∀ b ∈ r'.bl, (b ∈ r.bl ∨ w.heap.size ≤ b) ∧ b < w'.heap.size) : SH w' M X H' := by
  subst hH
  rw [nth_eq] at hi
  have hmem : r ∈ H := List.mem_of_getElem? hi
  have hb := S.bl r hmem
  have fresh : ∀ b, w.heap.size ≤ b → M b = none ∧ X.h b = none := fun b hge => by
    constructor
    · cases hm : M b with
      | none => rfl
      | some o => have := hp_lt (S.m b o hm); omega
    · cases hm : X.h b with
      | none => rfl
      | some o => have := hp_lt (S.x b o hm); omega
  have hget : ∀ j s, (H.set i r')[j]? = some s → (j = i ∧ s = r') ∨ (j ≠ i ∧ H[j]? = some s) := fun j s hs => by
    rw [List.getElem?_set] at hs
    by_cases hij : i = j
    · subst hij
      rw [if_pos rfl] at hs
      split at hs
      · injection hs with hs; exact .inl ⟨rfl, hs.symm⟩
      · cases hs
    · rw [if_neg hij] at hs
      exact .inr ⟨fun e => hij e.symm, hs⟩
  have other : ∀ j s, j ≠ i → H[j]? = some s → ∀ b ∈ s.bl, b ∉ r.bl := fun j s hj hs b hbs => S.ap j i s r hj hs hi b hbs
  refine ⟨fun b o e => ?_, fun b o e => ?_, S.mx, fun s hs => ?_, fun s hs b hbs => ?_, fun j k s t hjk hs ht b hbs => ?_, S.like.trans like⟩
  · have h0 := S.m b o e
    rw [keep b (hp_lt h0) (fun hmb => by rw [(hb b hmb).2.1] at e; cases e)]; exact h0
  · have h0 := S.x b o e
    rw [keep b (hp_lt h0) (fun hmb => by rw [(hb b hmb).2.2] at e; cases e)]; exact h0
  · obtain ⟨j, hj⟩ := List.mem_iff_getElem?.1 hs
    rcases hget j s hj with ⟨_, rfl⟩ | ⟨hne, hj'⟩
    · exact hr
    · have hsm : s ∈ H := List.mem_of_getElem? hj'
      exact s.loc (hp w) (hp w') (fun b hbs => keep b (S.bl s hsm b hbs).1 (other j s hne hj' b hbs)) (S.ok s hsm)
  · obtain ⟨j, hj⟩ := List.mem_iff_getElem?.1 hs
    rcases hget j s hj with ⟨_, rfl⟩ | ⟨hne, hj'⟩
    · obtain ⟨h1 | h1, h2⟩ := hbl b hbs
      · exact ⟨h2, (hb b h1).2⟩
      · exact ⟨h2, fresh b h1⟩
    · obtain ⟨h1, h2⟩ := S.bl s (List.mem_of_getElem? hj') b hbs
      exact ⟨Nat.lt_of_lt_of_le h1 like.size, h2⟩
  · rcases hget j s hs with ⟨rfl, rfl⟩ | ⟨hne, hj'⟩
    · rcases hget k t ht with ⟨rfl, _⟩ | ⟨hne2, hk'⟩
      · exact absurd rfl hjk
      · obtain ⟨h1 | h1, h2⟩ := hbl b hbs
        · exact S.ap j k r t (fun e => hne2 e.symm) hi hk' b h1
        · intro hbt
          have := (S.bl t (List.mem_of_getElem? hk') b hbt).1
          omega
    · rcases hget k t ht with ⟨rfl, rfl⟩ | ⟨hne2, hk'⟩
      · intro hbt
        obtain ⟨h1 | h1, h2⟩ := hbl b hbt
        · exact other j s hne hj' b hbs h1
        · have := (S.bl s (List.mem_of_getElem? hj') b hbs).1
          omega
      · exact S.ap j k s t hjk hj' hk' b hbs
theorem SH.cons (S : SH w M X H) (like : Like w w') (keep : ∀ b, b < w.heap.size → hp w' b = hp w b) (hr : r.ok (hp w')) (hbl : ∀ b ∈ r.bl, w.heap.size ≤ b ∧ b < w'.heap.size) : SH w' M X (r :: H) := by
  have fresh : ∀ b, w.heap.size ≤ b → M b = none ∧ X.h b = none := fun b hge => by
    constructor
    · cases hm : M b with
      | none => rfl
      | some o => have := hp_lt (S.m b o hm); omega
    · cases hm : X.h b with
      | none => rfl
      | some o => have := hp_lt (S.x b o hm); omega
  refine ⟨fun b o e => ?_, fun b o e => ?_, S.mx, fun s hs => ?_, fun s hs b hbs => ?_, fun j k s t hjk hs ht b hbs => ?_, S.like.trans like⟩
  · have h0 := S.m b o e
    rw [keep b (hp_lt h0)]; exact h0
  · have h0 := S.x b o e
    rw [keep b (hp_lt h0)]; exact h0
  · rcases List.mem_cons.1 hs with rfl | hs
    · exact hr
    · exact s.loc (hp w) (hp w') (fun b hbs => keep b (S.bl s hs b hbs).1) (S.ok s hs)
  · rcases List.mem_cons.1 hs with rfl | hs
    · obtain ⟨h1, h2⟩ := hbl b hbs
      exact ⟨h2, fresh b h1⟩
    · obtain ⟨h1, h2⟩ := S.bl s hs b hbs
      exact ⟨Nat.lt_of_lt_of_le h1 like.size, h2⟩
  · cases j with
    | zero =>
      cases k with
      | zero => exact absurd rfl hjk
      | succ k =>
        simp only [List.getElem?_cons_zero, Option.some.injEq, List.getElem?_cons_succ] at hs ht
        subst hs
        intro hbt
        have := (S.bl t (List.mem_of_getElem? ht) b hbt).1
        have := (hbl b hbs).1
        omega
    | succ j =>
      cases k with
      | zero =>
        simp only [List.getElem?_cons_zero, Option.some.injEq, List.getElem?_cons_succ] at hs ht
        subst ht
        intro hbt
        have := (S.bl s (List.mem_of_getElem? hs) b hbs).1
        have := (hbl b hbt).1
        omega
      | succ k =>
        simp only [List.getElem?_cons_succ] at hs ht
        exact S.ap j k s t (by omega) hs ht b hbs
theorem SH.kp (S : SH w M X H) (like : Like w w') (keep : ∀ b, b < w.heap.size → hp w' b = hp w b) : SH w' M X H :=
  ⟨fun b o e => by have h0 := S.m b o e; rw [keep b (hp_lt h0)]; exact h0, fun b o e => by have h0 := S.x b o e; rw [keep b (hp_lt h0)]; exact h0, S.mx,
    fun s hs => s.loc (hp w) (hp w') (fun b hbs => keep b (S.bl s hs b hbs).1) (S.ok s hs), fun s hs b hbs => by
      obtain ⟨h1, h2⟩ := S.bl s hs b hbs
      exact ⟨Nat.lt_of_lt_of_le h1 like.size, h2⟩, S.ap, S.like.trans like⟩
theorem SH.drew (S : SH w M X H) : SH w.drew M X H := S.kp ⟨rfl, rfl, rfl, Nat.le_refl _⟩ fun _ _ => rfl
theorem SH.add (S : SH w M X H) (hr : r.ok (hp w)) (hbl : r.bl = []) : SH w M X (r :: H) := S.cons (Like.refl w) (fun _ _ => rfl) hr fun b hb => by rw [hbl] at hb; cases hb
/-- Some of the own things, in another order. -/
def picks {α : Type} (H : List α) : List Nat → List α → Prop
  | [], [] => True
  | i :: is, r :: rs => nth H i = some r ∧ picks H is rs
  | _, _ => False
theorem picks_get {H : List Rs} : ∀ {is : List Nat} {rs : List Rs}, picks H is rs → ∀ (j : Nat) r, rs[j]? = some r → ∃ i, is[j]? = some i ∧ H[i]? = some r
  | [], [], _, j, r, h => by simp at h
  | i :: is, s :: rs, hp, 0, r, h => by
    simp only [List.getElem?_cons_zero, Option.some.injEq] at h
    subst h
    exact ⟨i, rfl, by rw [← nth_eq]; exact hp.1⟩
  | i :: is, s :: rs, hp, j + 1, r, h => by
    simp only [List.getElem?_cons_succ] at h ⊢
    exact picks_get hp.2 j r h
  | [], _ :: _, hp, _, _, _ => False.elim hp
  | _ :: _, [], hp, _, _, _ => False.elim hp
theorem SH.pick (S : SH w M X H) (is : List Nat) (H' : List Rs) (hnd : is.Nodup) (hp : picks H is H') : SH w M X H' := by
  have hg := fun j r => picks_get hp j r
  refine ⟨S.m, S.x, S.mx, fun s hs => ?_, fun s hs b hbs => ?_, fun j k s t hjk hs ht b hbs => ?_, S.like⟩
  · obtain ⟨j, hj⟩ := List.mem_iff_getElem?.1 hs
    obtain ⟨i, _, hi⟩ := hg j s hj
    exact S.ok s (List.mem_of_getElem? hi)
  · obtain ⟨j, hj⟩ := List.mem_iff_getElem?.1 hs
    obtain ⟨i, _, hi⟩ := hg j s hj
    exact S.bl s (List.mem_of_getElem? hi) b hbs
  · obtain ⟨i1, h1, h1'⟩ := hg j s hs
    obtain ⟨i2, h2, h2'⟩ := hg k t ht
    refine S.ap i1 i2 s t (fun e => hjk ?_) h1' h2' b hbs
    subst e
    obtain ⟨hl1, e1⟩ := List.getElem?_eq_some_iff.1 h1
    obtain ⟨hl2, e2⟩ := List.getElem?_eq_some_iff.1 h2
    exact (List.getElem_inj hnd).1 (e1.trans e2.symm)

/-- What is owned becomes lasting. -/
def Hp.put (M : Hp) (w : World) (bl : List Nat) : Hp := fun b => if b ∈ bl then hp w b else M b
theorem SH.pub (S : SH w M X H) (hi : nth H i = some r) (hH : H.set i Rs.emp = H') : M.le (M.put w r.bl) ∧ SH w (M.put w r.bl) X H' ∧ (∀ b ∈ r.bl, (M.put w r.bl) b = hp w b) := by
  have hi' := hi
  rw [nth_eq] at hi'
  have hmem : r ∈ H := List.mem_of_getElem? hi'
  have hb := S.bl r hmem
  have S2 : SH w M X H' := S.step hi hH (Like.refl w) (fun _ _ _ => rfl) trivial (fun b hb => by cases hb)
  refine ⟨fun b o e => ?_, ⟨fun b o e => ?_, S.x, fun b o e => ?_, S2.ok, fun s hs b hbs => ?_, S2.ap, S2.like⟩, fun b hb => by simp [Hp.put, hb]⟩
  · unfold Hp.put
    rw [if_neg (fun hm => by rw [(hb b hm).2.1] at e; cases e)]
    exact e
  · unfold Hp.put at e
    split at e
    · exact e
    · exact S.m b o e
  · unfold Hp.put
    rw [if_neg (fun hm => by rw [(hb b hm).2.2] at e; cases e)]
    exact S.mx b o e
  · obtain ⟨h1, h2, h3⟩ := S2.bl s hs b hbs
    refine ⟨h1, ?_, h3⟩
    unfold Hp.put
    rw [if_neg]
    · exact h2
    · intro hm
      subst hH
      obtain ⟨j, hj⟩ := List.mem_iff_getElem?.1 hs
      rw [List.getElem?_set] at hj
      by_cases hij : i = j
      · subst hij
        rw [if_pos rfl] at hj
        split at hj
        · injection hj with hj; subst hj; cases hbs
        · cases hj
      · rw [if_neg hij] at hj
        exact S.ap i j r s hij hi' hj b hm hbs

/-! ### Lending all to a call -/

def XH (w : World) (X : Fr) (H : List Rs) : Fr := ⟨fun b => if H.any (fun r => r.bl.contains b) then hp w b else X.h b, w⟩
theorem any_bl {H : List Rs} {b : Nat} : (H.any fun r => r.bl.contains b) = true ↔ ∃ r ∈ H, b ∈ r.bl := by simp
theorem SH.lend (S : SH w M X H) : SH w M (XH w X H) [] := by
  refine ⟨S.m, fun b o e => ?_, fun b o e => ?_, by simp, by simp, by simp, Like.refl w⟩
  · simp only [XH] at e
    split at e
    · exact e
    · exact S.x b o e
  · simp only [XH] at e
    split at e
    · rename_i h
      obtain ⟨r, hr, hb⟩ := any_bl.1 h
      exact (S.bl r hr b hb).2.1
    · exact S.mx b o e
theorem SH.back (S : SH w M X H) (S' : SH w' M' (XH w X H) []) : SH w' M' X H := by
  have like := S'.like.size
  have hx : ∀ b, (∃ r ∈ H, b ∈ r.bl) → hp w' b = hp w b ∧ M' b = none := fun b hb => by
    have h1 := any_bl.2 hb
    obtain ⟨r, hr, hbr⟩ := hb
    have hlt := (S.bl r hr b hbr).1
    have e : (XH w X H).h b = some (w.heap[b]) := by
      simp only [XH, h1, if_true, hp]
      exact Array.getElem?_eq_getElem hlt
    refine ⟨?_, S'.mx b _ e⟩
    rw [S'.x b _ e]
    exact (Array.getElem?_eq_getElem hlt).symm
  have hxo : ∀ b o, X.h b = some o → (XH w X H).h b = some o := fun b o e => by
    simp only [XH]
    split
    · exact S.x b o e
    · exact e
  refine ⟨S'.m, fun b o e => S'.x b o (hxo b o e), fun b o e => S'.mx b o (hxo b o e), fun s hs => ?_, fun s hs b hbs => ?_, S.ap, ?_⟩
  · exact s.loc (hp w) (hp w') (fun b hbs => (hx b ⟨s, hs, hbs⟩).1) (S.ok s hs)
  · obtain ⟨h1, h2, h3⟩ := S.bl s hs b hbs
    exact ⟨Nat.lt_of_lt_of_le h1 like, (hx b ⟨s, hs, hbs⟩).2, h3⟩
  · exact S.like.trans S'.like
theorem SH.backN {N : List Rs} (S : SH w M X H) (S' : SH w' M' (XH w X H) N) : SH w' M' X (N ++ H) := by
  have S0 := S.back (S'.pick [] [] (by simp) trivial)
  have hX : ∀ r ∈ N, ∀ b ∈ r.bl, (XH w X H).h b = none := fun r hr b hb => (S'.bl r hr b hb).2.2
  have hnot : ∀ r ∈ N, ∀ b ∈ r.bl, ∀ s ∈ H, b ∉ s.bl := fun r hr b hb s hs hbs => by
    have h1 := hX r hr b hb
    simp only [XH] at h1
    rw [if_pos (any_bl.2 ⟨s, hs, hbs⟩)] at h1
    have := (S.bl s hs b hbs).1
    unfold hp at h1
    rw [Array.getElem?_eq_getElem this] at h1
    cases h1
  refine ⟨S0.m, S0.x, S0.mx, fun s hs => ?_, fun s hs b hbs => ?_, fun j k s t hjk hs ht b hbs => ?_, S0.like⟩
  · rcases List.mem_append.1 hs with hs | hs
    · exact S'.ok s hs
    · exact S0.ok s hs
  · rcases List.mem_append.1 hs with hs | hs
    · obtain ⟨h1, h2, h3⟩ := S'.bl s hs b hbs
      refine ⟨h1, h2, ?_⟩
      cases hx : X.h b with
      | none => rfl
      | some o =>
        simp only [XH] at h3
        split at h3
        · rename_i h
          obtain ⟨s', hs', hbs'⟩ := any_bl.1 h
          exact absurd hbs' (hnot s hs b hbs s' hs')
        · rw [hx] at h3; cases h3
    · exact S0.bl s hs b hbs
  · rw [List.getElem?_append] at hs ht
    split at hs
    · split at ht
      · exact S'.ap j k s t hjk hs ht b hbs
      · exact hnot s (List.mem_of_getElem? hs) b hbs t (List.mem_of_getElem? ht)
    · split at ht
      · exact fun hbt => hnot t (List.mem_of_getElem? ht) b hbt s (List.mem_of_getElem? hs) hbs
      · exact S0.ap (j - N.length) (k - N.length) s t (by omega) hs ht b hbs
/-- One thing is lent to the call for it to write. -/
theorem SH.lend1 (S : SH w M X H) (hi : nth H i = some r) : SH w M (XH w X (H.set i Rs.emp)) [r] := by
  have hi' := hi
  rw [nth_eq] at hi'
  have hmem : r ∈ H := List.mem_of_getElem? hi'
  have S2 : SH w M X (H.set i Rs.emp) := S.step hi rfl (Like.refl w) (fun _ _ _ => rfl) trivial (fun b hb => by cases hb)
  have S3 := S2.lend
  refine ⟨S3.m, S3.x, S3.mx, fun s hs => ?_, fun s hs b hbs => ?_, fun j k s t hjk hs ht b hbs => ?_, S3.like⟩
  · rw [List.mem_singleton] at hs; subst hs; exact S.ok _ hmem
  · rw [List.mem_singleton] at hs
    subst hs
    obtain ⟨h1, h2, h3⟩ := S.bl _ hmem b hbs
    refine ⟨h1, h2, ?_⟩
    simp only [XH]
    rw [if_neg]
    · exact h3
    · intro h
      obtain ⟨t, ht, hbt⟩ := any_bl.1 h
      obtain ⟨j, hj⟩ := List.mem_iff_getElem?.1 ht
      rw [List.getElem?_set] at hj
      by_cases hij : i = j
      · subst hij
        rw [if_pos rfl] at hj
        split at hj
        · injection hj with hj; subst hj; cases hbt
        · cases hj
      · rw [if_neg hij] at hj
        exact S.ap i j s t hij hi' hj b hbs hbt
  · have h1 := (List.getElem?_eq_some_iff.1 hs).1
    have h2 := (List.getElem?_eq_some_iff.1 ht).1
    simp at h1 h2
    omega
theorem SH.back1 (S : SH w M X H) (hi : nth H i = some r) (S' : SH w' M' (XH w X (H.set i Rs.emp)) [r']) (hH : H.set i r' = H') : SH w' M' X H' := by
  have S2 : SH w M X (H.set i Rs.emp) := S.step hi rfl (Like.refl w) (fun _ _ _ => rfl) trivial (fun b hb => by cases hb)
  have S4 : SH w' M' X (H.set i Rs.emp) := S2.back (S'.pick [] [] (by simp) trivial)
  have hlt : i < H.length := by rw [nth_eq] at hi; exact (List.getElem?_eq_some_iff.1 hi).1
  have hX : ∀ b ∈ r'.bl, (XH w X (H.set i Rs.emp)).h b = none := fun b hb => (S'.bl r' (by simp) b hb).2.2
  have hnot : ∀ b ∈ r'.bl, ∀ s ∈ H.set i Rs.emp, b ∉ s.bl := fun b hb s hs hbs => by
    have h1 := hX b hb
    simp only [XH] at h1
    rw [if_pos (any_bl.2 ⟨s, hs, hbs⟩)] at h1
    have := (S2.bl s hs b hbs).1
    unfold hp at h1
    rw [Array.getElem?_eq_getElem this] at h1
    cases h1
  subst hH
  have hset : ∀ j s, (H.set i r')[j]? = some s → (j = i ∧ s = r') ∨ (j ≠ i ∧ (H.set i Rs.emp)[j]? = some s) := fun j s hs => by
    rw [List.getElem?_set] at hs
    by_cases hij : i = j
    · subst hij
      rw [if_pos rfl, if_pos hlt] at hs
      injection hs with hs
      exact .inl ⟨rfl, hs.symm⟩
    · rw [if_neg hij] at hs
      exact .inr ⟨fun e => hij e.symm, by rw [List.getElem?_set, if_neg hij]; exact hs⟩
  refine ⟨S4.m, S4.x, S4.mx, fun s hs => ?_, fun s hs b hbs => ?_, fun j k s t hjk hs ht b hbs => ?_, S4.like⟩
  · obtain ⟨j, hj⟩ := List.mem_iff_getElem?.1 hs
    rcases hset j s hj with ⟨_, rfl⟩ | ⟨_, h⟩
    · exact S'.ok _ (by simp)
    · exact S4.ok _ (List.mem_of_getElem? h)
  · obtain ⟨j, hj⟩ := List.mem_iff_getElem?.1 hs
    rcases hset j s hj with ⟨_, rfl⟩ | ⟨_, h⟩
    · obtain ⟨h1, h2, h3⟩ := S'.bl _ (by simp) b hbs
      refine ⟨h1, h2, ?_⟩
      cases hx : X.h b with
      | none => rfl
      | some o =>
        simp only [XH] at h3
        split at h3
        · rename_i h
          obtain ⟨s', hs', hbs'⟩ := any_bl.1 h
          exact absurd hbs' (hnot b hbs s' hs')
        · rw [hx] at h3; cases h3
    · exact S4.bl _ (List.mem_of_getElem? h) b hbs
  · rcases hset j s hs with ⟨rfl, rfl⟩ | ⟨hne, h⟩
    · rcases hset k t ht with ⟨rfl, _⟩ | ⟨_, h2⟩
      · exact absurd rfl hjk
      · exact hnot b hbs t (List.mem_of_getElem? h2)
    · rcases hset k t ht with ⟨rfl, rfl⟩ | ⟨_, h2⟩
      · exact fun hbt => hnot b hbt s (List.mem_of_getElem? h) hbs
      · exact S4.ap j k s t hjk h h2 b hbs
end
end Go.Proofs.Ytkcighnochjlgaa
