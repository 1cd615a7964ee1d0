/- Walks printed by eng.py. -/
import Derived.Test.YtlbpgnimpcflaaaP3
set_option linter.unusedSimpArgs false
set_option linter.unusedVariables false
namespace Go.Proofs.Ytlbpgnimpcflaaa
open Go.ChangeShapes Go.WideShapes Go.ChangeAt Go.RowKit
theorem gs_same {xs : List Bool} {i : Nat} {y : Bool} (h : i < xs.length) : ga (xs.set i y) i = y := by rw [ga_set _ _ _ _ h, if_pos rfl]
theorem gs_ne {xs : List Bool} {i j : Nat} {y : Bool} (h : i ≠ j) : ga (xs.set i y) j = ga xs j := by unfold ga; simp [List.getElem?_set, h]
/-- What the search for the pieces finds, in plain Lean. -/
inductive Rc (d : Dg) : Nat → Nat → Prop
  | refl (x : Nat) : Rc d x x
  | step {x y k : Nat} : Rc d x y → k < 4 → Rc d x (nbC d y k)
structure BI (d : Dg) (n : Nat) (s0 : List Bool) (c : Nat) (s : List Bool × List Int) : Prop where
  len : s.1.length = n
  see : ∀ x, x < n → (ga s.1 x = true ↔ (ga s0 x = true ∨ (x : Int) ∈ s.2))
  nod : s.2.Nodup
  el : ∀ y ∈ s.2, ∃ z : Nat, y = (z : Int) ∧ z < n ∧ ga s0 z = false ∧ Rc d c z
  room : s.2.length + free s.1 ≤ n
theorem addS_bi {d : Dg} {n : Nat} {s0 : List Bool} {c : Nat} {s : List Bool × List Int} (h : BI d n s0 c s) {y : Nat} (hy : y < n) (hr : Rc d c y) :
    BI d n s0 c (addS s y) ∧ (∃ t, (addS s y).2 = s.2 ++ t) ∧ ga (addS s y).1 y = true ∧ ∀ x, ga s.1 x = true → ga (addS s y).1 x = true := by
  unfold addS
  by_cases hg : ga s.1 y = true
  · rw [if_pos hg]
    exact ⟨h, ⟨[], by simp⟩, hg, fun x hx => hx⟩
  · rw [if_neg hg]
    have hlen := h.len
    have hf : ga s.1 y = false := by simpa using hg
    have hnot : ¬ (ga s0 y = true ∨ (y : Int) ∈ s.2) := fun hh => hg ((h.see y hy).2 hh)
    have hfr := free_set (seen := s.1) (x := y) (by omega) hf
    have hro := h.room
    refine ⟨⟨by simp [hlen], fun x hx => ?_, ?_, fun z hz => ?_, ?_⟩, ⟨[(y : Int)], rfl⟩, ?_, fun x hx => ?_⟩
    · by_cases e : x = y
      · subst e
        exact ⟨fun _ => .inr (by simp), fun _ => gs_same (by omega)⟩
      · show ga (s.1.set y true) x = true ↔ _
        rw [gs_ne (show y ≠ x from fun e' => e e'.symm)]
        rw [h.see x hx, List.mem_append, List.mem_singleton]
        constructor
        · rintro (h1 | h1)
          · exact .inl h1
          · exact .inr (.inl h1)
        · rintro (h1 | h1 | h1)
          · exact .inl h1
          · exact .inr h1
          · exact absurd (Int.ofNat.inj h1) e
    · rw [List.nodup_append]
      refine ⟨h.nod, by simp, fun a ha b hb e => ?_⟩
      rw [List.mem_singleton] at hb
      subst hb; subst e
      exact hnot (.inr ha)
    · rcases List.mem_append.1 hz with hz | hz
      · exact h.el z hz
      · rw [List.mem_singleton] at hz
        exact ⟨y, hz, hy, by have := fun e => hnot (.inl e); simpa using this, hr⟩
    · show (s.2 ++ [(y : Int)]).length + free (s.1.set y true) ≤ n
      rw [List.length_append]
      show s.2.length + 1 + _ ≤ n
      omega
    · exact gs_same (by omega)
    · by_cases e : x = y
      · subst e; exact gs_same (by omega)
      · show ga (s.1.set y true) x = true
        rw [gs_ne (show y ≠ x from fun e' => e e'.symm)]; exact hx
theorem bfsS_bi {d : Dg} {s0 : List Bool} {c x : Nat} {s : List Bool × List Int} (hab : arcsB d = true) (h : BI d d.crs.length s0 c s) (hx : x < d.crs.length) (hr : Rc d c x) (k : Nat) (hk : k ≤ 4) :
    BI d d.crs.length s0 c (bfsS d x s k) ∧ (∃ t, (bfsS d x s k).2 = s.2 ++ t) ∧ (∀ j, j < k → ga (bfsS d x s k).1 (nbC d x j) = true) ∧ ∀ z, ga s.1 z = true → ga (bfsS d x s k).1 z = true := by
  induction k with
  | zero => exact ⟨h, ⟨[], by simp [bfsS]⟩, fun j hj => by omega, fun z hz => hz⟩
  | succ k ih =>
    obtain ⟨h1, ⟨t1, h2⟩, h3, h4⟩ := ih (by omega)
    obtain ⟨g1, ⟨t2, g2⟩, g3, g4⟩ := addS_bi h1 (nbC_lt hab hx (show k < 4 by omega)) (hr.step (show k < 4 by omega))
    refine ⟨g1, ⟨t1 ++ t2, ?_⟩, fun j hj => ?_, fun z hz => g4 z (h4 z hz)⟩
    · show (addS _ _).2 = _
      rw [g2, h2, List.append_assoc]
    · by_cases e : j = k
      · subst e; exact g3
      · exact g4 _ (h3 j (by omega))
theorem bfsN_bi {d : Dg} {s0 : List Bool} {c : Nat} (hab : arcsB d = true) : ∀ (f i : Nat) (s : List Bool × List Int), BI d d.crs.length s0 c s → d.crs.length ≤ i + f → i ≤ s.2.length → (∀ j, j < i → ∀ k, k < 4 → ga s.1 (nbC d (ga s.2 j).toNat k) = true) →
    BI d d.crs.length s0 c (bfsN d f i s) ∧ (∃ t, (bfsN d f i s).2 = s.2 ++ t) ∧ ∀ j, j < (bfsN d f i s).2.length → ∀ k, k < 4 → ga (bfsN d f i s).1 (nbC d (ga (bfsN d f i s).2 j).toNat k) = true := by
  intro f
  induction f with
  | zero =>
    intro i s h hf hi hp
    have := h.room
    exact ⟨h, ⟨[], by simp [bfsN]⟩, fun j hj => hp j (by have hj' : j < s.2.length := hj; omega)⟩
  | succ f ih =>
    intro i s h hf hi hp
    by_cases hlt : i < s.2.length
    · rw [bfsN, if_pos hlt]
      obtain ⟨z, hz, hzn, _, hrz⟩ := h.el _ (ga_mem hlt)
      rw [hz, Int.toNat_natCast]
      obtain ⟨h1, ⟨t, h2⟩, h3, h4⟩ := bfsS_bi hab h hzn hrz 4 (Nat.le_refl _)
      obtain ⟨g1, ⟨t', g2⟩, g3⟩ := ih (i + 1) (bfsS d z s 4) h1 (by omega) (by rw [h2, List.length_append]; omega) (fun j hj k hk => by
        rw [h2, ga_append_left _ _ _ (by omega)]
        by_cases e : j = i
        · subst e; rw [hz, Int.toNat_natCast]; exact h3 k hk
        · exact h4 _ (hp j (by omega) k hk))
      exact ⟨g1, ⟨t ++ t', by rw [g2, h2, List.append_assoc]⟩, g3⟩
    · rw [bfsN_stop (by omega)]
      exact ⟨h, ⟨[], by simp⟩, fun j hj => hp j (by omega)⟩
structure PcI (d : Dg) (c : Nat) (s : List Bool × List (List Int)) : Prop where
  see : ∀ x, x < d.crs.length → (ga s.1 x = true ↔ ∃ i, i < s.2.length ∧ (x : Int) ∈ ga s.2 i)
  cov : ∀ x, x < c → ga s.1 x = true
  el : ∀ i, i < s.2.length → (ga s.2 i).Nodup ∧ ∃ c0 : Nat, c0 < d.crs.length ∧ (c0 : Int) ∈ ga s.2 i ∧ ∀ y ∈ ga s.2 i, ∃ z : Nat, y = (z : Int) ∧ z < d.crs.length ∧ Rc d c0 z
  clo : ∀ i, i < s.2.length → ∀ z : Nat, (z : Int) ∈ ga s.2 i → ∀ k, k < 4 → ((nbC d z k : Nat) : Int) ∈ ga s.2 i
  dis : ∀ i j, i < s.2.length → j < s.2.length → ∀ y, y ∈ ga s.2 i → y ∈ ga s.2 j → i = j
theorem pcsN_pi {d : Dg} (hab : arcsB d = true) (hsym : ∀ x k, x < d.crs.length → k < 4 → ∃ k', k' < 4 ∧ nbC d (nbC d x k) k' = x) (c : Nat) (hc : c ≤ d.crs.length) : PcI d c (pcsN d c) := by
  induction c with
  | zero =>
    refine ⟨fun x hx => ?_, fun x hx => by omega, fun i hi => ?_, fun i hi => ?_, fun i j hi => ?_⟩
    · simp only [pcsN]
      rw [ga_rep _ _ _ hx]
      constructor
      · intro h; cases h
      · rintro ⟨i, hi, _⟩; exact absurd hi (Nat.not_lt_zero _)
    all_goals exact absurd hi (Nat.not_lt_zero _)
  | succ c ih =>
    have I := ih (by omega)
    have hlen := pcsN_len d c
    generalize hs : pcsN d c = s at I hlen
    obtain ⟨seen, pss⟩ := s
    by_cases hg : ga seen c = true
    · rw [pcsN_skip hs hg]
      exact ⟨I.see, fun x hx => by by_cases e : x = c; (subst e; exact hg); exact I.cov x (by omega), I.el, I.clo, I.dis⟩
    · have hgf : ga seen c = false := by simpa using hg
      rw [pcsN_add hs hgf rfl]
      have hlen' : seen.length = d.crs.length := hlen
      have B0 : BI d d.crs.length seen c (seen.set c true, [(c : Int)]) := by
        have hfr := free_set (seen := seen) (x := c) (by omega) hgf
        have hfl : free seen ≤ seen.length := List.countP_le_length
        refine ⟨by simp [hlen'], fun x hx => ?_, by simp, fun y hy => ?_, by show 1 + free (seen.set c true) ≤ _; omega⟩
        · by_cases e : x = c
          · subst e; exact ⟨fun _ => .inr (by simp), fun _ => gs_same (by omega)⟩
          · show ga (seen.set c true) x = true ↔ _
            rw [gs_ne (show c ≠ x from fun e' => e e'.symm)]
            constructor
            · exact .inl
            · rintro (h1 | h1)
              · exact h1
              · rw [List.mem_singleton] at h1; exact absurd (Int.ofNat.inj h1) e
        · rw [List.mem_singleton] at hy; exact ⟨c, hy, by omega, hgf, .refl c⟩
      obtain ⟨B1, ⟨t, B2⟩, B3⟩ := bfsN_bi hab d.crs.length 0 _ B0 (by omega) (Nat.zero_le _) (fun j hj => by omega)
      generalize hr : bfsN d d.crs.length 0 (seen.set c true, [(c : Int)]) = r at B1 B2 B3 ⊢
      have hcm : (c : Int) ∈ r.2 := by rw [B2]; simp
      have hnew : ga (pss ++ [srt r.2]) pss.length = srt r.2 := by rw [ga_append_right _ _ _ (Nat.le_refl _), Nat.sub_self]; rfl
      have hold : ∀ i, i < pss.length → ga (pss ++ [srt r.2]) i = ga pss i := fun i hi => ga_append_left _ _ _ hi
      have hL : (pss ++ [srt r.2]).length = pss.length + 1 := by simp
      have hcl : ∀ z : Nat, (z : Int) ∈ r.2 → ∀ k, k < 4 → ((nbC d z k : Nat) : Int) ∈ r.2 := fun z hz k hk => by
        obtain ⟨j, hj, ej⟩ := List.mem_iff_getElem.1 hz
        have h1 := B3 j hj k hk
        rw [ga_eq hj, ej, Int.toNat_natCast] at h1
        obtain ⟨z', e', hzn, hz0, _⟩ := B1.el _ hz
        obtain rfl : z = z' := by omega
        have hnl := nbC_lt hab hzn hk
        rcases (B1.see _ hnl).1 h1 with h2 | h2
        · exfalso
          obtain ⟨i, hi, hm⟩ := (I.see _ hnl).1 h2
          obtain ⟨k', hk', e2⟩ := hsym z k hzn hk
          have h3 := I.clo i hi _ hm k' hk'
          rw [e2] at h3
          have h4 := (I.see z hzn).2 ⟨i, hi, h3⟩
          have h5 : ga seen z = true := h4
          rw [hz0] at h5; cases h5
        · exact h2
      refine ⟨fun x hx => ?_, fun x hx => ?_, fun i hi => ?_, fun i hi => ?_, fun i j hi hj y hy hy' => ?_⟩
      · show ga r.1 x = true ↔ ∃ i, i < (pss ++ [srt r.2]).length ∧ (x : Int) ∈ ga (pss ++ [srt r.2]) i
        rw [B1.see x hx]
        have hI : ga seen x = true ↔ ∃ i, i < pss.length ∧ (x : Int) ∈ ga pss i := I.see x hx
        rw [hI]
        constructor
        · rintro (⟨i, hi, hm⟩ | hm)
          · exact ⟨i, by omega, by rw [hold i hi]; exact hm⟩
          · exact ⟨pss.length, by omega, by rw [hnew]; exact srt_mem.2 hm⟩
        · rintro ⟨i, hi, hm⟩
          by_cases e : i < pss.length
          · rw [hold i e] at hm; exact .inl ⟨i, e, hm⟩
          · obtain rfl : i = pss.length := by omega
            rw [hnew] at hm; exact .inr (srt_mem.1 hm)
      · show ga r.1 x = true
        rw [B1.see x (by omega)]
        by_cases e : x = c
        · subst e; exact .inr hcm
        · exact .inl (I.cov x (by omega))
      · show (ga (pss ++ [srt r.2]) i).Nodup ∧ ∃ c0 : Nat, c0 < d.crs.length ∧ (c0 : Int) ∈ ga (pss ++ [srt r.2]) i ∧ ∀ y ∈ ga (pss ++ [srt r.2]) i, _
        have hi' : i < (pss ++ [srt r.2]).length := hi
        by_cases e : i < pss.length
        · rw [hold i e]; exact I.el i e
        · obtain rfl : i = pss.length := by omega
          rw [hnew]
          refine ⟨(srt_perm r.2).nodup_iff.2 B1.nod, c, by omega, srt_mem.2 hcm, fun y hy => ?_⟩
          obtain ⟨z, h1, h2, _, h3⟩ := B1.el y (srt_mem.1 hy)
          exact ⟨z, h1, h2, h3⟩
      · show ∀ z : Nat, (z : Int) ∈ ga (pss ++ [srt r.2]) i → ∀ k, k < 4 → ((nbC d z k : Nat) : Int) ∈ ga (pss ++ [srt r.2]) i
        have hi' : i < (pss ++ [srt r.2]).length := hi
        by_cases e : i < pss.length
        · rw [hold i e]; exact I.clo i e
        · obtain rfl : i = pss.length := by omega
          rw [hnew]
          intro z hz k hk
          exact srt_mem.2 (hcl z (srt_mem.1 hz) k hk)
      · have hi' : i < (pss ++ [srt r.2]).length := hi
        have hj' : j < (pss ++ [srt r.2]).length := hj
        have hy1 : y ∈ ga (pss ++ [srt r.2]) i := hy
        have hy2 : y ∈ ga (pss ++ [srt r.2]) j := hy'
        have key : ∀ i, i < pss.length → y ∈ ga pss i → y ∈ r.2 → False := fun i hi h1 h2 => by
          obtain ⟨z, rfl, hzn, hz0, _⟩ := B1.el y h2
          have h5 : ga seen z = true := (I.see z hzn).2 ⟨i, hi, h1⟩
          rw [hz0] at h5; cases h5
        by_cases e : i < pss.length
        · rw [hold i e] at hy1
          by_cases e' : j < pss.length
          · rw [hold j e'] at hy2; exact I.dis i j e e' y hy1 hy2
          · obtain rfl : j = pss.length := by omega
            rw [hnew] at hy2
            exact (key i e hy1 (srt_mem.1 hy2)).elim
        · obtain rfl : i = pss.length := by omega
          rw [hnew] at hy1
          by_cases e' : j < pss.length
          · rw [hold j e'] at hy2
            exact (key j e' hy2 (srt_mem.1 hy1)).elim
          · omega

end Go.Proofs.Ytlbpgnimpcflaaa
