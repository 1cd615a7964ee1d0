/- Polynomials at work: maps of coefficients by exponents. Nothing of one program stands here. -/
import Derived.Test.YtkcighnochjlgaaDet
import Derived.Test.YtkcighnochjlgaaE15
import Derived.Test.YtkcighnochjlgaaE17
namespace Go.Proofs.Ytkcighnochjlgaa
open Go.ChangeShapes Go.WideShapes Go.ChangeAt Go.RowKit

/-! Exponents within bounds. -/
def Bd (l : List Tm) (B : Nat) : Prop := ∀ t ∈ l, -(B : Int) ≤ t.e ∧ t.e ≤ B
theorem Bd.mono {l : List Tm} {B C : Nat} (h : Bd l B) (k : B ≤ C) : Bd l C := fun t ht => by have := h t ht; omega
theorem put_bd {l : List Tm} {B : Nat} (h : Bd l B) {e c : Int} (he : -(B : Int) ≤ e ∧ e ≤ B) : Bd (put l e c) B := fun t ht => by
  rcases put_mem ht with e1 | h1
  · rw [e1]; exact he
  · exact h t h1
theorem inc_len : ∀ {ks : List Int} {lo hi : Int}, ks.Pairwise (fun a b => a < b) → (∀ k ∈ ks, lo ≤ k ∧ k ≤ hi) → lo ≤ hi + 1 → (ks.length : Int) ≤ hi - lo + 1
  | [], lo, hi, _, _, h => by simp; omega
  | k :: ks, lo, hi, hp, hb, h => by
    obtain ⟨h1, h2⟩ := List.pairwise_cons.1 hp
    have hk := hb k (by simp)
    have := inc_len (lo := k + 1) (hi := hi) h2 (fun j hj => ⟨by have := h1 j hj; omega, (hb j (by simp [hj])).2⟩) (by omega)
    simp only [List.length_cons]
    omega
theorem can_len {l : List Tm} {B : Nat} (h : Can l) (hb : Bd l B) : l.length ≤ 2 * B + 1 := by
  have := inc_len (ks := l.map (·.e)) (lo := -(B : Int)) (hi := B) (by rw [List.pairwise_map]; exact h.1) (fun k hk => by
    obtain ⟨t, ht, rfl⟩ := List.mem_map.1 hk
    exact hb t ht) (by omega)
  rw [List.length_map] at this
  omega

/-! Entries. -/
def Ents (es : List (Int × Int)) (B : Nat) : Prop := (es.map Prod.fst).Nodup ∧ ∀ q ∈ es, (-(B : Int) ≤ q.1 ∧ q.1 ≤ B) ∧ wr q.2 = q.2
theorem Ents.nil_ (B : Nat) : Ents [] B := ⟨by simp, by simp⟩
theorem Ents.mono {es : List (Int × Int)} {B C : Nat} (h : Ents es B) (k : B ≤ C) : Ents es C := ⟨h.1, fun q hq => by have := h.2 q hq; exact ⟨by omega, this.2⟩⟩
theorem mp_mem {k v : Int} {es : List (Int × Int)} {q : Int × Int} (h : q ∈ mp k v es) : q = (k, v) ∨ q ∈ es := by
  induction es with
  | nil => simp [mp] at h; exact .inl h
  | cons p r ih =>
    unfold mp at h
    split at h
    · rcases List.mem_cons.1 h with e | h
      · exact .inl e
      · exact .inr (by simp [h])
    · rcases List.mem_cons.1 h with e | h
      · exact .inr (by simp [e])
      · rcases ih h with e | h
        · exact .inl e
        · exact .inr (by simp [h])
theorem mp_keys (k v : Int) (es : List (Int × Int)) : (mp k v es).map Prod.fst = if k ∈ es.map Prod.fst then es.map Prod.fst else es.map Prod.fst ++ [k] := by
  induction es with
  | nil => simp [mp]
  | cons p r ih =>
    unfold mp
    by_cases h : k = p.1
    · rw [if_pos h]; simp [h]
    · rw [if_neg h, List.map_cons, ih]
      by_cases h2 : k ∈ r.map Prod.fst
      · rw [if_pos h2, if_pos (by rw [List.map_cons]; exact List.mem_cons_of_mem _ h2), List.map_cons]
      · rw [if_neg h2, if_neg (by rw [List.map_cons]; intro h3; exact (List.mem_cons.1 h3).elim h h2), List.map_cons, List.cons_append]
theorem mp_ents {es : List (Int × Int)} {B : Nat} (h : Ents es B) {k v : Int} (hk : -(B : Int) ≤ k ∧ k ≤ B) (hv : wr v = v) : Ents (mp k v es) B := by
  refine ⟨?_, fun q hq => ?_⟩
  · rw [mp_keys]
    split
    · exact h.1
    · rename_i hn
      exact List.nodup_append.2 ⟨h.1, by simp, fun a ha b hb => by simp at hb; subst hb; exact fun e => hn (e ▸ ha)⟩
  · rcases mp_mem hq with rfl | hq
    · exact ⟨hk, hv⟩
    · exact h.2 q hq
theorem mk_mp (k v : Int) (es : List (Int × Int)) : mk (mp k v es) = mk es + mono k (v - (mg k es).getD 0) := by
  induction es with
  | nil =>
    show mk [(k, v)] = Pol.o + mono k (v - 0)
    rw [Pol.zero_add, Int.sub_zero]; rfl
  | cons p r ih =>
    unfold mp mg
    by_cases h : k = p.1
    · rw [if_pos h, if_pos h, mk_cons, mk_cons]
      subst h
      show mono p.1 v + mk r = mono p.1 p.2 + mk r + mono p.1 (v - p.2)
      rw [Pol.add_assoc, Pol.add_comm (mk r), ← Pol.add_assoc, ← mono_add, show p.2 + (v - p.2) = v by omega]
    · rw [if_neg h, if_neg h, mk_cons, mk_cons, ih, Pol.add_assoc]
theorem mk_mp_add (k c : Int) (es : List (Int × Int)) : mk (mp k (wr ((mg k es).getD 0 + c)) es) = mk es + mono k c := by
  rw [mk_mp]
  refine congrArg _ (mono_congr rfl ?_)
  have h1 := md_add (md_wr ((mg k es).getD 0 + c)) (rfl : md (-(mg k es).getD 0) = _)
  rw [show wr ((mg k es).getD 0 + c) - (mg k es).getD 0 = wr ((mg k es).getD 0 + c) + -(mg k es).getD 0 by omega, h1]
  congr 1; omega
theorem mg_mem {es : List (Int × Int)} (h : (es.map Prod.fst).Nodup) {q : Int × Int} (hq : q ∈ es) : (mg q.1 es).getD 0 = q.2 := by
  induction es with
  | nil => simp at hq
  | cons p r ih =>
    obtain ⟨h1, h2⟩ := List.nodup_cons.1 (by simpa using h : (p.1 :: r.map Prod.fst).Nodup)
    unfold mg
    rcases List.mem_cons.1 hq with rfl | hq
    · rw [if_pos rfl]; rfl
    · rw [if_neg (fun e => h1 (by rw [← e]; exact List.mem_map.2 ⟨q, hq, rfl⟩))]
      exact ih h2 hq
theorem mg_none {es : List (Int × Int)} {k : Int} (h : k ∉ es.map Prod.fst) : (mg k es).getD 0 = 0 := by
  induction es with
  | nil => rfl
  | cons p r ih =>
    unfold mg
    rw [if_neg (fun e => h (by simp [e]))]
    exact ih fun h2 => h (by rw [List.map_cons]; exact List.mem_cons_of_mem _ h2)
theorem mg_rng {es : List (Int × Int)} {B : Nat} (h : Ents es B) (k : Int) : wr ((mg k es).getD 0) = (mg k es).getD 0 := by
  by_cases hk : k ∈ es.map Prod.fst
  · obtain ⟨q, hq, rfl⟩ := List.mem_map.1 hk
    rw [mg_mem h.1 hq]; exact (h.2 q hq).2
  · rw [mg_none hk]; exact wr_id (by omega)
/-! The form. -/
theorem srt_inc {ks : List Int} (h : ks.Nodup) : (srt ks).Pairwise (fun a b => a < b) := by
  have h1 : (srt ks).Pairwise (fun a b => decide (a ≤ b) = true) := List.pairwise_mergeSort (fun a b c h1 h2 => by simp at *; omega) (fun a b => by simp; omega) ks
  have h2 : (srt ks).Nodup := (srt_perm ks).nodup_iff.2 h
  exact (h1.and h2).imp fun {a b} h => by have := h.1; have := h.2; simp at *; omega
theorem ents_len {es : List (Int × Int)} {B : Nat} (h : Ents es B) : es.length ≤ 2 * B + 1 := by
  have := inc_len (ks := srt (es.map Prod.fst)) (lo := -(B : Int)) (hi := B) (srt_inc h.1) (fun k hk => by
    obtain ⟨q, hq, rfl⟩ := List.mem_map.1 (srt_mem.1 hk)
    exact (h.2 q hq).1) (by omega)
  rw [srt_len, List.length_map] at this
  omega
def fm (es : List (Int × Int)) (ks : List Int) : List Tm := ks.flatMap fun e => if (mg e es).getD 0 = 0 then [] else [⟨e, (mg e es).getD 0⟩]
theorem fm_snoc (es : List (Int × Int)) (ks : List Int) (e : Int) : fm es (ks ++ [e]) = fm es ks ++ (if (mg e es).getD 0 = 0 then [] else [⟨e, (mg e es).getD 0⟩]) := by
  unfold fm; rw [List.flatMap_append]; simp
theorem fm_mem {es : List (Int × Int)} {ks : List Int} {t : Tm} (h : t ∈ fm es ks) : t.e ∈ ks ∧ t.c = (mg t.e es).getD 0 ∧ t.c ≠ 0 := by
  obtain ⟨e, he, ht⟩ := List.mem_flatMap.1 h
  split at ht
  · simp at ht
  · rename_i h0
    simp at ht; subst ht; exact ⟨he, rfl, h0⟩
theorem fm_len (es : List (Int × Int)) (ks : List Int) : (fm es ks).length ≤ ks.length := by
  induction ks with
  | nil => simp [fm]
  | cons k ks ih =>
    have : fm es (k :: ks) = (if (mg k es).getD 0 = 0 then [] else [⟨k, (mg k es).getD 0⟩]) ++ fm es ks := by unfold fm; rw [List.flatMap_cons]
    rw [this, List.length_append, List.length_cons]
    split <;> simp <;> omega
theorem fm_inc {es : List (Int × Int)} : ∀ {ks : List Int}, ks.Pairwise (fun a b => a < b) → (fm es ks).Pairwise (fun s t => s.e < t.e)
  | [], _ => List.Pairwise.nil
  | k :: ks, h => by
    obtain ⟨h1, h2⟩ := List.pairwise_cons.1 h
    have e : fm es (k :: ks) = (if (mg k es).getD 0 = 0 then [] else [⟨k, (mg k es).getD 0⟩]) ++ fm es ks := by unfold fm; rw [List.flatMap_cons]
    rw [e]
    split
    · exact fm_inc h2
    · exact List.pairwise_cons.2 ⟨fun t ht => h1 _ (fm_mem ht).1, fm_inc h2⟩
theorem mk_fm (es : List (Int × Int)) (ks : List Int) : mk (pr (fm es ks)) = mk (ks.map fun e => (e, (mg e es).getD 0)) := by
  induction ks with
  | nil => rfl
  | cons k ks ih =>
    have e : fm es (k :: ks) = (if (mg k es).getD 0 = 0 then [] else [⟨k, (mg k es).getD 0⟩]) ++ fm es ks := by unfold fm; rw [List.flatMap_cons]
    rw [e, List.map_cons, mk_cons, ← ih]
    split
    · rename_i h0
      show mk (pr (fm es ks)) = mono k ((mg k es).getD 0) + _
      rw [h0, mono_zero, Pol.zero_add]
    · rfl
def formL (es : List (Int × Int)) : List Tm := fm es (srt (es.map Prod.fst))
theorem mk_formL {es : List (Int × Int)} {B : Nat} (h : Ents es B) : mk (pr (formL es)) = mk es := by
  unfold formL
  rw [mk_fm, mk_perm ((srt_perm (es.map Prod.fst)).map _), List.map_map]
  refine congrArg mk ?_
  conv => rhs; rw [← List.map_id es]
  refine List.map_congr_left fun q hq => ?_
  show (q.1, (mg q.1 es).getD 0) = q
  rw [mg_mem h.1 hq]
theorem formL_bd {es : List (Int × Int)} {B : Nat} (h : Ents es B) : Bd (formL es) B := fun t ht => by
  obtain ⟨q, hq, e⟩ := List.mem_map.1 (srt_mem.1 (fm_mem ht).1)
  rw [← e]; exact (h.2 q hq).1
theorem formL_can {es : List (Int × Int)} {B : Nat} (h : Ents es B) (hB : B ≤ 1099511627776) : Can (formL es) := by
  refine ⟨fm_inc (srt_inc h.1), fun t ht => ?_⟩
  obtain ⟨h1, h2, h3⟩ := fm_mem ht
  have := formL_bd h t ht
  exact ⟨h3, by rw [h2]; exact mg_rng h _, wr_id (by omega)⟩
/-! A polynomial at work. -/
def Wk (N : Hp) (g : Nat) (B : Nat) (p : Pol) : Prop := ∃ es, MpOk (Value.int .i64) (Value.int .i64) g es N ∧ Ents es B ∧ mk es = p
theorem Wk.mono {N N' : Hp} {g B : Nat} {p : Pol} (h : Wk N g B p) (k : N.le N') : Wk N' g B p := by
  obtain ⟨es, h1, h2⟩ := h
  exact ⟨es, h1.mono k, h2⟩
theorem Wk.up {N : Hp} {g B C : Nat} {p : Pol} (h : Wk N g B p) (k : B ≤ C) : Wk N g C p := by
  obtain ⟨es, h1, h2, h3⟩ := h
  exact ⟨es, h1, h2.mono k, h3⟩
def WkR (B : Nat) (p : Pol) (u : Value) (N : Hp) : Prop := ∃ g, u = .map (some g) ∧ Wk N g B p
/-- Codec of lists of polynomials at work: each a map, or none yet. -/
def mpF (o : Option Nat) : List Value := [.map o]
theorem mpF_one (o : Option Nat) : ∀ u ∈ mpF o, u.oneCell' = true := fun u hu => by
  simp [mpF] at hu; subst hu; rfl
def cdMap (E : TypeId) : Cd (Option Nat) := ⟨mpF, 1, 8, E, none, fun _ => rfl, mpF_one⟩
/-- What the maps of a list are; bf: their exponents' bounds. -/
def Wks (bf : Nat → Nat) (N : Hp) (gs : List (Option Nat)) (ps : List (Option Pol)) : Prop := gs.length = ps.length ∧ ∀ i, i < gs.length → match ga ps i with
  | some p => ∃ g, ga gs i = some g ∧ Wk N g (bf i) p
  | none => ga gs i = none
section
variable {bf : Nat → Nat} {N N' : Hp} {gs : List (Option Nat)} {ps : List (Option Pol)}
theorem Wks.mono (h : Wks bf N gs ps) (k : N.le N') : Wks bf N' gs ps := ⟨h.1, fun i hi => by
  have := h.2 i hi
  split at this
  · obtain ⟨g, h1, h2⟩ := this
    exact ⟨g, h1, h2.mono k⟩
  · exact this⟩
theorem Wks.get (h : Wks bf N gs ps) {i : Nat} (hi : i < gs.length) {p : Pol} (hp : ga ps i = some p) : ∃ g, ga gs i = some g ∧ Wk N g (bf i) p := by
  have := h.2 i hi
  rw [hp] at this
  exact this
theorem Wks.rep (bf : Nat → Nat) (N : Hp) (n : Nat) : Wks bf N (List.replicate n none) (List.replicate n none) := ⟨by simp, fun i hi => by
  simp at hi
  rw [ga_rep _ _ _ hi, ga_rep _ _ _ hi]⟩
theorem Wks.nil_ (bf : Nat → Nat) (N : Hp) : Wks bf N [] [] := ⟨rfl, fun i hi => by simp at hi⟩
theorem Wks.set_ (h : Wks bf N gs ps) {g : Nat} {p : Pol} {i : Nat} (hg : Wk N g (bf i) p) (hi : i < gs.length) : Wks bf N (gs.set i (some g)) (ps.set i (some p)) := ⟨by simp [h.1], fun j hj => by
  rw [List.length_set] at hj
  rw [ga_set _ _ _ _ hi, ga_set _ _ _ _ (by rw [← h.1]; exact hi)]
  by_cases e : i = j
  · subst e; rw [if_pos rfl, if_pos rfl]; exact ⟨g, rfl, hg⟩
  · rw [if_neg e, if_neg e]; exact h.2 j hj⟩
theorem Wks.snoc (h : Wks bf N gs ps) {g : Nat} {p : Pol} (hg : Wk N g (bf gs.length) p) : Wks bf N (gs ++ [some g]) (ps ++ [some p]) := ⟨by simp [h.1], fun j hj => by
  simp at hj
  by_cases e : j < gs.length
  · rw [ga_append_left _ _ _ e, ga_append_left _ _ _ (by rw [← h.1]; exact e)]; exact h.2 j e
  · have hl := h.1
    obtain rfl : j = gs.length := by omega
    rw [ga_append_right gs _ _ (by omega), ga_append_right ps _ _ (by omega), show gs.length - gs.length = 0 by omega, show gs.length - ps.length = 0 by omega]
    exact ⟨g, rfl, hg⟩⟩
end
/-- A table of maps. -/
def WksA (bf : Nat → Nat) (N : Hp) (gss : List (List (Option Nat))) (pss : List (List (Option Pol))) : Prop := gss.length = pss.length ∧ ∀ i, i < gss.length → Wks bf N (ga gss i) (ga pss i)
section
variable {bf : Nat → Nat} {N N' : Hp} {gss : List (List (Option Nat))} {pss : List (List (Option Pol))}
theorem WksA.mono (h : WksA bf N gss pss) (k : N.le N') : WksA bf N' gss pss := ⟨h.1, fun i hi => (h.2 i hi).mono k⟩
theorem WksA.nil_ (bf : Nat → Nat) (N : Hp) : WksA bf N [] [] := ⟨rfl, fun i hi => by simp at hi⟩
theorem WksA.snoc (h : WksA bf N gss pss) {gs : List (Option Nat)} {ps : List (Option Pol)} (k : Wks bf N gs ps) : WksA bf N (gss ++ [gs]) (pss ++ [ps]) := ⟨by simp [h.1], fun j hj => by
  simp at hj
  by_cases e : j < gss.length
  · rw [ga_append_left _ _ _ e, ga_append_left _ _ _ (by rw [← h.1]; exact e)]; exact h.2 j e
  · have hl := h.1
    obtain rfl : j = gss.length := by omega
    rw [ga_append_right gss _ _ (by omega), ga_append_right pss _ _ (by omega), show gss.length - gss.length = 0 by omega, show gss.length - pss.length = 0 by omega]
    exact k⟩
theorem WksA.set_ (h : WksA bf N gss pss) {gs : List (Option Nat)} {ps : List (Option Pol)} (k : Wks bf N gs ps) {i : Nat} (hi : i < gss.length) : WksA bf N (gss.set i gs) (pss.set i ps) := ⟨by simp [h.1], fun j hj => by
  rw [List.length_set] at hj
  rw [ga_set _ _ _ _ hi, ga_set _ _ _ _ (by rw [← h.1]; exact hi)]
  by_cases e : i = j
  · rw [if_pos e, if_pos e]; exact k
  · rw [if_neg e, if_neg e]; exact h.2 j hj⟩
end
end Go.Proofs.Ytkcighnochjlgaa
