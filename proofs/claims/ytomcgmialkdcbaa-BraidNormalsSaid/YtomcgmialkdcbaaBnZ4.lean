/- Part 4 of the proof of the law BraidNormals: the walks through its functions and the plain laws that they need. -/
import Derived.Test.YtomcgmialkdcbaaBnZ3
import Derived.Lib.SliceRun
set_option linter.unusedSimpArgs false
set_option linter.unusedVariables false
namespace Go.Proofs.Ytomcgmialkdcbaa
open Go.ChangeShapes Go.WideShapes Go.ChangeAt Go.RowKit
section
variable {α : Type} {C : Cd α} {w : World} {M : Hp} {X : Fr} {H H' : List Rs} {i k : Nat} {vs : List SlV} {xss : List (List α)}
theorem nth_set_get {H : List Rs} {i j : Nat} {t r : Rs} (h : (H.set i t)[j]? = some r) : (j = i ∧ r = t) ∨ (j ≠ i ∧ H[j]? = some r) := by
  rw [List.getElem?_set] at h
  by_cases e : i = j
  · rw [if_pos e] at h
    split at h
    · injection h with h; exact .inl ⟨e.symm, h.symm⟩
    · cases h
  · rw [if_neg e] at h; exact .inr ⟨fun e2 => e e2.symm, h⟩
/-- The row at k is taken out of a table. -/
theorem SH.tabtake (S : SH w M X H) (k : Nat) (hi : nth H i = some (Rs.tab C vs xss)) (hk : k < xss.length) (hH : Rs.row C (ga vs k).v (ga xss k) :: H.set i (Rs.tab C (vs.set k ⟨none, 0, 0⟩) (xss.set k [])) = H') : SH w M X H' := by
  subst hH
  have ht : TabOk C vs xss (hp w) := S.get hi
  have hkv : k < vs.length := by rw [ht.1]; exact hk
  have hi' := hi
  rw [nth_eq] at hi'
  have hmem : Rs.tab C vs xss ∈ H := List.mem_of_getElem? hi'
  have sub : ∀ b ∈ (Rs.tab C (vs.set k ⟨none, 0, 0⟩) (xss.set k [])).bl, b ∈ (Rs.tab C vs xss).bl ∧ b ∉ (Rs.row C (ga vs k).v (ga xss k)).bl := fun b hb => by
    obtain ⟨j, hj, hb⟩ := tab_mem.1 hb
    rw [List.length_set] at hj
    rw [ga_set _ _ _ _ hkv] at hb
    by_cases h : k = j
    · rw [if_pos h] at hb; cases hb
    · rw [if_neg h] at hb; exact ⟨tab_mem.2 ⟨j, hj, hb⟩, ht.2.2 j k hj hkv (fun e => h e.symm) b hb⟩
  have rsub : ∀ b ∈ (Rs.row C (ga vs k).v (ga xss k)).bl, b ∈ (Rs.tab C vs xss).bl := fun b hb => tab_mem.2 ⟨k, hkv, hb⟩
  have hrow : ∀ (j : Nat) (r : Rs), (H.set i (Rs.tab C (vs.set k ⟨none, 0, 0⟩) (xss.set k [])))[j]? = some r → ∀ b ∈ (Rs.row C (ga vs k).v (ga xss k)).bl, b ∉ r.bl := fun j r hr b hb hc => by
    rcases nth_set_get hr with ⟨rfl, rfl⟩ | ⟨hne, hr⟩
    · exact (sub b hc).2 hb
    · exact S.ap i j _ _ (fun e => hne e.symm) hi' hr b (rsub b hb) hc
  refine ⟨S.m, S.x, S.mx, fun r hr => ?_, fun r hr b hb => ?_, fun a c r s hac ha hc b hb => ?_, S.like⟩
  · rcases List.mem_cons.1 hr with rfl | hr
    · exact ht.2.1 k hk
    · rcases List.mem_or_eq_of_mem_set hr with hr | rfl
      · exact S.ok r hr
      · refine ⟨by simp [ht.1], fun j hj => ?_, fun j m hj hm hjm b hb => ?_⟩
        · rw [List.length_set] at hj
          rw [ga_set _ _ _ _ hkv, ga_set _ _ _ _ hk]
          by_cases h : k = j
          · rw [if_pos h, if_pos h]; exact .inl ⟨rfl, rfl⟩
          · rw [if_neg h, if_neg h]; exact ht.2.1 j hj
        · rw [List.length_set] at hj hm
          rw [ga_set _ _ _ _ hkv] at hb ⊢
          by_cases h1 : k = j
          · rw [if_pos h1] at hb; cases hb
          · rw [if_neg h1] at hb
            by_cases h2 : k = m
            · rw [if_pos h2]; intro h; cases h
            · rw [if_neg h2]; exact ht.2.2 j m hj hm hjm b hb
  · rcases List.mem_cons.1 hr with rfl | hr
    · exact S.bl _ hmem b (rsub b hb)
    · rcases List.mem_or_eq_of_mem_set hr with hr | rfl
      · exact S.bl r hr b hb
      · exact S.bl _ hmem b (sub b hb).1
  · cases a with
    | zero =>
      cases c with
      | zero => exact absurd rfl hac
      | succ c =>
        simp only [List.getElem?_cons_zero, Option.some.injEq] at ha
        rw [List.getElem?_cons_succ] at hc
        subst ha
        exact hrow c s hc b hb
    | succ a =>
      rw [List.getElem?_cons_succ] at ha
      cases c with
      | zero =>
        simp only [List.getElem?_cons_zero, Option.some.injEq] at hc
        subst hc
        exact fun h => hrow a r ha b h hb
      | succ c =>
        rw [List.getElem?_cons_succ] at hc
        have hne : a ≠ c := fun e => hac (by rw [e])
        rcases nth_set_get ha with ⟨e1, e2⟩ | ⟨h1, ha2⟩
        · rcases nth_set_get hc with ⟨e3, e4⟩ | ⟨h2, hc2⟩
          · exact absurd (e1.trans e3.symm) hne
          · subst e1; subst e2; exact S.ap a c _ _ hne hi' hc2 b (sub b hb).1
        · rcases nth_set_get hc with ⟨e3, e4⟩ | ⟨h2, hc2⟩
          · subst e3; subst e4; exact fun h => S.ap a c _ _ hne ha2 hi' b hb (sub b h).1
          · exact S.ap a c _ _ hne ha2 hc2 b hb
theorem set_ga_self {β : Type} [Inhabited β] (xs : List β) (k : Nat) : xs.set k (ga xs k) = xs := by
  by_cases h : k < xs.length
  · rw [ga_eq h, List.set_getElem_self]
  · rw [List.set_eq_of_length_le (by omega)]
end
section
variable {P : Program} {o : Oper} {L : List (Nat × Value)} {w : World} {x y : Operand} {t T : TypeId} {a : Int} {M : Hp} {X : Fr} {H : List Rs} {i lo n d : Nat} {Kt : List (Nat × Value) → World → Prop}
theorem run_aliasDG {α : Type} {C : Cd α} {xs : List α} {rv : Value} {lx : Operand} (k : Nat) (hk1 : C.k = 1) (hop : o.op = .slice T x (some lx) none none) (hxx : oev L x = some rv) (hlo : oev L lx = some (.int .i64 a)) (hT : SlOf P T C) (hv : ∃ A c, rv = .slice A xs.length c ∧ xs.length ≤ c) (ha : a = (k : Int)) (hk : k ≤ xs.length) : Run P o L w (alv rv k (xs.length - k)) w := by
  obtain ⟨zv, h1, h2, h3, h4, h5⟩ := hT
  obtain ⟨inf, hinf, hz, hs, h8⟩ := info_parts h2
  subst ha
  obtain ⟨A, c, rfl, hc⟩ := hv
  have := run_sliceI (P := P) (w := w) (lo := k) (hi := xs.length) hop hxx (lv := some (.int .i64 (k : Int))) (hv := none) (size := C.k) (by simpa using hlo) rfl h1 (by rw [hinf]; simp [hs]) (.inr rfl) (.inl ⟨rfl, rfl⟩) hk hc
  rw [hk1, Nat.mul_one] at this
  exact this
theorem flat_rep {α : Type} {C : Cd α} {x : α} {u : Value} (h : C.f x = [u]) : ∀ m, (List.replicate m x).flatMap C.f = List.replicate m u
  | 0 => rfl
  | m + 1 => by rw [List.replicate_succ, List.flatMap_cons, h, flat_rep h m]; rfl
theorem flat_take1 {α : Type} {C : Cd α} (hk : C.k = 1) : ∀ (xs : List α) (m : Nat), (xs.flatMap C.f).take m = (xs.take m).flatMap C.f
  | [], m => by simp
  | x :: xs, 0 => by simp
  | x :: xs, m + 1 => by
    have hl : (C.f x).length = 1 := by rw [C.hf, hk]
    match e : C.f x, hl with
    | [u], _ =>
      rw [List.flatMap_cons, List.take_succ_cons, List.flatMap_cons, e]
      show u :: List.take m (xs.flatMap C.f) = u :: _
      rw [flat_take1 hk xs m]; rfl
/-- clear(x[lo:]) -/
theorem wo_clearAl {α : Type} {C : Cd α} {xs : List α} {rv : Value} {ca : Call} {ops : List Operand} {ts : List TypeId} (hk1 : C.k = 1) (hop : o.op = .call ca) (hca : ca.callee = .builtin .clear) (hxs : ca.args = ops.toArray) (hts : ca.argTypes = ts.toArray) (hd : o.dst = none)
    (hx : oevs L ops = some [alv rv lo n]) (ht : ts = [t]) (hT : SlOf P t C) (S : SH w M X H) (hi : nth H i = some (Rs.row C rv xs)) (hlo : lo ≤ xs.length) (hn : n = xs.length - lo)
    (h : ∀ w', SH w' M X (H.set i (Rs.row C rv (xs.take lo ++ List.replicate n C.z))) → Kt L w') : WO P d o L w Kt := by
  obtain ⟨zv, h1, h2, h3, h4, h5⟩ := hT
  obtain ⟨inf, hinf, hz, hs, h8⟩ := info_parts h2
  subst hn
  subst ht
  rcases Nat.lt_or_ge lo xs.length with h0 | h0
  · rcases (S.get hi : RowOk C rv xs (hp w)) with ⟨_, h9⟩ | ⟨g, cap, cur, rfl, hg, g3, g4, g5, g6⟩
    · exfalso; rw [h9, List.length_nil] at h0; omega
    · rw [alv_in (by omega)] at hx
      have hzl : (C.f C.z).length = 1 := by rw [C.hf, hk1]
      obtain ⟨u, hu⟩ : ∃ u, C.f C.z = [u] := by
        match e : C.f C.z, hzl with
        | [u], _ => exact ⟨u, rfl⟩
      rw [hu] at h3
      have hzc : zv.cells = #[u] := by apply Array.ext'; simpa using h3
      have hcs : cur.size = cap := by rw [g5, hk1, Nat.mul_one]
      have hcur : cur.toList.length = cap := by rw [Array.length_toList, hcs]
      rw [hk1, Nat.mul_one] at g6
      have hzer : (Builtin.zeroCells zv.cells (xs.length - lo)).toList = List.replicate (xs.length - lo) u := by
        rw [hzc]
        simp [Builtin.zeroCells]
        apply List.ext_getElem
        · simp
        · intro i h1 h2
          simp [Nat.mod_one]
      have h1c : u.oneCell' = true := C.one C.z u (by rw [hu]; simp)
      have hst := run_storeCells_at P g lo C.E (List.replicate (xs.length - lo) u) 0 cur w hg (by rw [List.length_replicate]; omega) (by intro v hv'; rw [List.eq_of_mem_replicate hv']; exact h1c)
      rw [List.length_replicate, Nat.add_zero, show lo + (xs.length - lo) = xs.length by omega] at hst
      have hrun : (Builtin.clear_ #[t] o.type #[.slice (some ⟨g, lo, none⟩) (xs.length - lo) (cap - lo)]).run P w = .ok (.tuple #[]) (w.setRow g (cur.toList.take lo ++ List.replicate (xs.length - lo) u ++ cur.toList.drop xs.length).toArray) := by
        obtain ⟨m, hm⟩ : ∃ m, xs.length - lo = m + 1 := ⟨xs.length - lo - 1, by omega⟩
        rw [hm] at hzer hst ⊢
        have hzv : (zeroValue C.E).run P w = .ok zv w := by simp [zeroValue, typeInfo, hinf, hz]
        simp [Builtin.clear_, run_underlying h1, hzv, hzer, hst]
      refine wo_runV hd (v := .tuple #[]) ?_ (h (w.setRow g (cur.toList.take lo ++ List.replicate (xs.length - lo) u ++ cur.toList.drop xs.length).toArray) ?_)
      · intro n c' he
        unfold execOp
        simp only [hop, resolve, hca, hxs, hts, List.map_toArray, he.evals hx, Sem.run_bind, Sem.run_pure, Result.andThen_ok, invoke, builtin, hrun]
      · refine S.step hi rfl (like_setRow _ _ _) (fun b _ hb => keep_setRow _ _ _ b (by simpa [Rs.row, Value.ownBlock] using hb)) ?_ (fun b hb => ⟨.inl hb, ?_⟩)
        · have hsr := setRow_heap w g cur (cur.toList.take lo ++ List.replicate (xs.length - lo) u ++ cur.toList.drop xs.length).toArray C.E (0, 0) hg
          have hln : (xs.take lo ++ List.replicate (xs.length - lo) C.z).length = xs.length := by rw [List.length_append, List.length_take, List.length_replicate]; omega
          have hl2 : (cur.toList.take lo ++ List.replicate (xs.length - lo) u).length = xs.length := by rw [List.length_append, List.length_take, List.length_replicate]; omega
          refine .inr ⟨g, cap, _, by rw [hln], hsr, by rw [hln]; exact g3, g4, ?_, ?_⟩
          · rw [hk1, Nat.mul_one, List.size_toArray, List.length_append, hl2, List.length_drop]; omega
          · rw [hln, hk1, Nat.mul_one, List.take_append_of_le_length (by omega), List.take_of_length_le (by omega), List.flatMap_append, flat_rep hu, ← flat_take1 hk1, ← g6, List.take_take, show min lo xs.length = lo by omega]
        · simp [Rs.row, Value.ownBlock] at hb
          subst hb
          have := hp_lt hg
          simpa using this
  · have e0 : xs.length - lo = 0 := by omega
    obtain ⟨A, c, rfl, hc⟩ := S.sl hi
    have e1 : xs.take lo ++ List.replicate (xs.length - lo) C.z = xs := by rw [e0, List.take_of_length_le (by omega)]; simp
    rw [e1, set_same hi] at h
    refine wo_runV hd (v := .tuple #[]) (w' := w) ?_ (h _ S)
    intro n c' he
    unfold execOp
    have hrun : (Builtin.clear_ #[t] o.type #[alv (.slice A xs.length c) lo (xs.length - lo)]).run P w = .ok (.tuple #[]) w := by
      obtain ⟨A2, e2⟩ : ∃ A2, alv (.slice A xs.length c) lo (xs.length - lo) = .slice A2 0 (c - lo) := ⟨_, by rw [e0]; rfl⟩
      rw [e2]
      cases A2 <;> simp [Builtin.clear_, run_underlying h1]
    simp only [hop, resolve, hca, hxs, hts, List.map_toArray, he.evals hx, Sem.run_bind, Sem.run_pure, Result.andThen_ok, invoke, builtin, hrun]
end
end Go.Proofs.Ytomcgmialkdcbaa
namespace Go.Proofs.Ytomcgmialkdcbaa
open Go.ChangeShapes Go.WideShapes Go.ChangeAt Go.RowKit
/-- The place of the first that is so, or -1. -/
def idxP (p : List Int → Bool) (xs : List (List Int)) : Int := match xs.findIdx? p with
 | some i => (i : Int)
 | none => -1
theorem idxP_hit {p : List Int → Bool} {xs : List (List Int)} {k : Nat} (hk : k < xs.length) (h : p (ga xs k) = true) (h0 : ∀ j, j < k → p (ga xs j) = false) : idxP p xs = k := by
 have : xs.findIdx? p = some k := by
  rw [List.findIdx?_eq_some_iff_getElem]
  refine ⟨hk, by rw [← ga_eq hk]; exact h, fun j hj => ?_⟩
  rw [← ga_eq (by omega), h0 j hj]; simp
 simp [idxP, this]
theorem idxP_none {p : List Int → Bool} {xs : List (List Int)} (h0 : ∀ j, j < xs.length → p (ga xs j) = false) : idxP p xs = -1 := by
 have : xs.findIdx? p = none := by
  rw [List.findIdx?_eq_none_iff]
  intro x hx
  obtain ⟨j, hj, rfl⟩ := List.mem_iff_getElem.1 hx
  rw [← ga_eq hj]; exact h0 j hj
 simp [idxP, this]
theorem idxP_spec {p : List Int → Bool} {xs : List (List Int)} : (idxP p xs = -1 ∧ xs.filter (fun x => !p x) = xs) ∨ ∃ k, k < xs.length ∧ idxP p xs = (k : Int) ∧ (xs.take (k + 1)).filter (fun x => !p x) = xs.take k := by
 unfold idxP
 cases h : xs.findIdx? p with
 | none =>
  rw [List.findIdx?_eq_none_iff] at h
  exact .inl ⟨rfl, List.filter_eq_self.2 fun x hx => by rw [h x hx]; rfl⟩
 | some k =>
  rw [List.findIdx?_eq_some_iff_getElem] at h
  obtain ⟨h1, h2, h3⟩ := h
  refine .inr ⟨k, h1, rfl, ?_⟩
  rw [List.take_succ_eq_append_getElem h1, List.filter_append, List.filter_cons_of_neg (by rw [h2]; simp), List.filter_nil, List.append_nil]
  refine List.filter_eq_self.2 fun x hx => ?_
  obtain ⟨j, hj, rfl⟩ := List.mem_iff_getElem.1 hx
  rw [List.length_take] at hj
  have := h3 j (by omega)
  rw [List.getElem_take]
  simpa using this
noncomputable def IndexFuncP_n0 : Code := Try.f38.body.getD .skip
noncomputable def IndexFuncP_n1 : Code := cL IndexFuncP_n0
noncomputable def IndexFuncP_n2 : Code := cR IndexFuncP_n0
noncomputable def IndexFuncP_n3 : Code := cL IndexFuncP_n2
noncomputable def IndexFuncP_n4 : Code := cR IndexFuncP_n2
noncomputable def IndexFuncP_n5 : Code := cL IndexFuncP_n3
noncomputable def IndexFuncP_n6 : Code := cR IndexFuncP_n3
noncomputable def IndexFuncP_n7 : Code := cL IndexFuncP_n6
noncomputable def IndexFuncP_n8 : Code := cL IndexFuncP_n7
noncomputable def IndexFuncP_n9 : Code := cL IndexFuncP_n8
noncomputable def IndexFuncP_n10 : Code := cR IndexFuncP_n8
noncomputable def IndexFuncP_n11 : Code := cL IndexFuncP_n10
noncomputable def IndexFuncP_n12 : Code := cR IndexFuncP_n10
noncomputable def IndexFuncP_n13 : Code := cL IndexFuncP_n11
noncomputable def IndexFuncP_n14 : Code := cR IndexFuncP_n11
noncomputable def IndexFuncP_n15 : Code := cL IndexFuncP_n12
noncomputable def IndexFuncP_n16 : Code := cR IndexFuncP_n12
noncomputable def IndexFuncP_n17 : Code := cL IndexFuncP_n15
noncomputable def IndexFuncP_n18 : Code := cL IndexFuncP_n17
noncomputable def IndexFuncP_n19 : Code := cR IndexFuncP_n17
noncomputable def IndexFuncP_n20 : Code := cL IndexFuncP_n19
noncomputable def IndexFuncP_n21 : Code := cR IndexFuncP_n19
noncomputable def IndexFuncP_n22 : Code := cL IndexFuncP_n21
noncomputable def IndexFuncP_n23 : Code := cR IndexFuncP_n21
noncomputable def IndexFuncP_n24 : Code := cL IndexFuncP_n22
noncomputable def IndexFuncP_n25 : Code := cR IndexFuncP_n22
noncomputable def IndexFuncP_n26 : Code := cL IndexFuncP_n4
noncomputable def IndexFuncP_n27 : Code := cR IndexFuncP_n4
set_option maxRecDepth 10000 in
theorem IndexFuncP_q {w : World} {M : Hp} {X : Fr} (s : List (List Int)) {sA : Option Addr} {sc : Nat} {sv : List SlV} (fv : FuncId) (cap : List Value) (p : List Int → Bool) (hs : RdA (cdV 38) (M.un X.h) sA sc sv) (hds : Rd2 cdInt (M.un X.h) sv s) (hen : ∀ args w, (callFunc fv args).run Try.prog w = .ok (.enter fv args) w) (hf : ∀ (w : World) (Y : Fr), (M.un X.h).le (M.un Y.h) → SH w M Y [] → ∀ A c xs, xs ∈ s → RdA cdInt (M.un Y.h) A c xs → Cq Try.prog fv ([.slice A xs.length c] ++ cap) w M Y (fun u => u = .bool (p xs))) (S : SH w M X []) : Cq Try.prog 38 [.slice sA sv.length sc, .func (.func fv) #[] cap.toArray] w M X (fun u => u = .int .i64 (idxP p s)) := by
 unfold Cq
 have rmhs : sv.length * 24 ≤ 140737488355328 := hs.room
 have hsl := hds.1
 refine calls_in (b := IndexFuncP_n0) Try.func38 rfl Try.ntmps38 rfl (fun C hC => (ws_sub [(0, _), (1, _)] ⟨rfl, rfl, trivial⟩ (ws_seqN IndexFuncP_n1 IndexFuncP_n2 rfl rfl rfl (ws_region rfl (wla 0 1 rfl rfl rfl rfl rfl rfl rfl ?_)))))
 refine wl_end rfl (nmk [0, 1] rfl (nm_thn (ws_seqN IndexFuncP_n3 IndexFuncP_n4 rfl rfl rfl (ws_seqN IndexFuncP_n5 IndexFuncP_n6 rfl rfl rfl ?_))))
 refine ws_region rfl (wlm 0 1 rfl rfl rfl rfl rfl rfl rfl (wlo 1 2 rfl rfl rfl (wo_run rfl rfl (run_len rfl rfl rfl rfl rfl rfl Try.underlying35) (wlm 2 3 rfl rfl rfl rfl rfl rfl rfl (wl_end rfl ?_)))))
 refine nmk [0, 1, 7, 8] rfl (nm_thn (ws_blockN IndexFuncP_n7 0 rfl rfl rfl ?_))
 refine ws_loopE (fun mx_ ax_ wx_ => ∃ (k : Nat), mx_ = sv.length - k ∧ Env 19 [(0, .slice sA sv.length sc), (1, .func (.func fv) #[] cap.toArray), (7, .int .i64 (sv.length : Int)), (8, .int .i64 (k : Int))] ax_ ∧ SH wx_ M X [] ∧ k ≤ sv.length ∧ (∀ j, j < k → p (ga s j) = false)) rfl ?_ ?_
 ·intro ax_ hax_
  refine ⟨_, ⟨0, rfl, hax_.sub ⟨rfl, rfl, rfl, rfl, trivial⟩, S.pick [] [] (by decide) trivial, ?hq1f0, ?hq1f1⟩⟩
  case hq1f0 => omega
  case hq1f1 => (intro j hj; omega)
 ·rintro m1 a1 w1 ⟨k, rfl, he1, S1, hk, hno⟩
  clear S
  refine ws_in he1 (c := IndexFuncP_n8) rfl ?_
  clear he1 a1
  have hsl := hds.1
  refine ws_seqN IndexFuncP_n9 IndexFuncP_n10 rfl rfl rfl (ws_region rfl (wlo 0 1 rfl rfl rfl (wo_run rfl rfl (run_lss rfl rfl rfl) (wl_end rfl (nm_thn ?_)))))
  refine ws_seqN IndexFuncP_n11 IndexFuncP_n12 rfl rfl rfl ?_
  refine ws_condN IndexFuncP_n13 IndexFuncP_n14 rfl rfl rfl rfl (fun hb9 => ?_) (fun hb9 => ?_)
  ·replace hb9 := of_decide_eq_true hb9
   refine ws_skip rfl (nmk [0, 1, 7, 8] rfl (nm_thn (ws_seqN IndexFuncP_n15 IndexFuncP_n16 rfl rfl rfl (ws_blockN IndexFuncP_n17 1 rfl rfl rfl ?_))))
   refine ws_seqN IndexFuncP_n18 IndexFuncP_n19 rfl rfl rfl (ws_region rfl (wlm 0 1 rfl rfl rfl rfl rfl rfl rfl (wla 1 2 rfl rfl rfl rfl rfl rfl rfl (wl_end rfl ?_))))
   refine nmk [0, 1, 7, 8, 5] rfl (nm_thn (ws_seqN IndexFuncP_n20 IndexFuncP_n21 rfl rfl rfl (ws_region rfl (wlm 0 1 rfl rfl rfl rfl rfl rfl rfl ?_))))
   refine wlm 1 2 rfl rfl rfl rfl rfl rfl rfl (wlm 2 3 rfl rfl rfl rfl rfl rfl rfl (wlo 3 4 rfl rfl rfl (wo_run rfl rfl (run_indexM (C := (cdV 38)) k rfl rfl rfl sl35 (by first | rfl | omega) hs (by first | omega | (simp only [lens]; omega))) ?_)))
   obtain ⟨hn1, hr1⟩ := hds.2 k (by first | omega | (simp only [lens]; omega))
   have rmhr1 : (ga s k).length * 8 ≤ 140737488355328 := hr1.room
   refine wlo 4 5 rfl rfl rfl (wo_run rfl rfl (run_load1 rfl rfl Try.underlying38 rfl (hs.cell S1.um (i := k) (by first | omega | (simp only [lens]; omega)) 0 rfl (congrArg (fun n => some (Value.slice _ n _)) hn1))) ?_)
   refine wlo 5 6 rfl rfl rfl (wo_cqF rfl rfl rfl rfl rfl rfl rfl hen S1 (hf _ _ S1.un_XH S1.lend _ _ _ (ga_mem (by omega)) (hr1.mono S1.un_XH)) ?_)
   rintro _ w2 S2 rfl; clear S1
   refine wl_end rfl (nmk [0, 1, 7, 8, 5, 16] rfl (nm_thn ?_))
   refine ws_condN IndexFuncP_n22 IndexFuncP_n23 rfl rfl rfl rfl (fun hb16 => ?_) (fun hb16 => ?_)
   ·refine ws_seqN IndexFuncP_n24 IndexFuncP_n25 rfl rfl rfl (ws_region rfl (wlm 0 1 rfl rfl rfl rfl rfl rfl rfl (wla 1 2 rfl rfl rfl rfl rfl rfl rfl (wl_end rfl ?_))))
    refine nmk [4] rfl (nm_thn (ws_ret hC [_] rfl rfl ⟨rfl, trivial⟩ ?_))
    exact ⟨_, rfl, (S2.pick [] [] (by decide) trivial), (by rw [idxP_hit (by omega) hb16 hno]; rfl)⟩
   ·refine ws_skip rfl (nm_blk (nmk [0, 1, 7, 8] rfl (nm_thn (ws_region rfl ?_))))
    refine wlo 0 1 rfl rfl rfl (wo_run rfl rfl (run_add rfl rfl rfl (by first | omega | (simp only [lens]; omega))) ?_)
    refine wlm 1 2 rfl rfl rfl rfl rfl rfl rfl (wl_end rfl (nm_lp ?_))
    intro ax_ hax_
    refine ⟨_, ?hq2m, ⟨k + 1, rfl, hax_.sub ⟨rfl, rfl, rfl, rfl, trivial⟩, S2.pick [] [] (by decide) trivial, ?hq2f0, ?hq2f1⟩⟩
    case hq2f0 => omega
    case hq2f1 => (intro j hj; by_cases h : j = k; (subst h; exact hb16); exact hno j (by omega))
    case hq2m => omega
  ·replace hb9 := of_decide_eq_false hb9
   refine ws_exit rfl rfl (nm_sub [] trivial (nm_thn (ws_seqN IndexFuncP_n26 IndexFuncP_n27 rfl rfl rfl (ws_region rfl ?_))))
   refine wla 0 1 rfl rfl rfl rfl rfl rfl rfl (wl_end rfl (nm_thn (ws_ret hC [_] rfl rfl ⟨rfl, trivial⟩ ?_)))
   exact ⟨_, rfl, (S1.pick [] [] (by decide) trivial), (by rw [idxP_none (fun j hj => hno j (by omega))]; rfl)⟩
noncomputable def Normal1_n0 : Code := Try.f30.body.getD .skip
noncomputable def Normal1_n1 : Code := cL Normal1_n0
noncomputable def Normal1_n2 : Code := cR Normal1_n0
noncomputable def Normal1_n3 : Code := cL Normal1_n2
noncomputable def Normal1_n4 : Code := cR Normal1_n2
set_option maxRecDepth 10000 in
theorem Normal1_q {w : World} {M : Hp} {X : Fr} (p : List Int) {pA : Option Addr} {pc : Nat} (n : Nat) {g : Nat} (hp : RdA cdInt (M.un X.h) pA pc p) (hb : BxM (M.un X.h) g 3 [.int .i64 (n : Int)]) (hn : n ≤ 6) (S : SH w M X []) : Cq Try.prog 30 [.slice pA p.length pc, .pointer (some ⟨g, 0, none⟩)] w M X (fun u => u = .bool (decide (p = idL n))) := by
 unfold Cq
 have rmhp : p.length * 8 ≤ 140737488355328 := hp.room
 have hil := idL_len n
 refine calls_in (b := Normal1_n0) Try.func30 rfl Try.ntmps30 rfl (fun C hC => (ws_sub [(0, _), (1, _)] ⟨rfl, rfl, trivial⟩ (ws_seqN Normal1_n1 Normal1_n2 rfl rfl rfl (ws_region rfl (wla 0 1 rfl rfl rfl rfl rfl rfl rfl ?_)))))
 refine wl_end rfl (nmk [0, 1] rfl (nm_thn (ws_seqN Normal1_n3 Normal1_n4 rfl rfl rfl (ws_region rfl ?_))))
 refine wlm 0 1 rfl rfl rfl rfl rfl rfl rfl (wlo 1 2 rfl rfl rfl (wo_run rfl rfl (run_load1 rfl rfl Try.underlying3 rfl (hb.cell S.um rfl)) (wlo 2 3 rfl rfl rfl (wo_co rfl rfl rfl rfl rfl rfl rfl cf24 S (identity_o n (by omega) S.lend) ?_))))
 intro vw1 w1 Nw1 S1 hRw1; clear S
 subst hRw1
 change SH _ _ _ [_] at S1
 obtain ⟨A1, c1, e1, hr1⟩ := S1.lendRd (i := 0) rfl (by show _ * 8 ≤ _; first | omega | (simp only [lens]; omega))
 have hcall1 := EqualP_q p (idL n) (hp.mono S1.un_XH) hr1 S1.lend
 refine wlo 3 4 rfl rfl rfl (wo_cq rfl rfl rfl rfl rfl rfl rfl cf20 S1 (Cq.cast (by simp only [e1]) (hcall1)) ?_)
 rintro _ w2 S2 rfl; clear S1
 refine wla 4 5 rfl rfl rfl rfl rfl rfl rfl (wl_end rfl (nmk [3] rfl (nm_thn (ws_ret hC [_] rfl rfl ⟨rfl, trivial⟩ ?_))))
 exact ⟨_, rfl, (S2.pick [] [] (by decide) trivial), rfl⟩
/-- What DeleteFunc has kept so far. -/
def dfI (f : List Int → Bool) (xss ya : List (List Int)) (i j : Nat) : Prop := i < j ∧ ya.length = xss.length ∧ ya.take i = (xss.take j).filter f ∧ ya.drop j = xss.drop j
theorem dfI.at_ {f : List Int → Bool} {xss ya : List (List Int)} {i j : Nat} (h : dfI f xss ya i j) (hj : j < ya.length) : ga ya j = ga xss j := by
 have := congrArg (fun l => ga l 0) h.2.2.2
 unfold ga at this ⊢
 simpa only [List.getD_eq_getElem?_getD, List.getElem?_drop, Nat.add_zero] using this
theorem dfI.keep {f : List Int → Bool} {xss ya : List (List Int)} {i j : Nat} (h : dfI f xss ya i j) (hj : j < ya.length) (hf : f (ga ya j) = true) : dfI f xss (ya.set i (ga ya j)) (i + 1) (j + 1) := by
 have hg := h.at_ hj
 obtain ⟨h1, h2, h3, h4⟩ := h
 refine ⟨by omega, by rw [List.length_set]; exact h2, ?_, ?_⟩
 ·rw [List.take_succ_eq_append_getElem (by rw [List.length_set]; omega), List.getElem_set_self, List.take_set_of_le (Nat.le_refl _), h3, List.take_succ_eq_append_getElem (by omega), List.filter_append, ← ga_eq (by omega), ← hg, List.filter_cons_of_pos hf, List.filter_nil]
 ·rw [List.drop_set_of_lt (by omega)]
  have := congrArg (List.drop 1) h4
  rwa [List.drop_drop, List.drop_drop] at this
theorem dfI.skip {f : List Int → Bool} {xss ya : List (List Int)} {i j : Nat} (h : dfI f xss ya i j) (hj : j < ya.length) (hf : f (ga ya j) = false) : dfI f xss ya i (j + 1) := by
 have hg := h.at_ hj
 obtain ⟨h1, h2, h3, h4⟩ := h
 refine ⟨by omega, h2, ?_, ?_⟩
 ·rw [h3, List.take_succ_eq_append_getElem (by omega), List.filter_append, ← ga_eq (by omega), ← hg, List.filter_cons_of_neg (by rw [hf]; simp), List.filter_nil, List.append_nil]
 ·have := congrArg (List.drop 1) h4
  rwa [List.drop_drop, List.drop_drop] at this
theorem dfI.done {f : List Int → Bool} {xss ya : List (List Int)} {i j : Nat} (h : dfI f xss ya i j) (hj : ya.length ≤ j) : ya.take i = xss.filter f := by
 rw [h.2.2.1, List.take_of_length_le (by have := h.2.1; omega)]
theorem idxP_all {p : List Int → Bool} {xs : List (List Int)} (h : idxP p xs = -1) : xs.filter (fun x => !p x) = xs := by
 rcases idxP_spec (p := p) (xs := xs) with ⟨_, h⟩ | ⟨k, h1, h2, _⟩
 ·exact h
 ·omega
noncomputable def DeleteFuncP_n0 : Code := Try.f29.body.getD .skip
noncomputable def DeleteFuncP_n1 : Code := cL DeleteFuncP_n0
noncomputable def DeleteFuncP_n2 : Code := cR DeleteFuncP_n0
noncomputable def DeleteFuncP_n3 : Code := cL DeleteFuncP_n2
noncomputable def DeleteFuncP_n4 : Code := cR DeleteFuncP_n2
noncomputable def DeleteFuncP_n5 : Code := cL DeleteFuncP_n4
noncomputable def DeleteFuncP_n6 : Code := cR DeleteFuncP_n4
noncomputable def DeleteFuncP_n7 : Code := cL DeleteFuncP_n5
noncomputable def DeleteFuncP_n8 : Code := cR DeleteFuncP_n5
noncomputable def DeleteFuncP_n9 : Code := cL DeleteFuncP_n8
noncomputable def DeleteFuncP_n10 : Code := cR DeleteFuncP_n8
noncomputable def DeleteFuncP_n11 : Code := cL DeleteFuncP_n9
noncomputable def DeleteFuncP_n12 : Code := cR DeleteFuncP_n9
noncomputable def DeleteFuncP_n13 : Code := cL DeleteFuncP_n6
noncomputable def DeleteFuncP_n14 : Code := cR DeleteFuncP_n6
noncomputable def DeleteFuncP_n15 : Code := cL DeleteFuncP_n13
noncomputable def DeleteFuncP_n16 : Code := cR DeleteFuncP_n13
noncomputable def DeleteFuncP_n17 : Code := cL DeleteFuncP_n16
noncomputable def DeleteFuncP_n18 : Code := cL DeleteFuncP_n17
noncomputable def DeleteFuncP_n19 : Code := cL DeleteFuncP_n18
noncomputable def DeleteFuncP_n20 : Code := cR DeleteFuncP_n18
noncomputable def DeleteFuncP_n21 : Code := cL DeleteFuncP_n19
noncomputable def DeleteFuncP_n22 : Code := cR DeleteFuncP_n19
noncomputable def DeleteFuncP_n23 : Code := cL DeleteFuncP_n22
noncomputable def DeleteFuncP_n24 : Code := cR DeleteFuncP_n22
noncomputable def DeleteFuncP_n25 : Code := cL DeleteFuncP_n20
noncomputable def DeleteFuncP_n26 : Code := cR DeleteFuncP_n20
noncomputable def DeleteFuncP_n27 : Code := cL DeleteFuncP_n25
noncomputable def DeleteFuncP_n28 : Code := cL DeleteFuncP_n27
noncomputable def DeleteFuncP_n29 : Code := cR DeleteFuncP_n27
noncomputable def DeleteFuncP_n30 : Code := cL DeleteFuncP_n29
noncomputable def DeleteFuncP_n31 : Code := cR DeleteFuncP_n29
noncomputable def DeleteFuncP_n32 : Code := cL DeleteFuncP_n31
noncomputable def DeleteFuncP_n33 : Code := cR DeleteFuncP_n31
noncomputable def DeleteFuncP_n34 : Code := cL DeleteFuncP_n32
noncomputable def DeleteFuncP_n35 : Code := cR DeleteFuncP_n32
noncomputable def DeleteFuncP_n36 : Code := cL DeleteFuncP_n14
noncomputable def DeleteFuncP_n37 : Code := cR DeleteFuncP_n14
noncomputable def DeleteFuncP_n38 : Code := cL DeleteFuncP_n37
noncomputable def DeleteFuncP_n39 : Code := cR DeleteFuncP_n37
set_option maxRecDepth 10000 in
theorem DeleteFuncP_w {w : World} {M : Hp} {X : Fr} {vs : Value} {sv : List SlV} {xss : List (List Int)} (fv : FuncId) (cap : List Value) (p : List Int → Bool) (hds : Rd2 cdInt M sv xss) (hrs : sv.length ≤ 1000) (hen : ∀ args w, (callFunc fv args).run Try.prog w = .ok (.enter fv args) w) (hf : ∀ (w : World) (Y : Fr), (M.un X.h).le (M.un Y.h) → SH w M Y [] → ∀ A c xs, xs ∈ xss → RdA cdInt (M.un Y.h) A c xs → Cq Try.prog fv ([.slice A xs.length c] ++ cap) w M Y (fun u => u = .bool (p xs))) (S : SH w M X [Rs.row (cdV 38) vs sv]) : C1 Try.prog 29 [vs, .func (.func fv) #[] cap.toArray] w M X (fun u M' r' => M' = M ∧ ∃ ws, r' = Rs.row (cdV 38) u ws ∧ Rd2 cdInt M ws (xss.filter fun x => !p x)) := by
 unfold C1
 have hsl := hds.1
 refine calls_in (b := DeleteFuncP_n0) Try.func29 rfl Try.ntmps29 rfl (fun C hC => (ws_sub [(0, _), (1, _)] ⟨rfl, rfl, trivial⟩ (ws_seqN DeleteFuncP_n1 DeleteFuncP_n2 rfl rfl rfl (ws_region rfl (wla 0 1 rfl rfl rfl rfl rfl rfl rfl ?_)))))
 refine wl_end rfl (nmk [0, 1] rfl (nm_thn (ws_seqN DeleteFuncP_n3 DeleteFuncP_n4 rfl rfl rfl (ws_region rfl ?_))))
 refine wlm 0 1 rfl rfl rfl rfl rfl rfl rfl (wlm 1 2 rfl rfl rfl rfl rfl rfl rfl ?_)
 obtain ⟨A1, c1, e1, hr1⟩ := S.lendRd (i := 0) rfl (by show _ * 24 ≤ _; first | omega | (simp only [lens]; omega))
 have hd1 := Rd2.at_ (C := cdInt) (ss := sv) (xss := xss) S (hds.mono (Hp.le_un _ _))
 have hcall1 := IndexFuncP_q xss fv cap p hr1 hd1 hen (fun w Y hl S9 => hf w Y (S.un_XH.trans hl) S9) S.lend
 refine wlo 2 3 rfl rfl rfl (wo_cq rfl rfl rfl rfl rfl rfl rfl cf38 S (Cq.cast (by simp only [e1]) (hcall1)) ?_)
 rintro _ w1 S1 rfl; clear S
 refine wla 3 4 rfl rfl rfl rfl rfl rfl rfl (wl_end rfl (nmk [0, 1, 5] rfl (nm_thn (ws_seqN DeleteFuncP_n5 DeleteFuncP_n6 rfl rfl rfl ?_))))
 refine ws_seqN DeleteFuncP_n7 DeleteFuncP_n8 rfl rfl rfl (ws_region rfl (wlm 0 1 rfl rfl rfl rfl rfl rfl rfl (wlo 1 2 rfl rfl rfl (wo_run rfl rfl (run_eql rfl rfl rfl) (wl_end rfl ?_)))))
 refine nmk [0, 1, 5, 12] rfl (nm_thn ?_)
 refine ws_condN DeleteFuncP_n9 DeleteFuncP_n10 rfl rfl rfl rfl (fun hb12 => ?_) (fun hb12 => ?_)
 ·replace hb12 := of_decide_eq_true hb12
  refine ws_seqN DeleteFuncP_n11 DeleteFuncP_n12 rfl rfl rfl (ws_region rfl (wlm 0 1 rfl rfl rfl rfl rfl rfl rfl (wla 1 2 rfl rfl rfl rfl rfl rfl rfl (wl_end rfl ?_))))
  refine nmk [4] rfl (nm_thn (ws_ret hC [_] rfl rfl ⟨rfl, trivial⟩ ?_))
  exact ⟨_, rfl, _, _, Hp.le_refl _, S1.pick [0] [_] (by decide) ⟨rfl, trivial⟩, ⟨rfl, sv, rfl, by rw [idxP_all hb12]; exact hds⟩⟩
 ·replace hb12 := of_decide_eq_false hb12
  obtain ⟨h9, _⟩ | ⟨k9, hk1, hk2, hk9⟩ := idxP_spec (p := p) (xs := xss)
  ·exact absurd h9 hb12
  refine ws_eq 5 (.int .i64 (k9 : Int)) rfl (int_eq (by omega)) ?_
  refine ws_skip rfl (nmk [0, 1, 5] rfl (nm_thn (ws_seqN DeleteFuncP_n13 DeleteFuncP_n14 rfl rfl rfl (ws_seqN DeleteFuncP_n15 DeleteFuncP_n16 rfl rfl rfl ?_))))
  refine ws_region rfl (wlm 0 1 rfl rfl rfl rfl rfl rfl rfl (wlo 1 2 rfl rfl rfl (wo_run rfl rfl (run_add rfl rfl rfl (by first | omega | (simp only [lens]; omega))) ?_)))
  refine wla 2 3 rfl rfl rfl rfl rfl rfl rfl (wl_end rfl (nmk [0, 1, 5, 6] rfl (nm_thn (ws_blockN DeleteFuncP_n17 0 rfl rfl rfl ?_))))
  refine ws_loopE (fun mx_ ax_ wx_ => ∃ (i : Nat) (j : Nat) (acc : List SlV) (ya : List (List Int)) (vro : Value), mx_ = xss.length - j ∧ Env 42 [(0, vro), (1, .func (.func fv) #[] cap.toArray), (5, .int .i64 (i : Int)), (6, .int .i64 (j : Int))] ax_ ∧ SH wx_ M X [Rs.row (cdV 38) vro acc] ∧ j ≤ ya.length ∧ dfI (fun x => !p x) xss ya i j ∧ Rd2 cdInt M acc ya) rfl ?_ ?_
  ·intro ax_ hax_
   refine ⟨_, ⟨k9, k9 + 1, _, xss, _, rfl, hax_.sub ⟨rfl, rfl, rfl, rfl, trivial⟩, S1.pick [0] [_] (by decide) ⟨rfl, trivial⟩, ?hq1f0, ?hq1f1, ?hq1f2⟩⟩
   case hq1f0 => omega
   case hq1f1 => exact ⟨by omega, rfl, hk9.symm, rfl⟩
   case hq1f2 => exact hds
  ·rintro m1 a1 w2 ⟨i, j, acc, ya, vro, rfl, he1, S2, hj, hdf, hda⟩
   clear S1
   refine ws_in he1 (c := DeleteFuncP_n18) rfl ?_
   clear he1 a1
   have hal := hda.1
   have hij := hdf.1
   have hjg := fun h => hdf.at_ h
   have hyx := hdf.2.1
   refine ws_seqN DeleteFuncP_n19 DeleteFuncP_n20 rfl rfl rfl (ws_seqN DeleteFuncP_n21 DeleteFuncP_n22 rfl rfl rfl (ws_region rfl (wlm 0 1 rfl rfl rfl rfl rfl rfl rfl (wlm 1 2 rfl rfl rfl rfl rfl rfl rfl ?_))))
   refine wlo 2 3 rfl rfl rfl (wo_run rfl rfl (run_lenR (C := (cdV 38)) (i := 0) rfl rfl rfl rfl rfl rfl sl35 S2 rfl) (wlo 3 4 rfl rfl rfl (wo_run rfl rfl (run_lss rfl rfl rfl) (wl_end rfl (nmk [0, 1, 5, 6, 19] rfl (nm_thn ?_))))))
   refine ws_condN DeleteFuncP_n23 DeleteFuncP_n24 rfl rfl rfl rfl (fun hb19 => ?_) (fun hb19 => ?_)
   ·replace hb19 := of_decide_eq_true hb19
    refine ws_skip rfl (nmk [0, 1, 5, 6] rfl (nm_thn (ws_seqN DeleteFuncP_n25 DeleteFuncP_n26 rfl rfl rfl (ws_blockN DeleteFuncP_n27 1 rfl rfl rfl ?_))))
    refine ws_seqN DeleteFuncP_n28 DeleteFuncP_n29 rfl rfl rfl (ws_region rfl (wlm 0 1 rfl rfl rfl rfl rfl rfl rfl (wlm 1 2 rfl rfl rfl rfl rfl rfl rfl (wlo 2 3 rfl rfl rfl (wo_run rfl rfl (run_indexR (C := (cdV 38)) (i := 0) j rfl rfl rfl sl35 S2 rfl (by first | rfl | omega) (by first | omega | (simp only [lens]; omega))) ?_)))))
    obtain ⟨hn1, hr2⟩ := hda.2 j (by first | omega | (simp only [lens]; omega))
    refine wlo 3 4 rfl rfl rfl (wo_run rfl rfl (run_load1 rfl rfl Try.underlying38 rfl (S2.rowc (i := 0) (e := j) (j := 0) rfl (by first | omega | (simp only [lens]; omega)) rfl (congrArg (fun n => some (Value.slice _ n _)) hn1))) ?_)
    refine wla 4 5 rfl rfl rfl rfl rfl rfl rfl (wl_end rfl (nmk [0, 1, 5, 6, 7] rfl (nm_thn (ws_seqN DeleteFuncP_n30 DeleteFuncP_n31 rfl rfl rfl ?_))))
    refine ws_region rfl (wlm 0 1 rfl rfl rfl rfl rfl rfl rfl (wlm 1 2 rfl rfl rfl rfl rfl rfl rfl (wlo 2 3 rfl rfl rfl (wo_cqF rfl rfl rfl rfl rfl rfl rfl hen S2 (hf _ _ S2.un_XH S2.lend _ _ _ (by rw [hjg (by omega)]; exact ga_mem (by omega)) (hr2.mono (Hp.le_un _ _))) ?_))))
    rintro _ w3 S3 rfl; clear S2
    refine wlo 3 4 rfl rfl rfl (wo_run rfl rfl (run_not rfl rfl) (wl_end rfl (nmk [0, 1, 5, 6, 7, 29] rfl (nm_thn ?_))))
    refine ws_condN DeleteFuncP_n32 DeleteFuncP_n33 rfl rfl rfl rfl (fun hb29 => ?_) (fun hb29 => ?_)
    ·simp only [Bool.and_eq_true, Bool.or_eq_true, Bool.and_eq_false_iff, Bool.or_eq_false_iff, decide_eq_true_eq, decide_eq_false_iff_not, Bool.not_eq_true', Bool.not_eq_false'] at hb29
     refine ws_seqN DeleteFuncP_n34 DeleteFuncP_n35 rfl rfl rfl (ws_region rfl (wlm 0 1 rfl rfl rfl rfl rfl rfl rfl (wlm 1 2 rfl rfl rfl rfl rfl rfl rfl (wlm 2 3 rfl rfl rfl rfl rfl rfl rfl ?_))))
     refine wlo 3 4 rfl rfl rfl (wo_run rfl rfl (run_indexR (C := (cdV 38)) (i := 0) i rfl rfl rfl sl35 S3 rfl (by first | rfl | omega) (by first | omega | (simp only [lens]; omega))) ?_)
     refine wlo 4 5 rfl rfl rfl (wo_storeR (C := (cdV 38)) (i := 0) (e := i) (j := 0) (us := [_]) (H' := [_]) (⟨(ga acc j).A, (ga ya j).length, (ga acc j).c⟩ : SlV) rfl rfl S3 rfl (by first | omega | (simp only [lens]; omega)) rfl rfl rfl sz38 rfl rfl rfl rfl ?_)
     intro w4 S4; clear S3
     have hd2 := hda.set_ hr2 i (by first | omega | (simp only [lens]; omega))
     refine wl_end rfl (nmk [0, 1, 5, 6] rfl (nm_thn (ws_region rfl (wlm 0 1 rfl rfl rfl rfl rfl rfl rfl ?_))))
     refine wlo 1 2 rfl rfl rfl (wo_run rfl rfl (run_add rfl rfl rfl (by first | omega | (simp only [lens]; omega))) ?_)
     refine wla 2 3 rfl rfl rfl rfl rfl rfl rfl (wl_end rfl (nm_blk (nmk [0, 1, 5, 6] rfl (nm_thn ?_))))
     refine ws_region rfl (wlm 0 1 rfl rfl rfl rfl rfl rfl rfl (wlo 1 2 rfl rfl rfl (wo_run rfl rfl (run_add rfl rfl rfl (by first | omega | (simp only [lens]; omega))) ?_)))
     refine wla 2 3 rfl rfl rfl rfl rfl rfl rfl (wl_end rfl (nm_lp ?_))
     intro ax_ hax_
     refine ⟨_, ?hq2m, ⟨i + 1, j + 1, _, (ya.set i (ga ya j)), _, rfl, hax_.sub ⟨rfl, rfl, rfl, rfl, trivial⟩, S4.pick [0] [_] (by decide) ⟨rfl, trivial⟩, ?hq2f0, ?hq2f1, ?hq2f2⟩⟩
     case hq2f0 => first | omega | (simp only [List.length_set]; omega)
     case hq2f1 => (exact hdf.keep (by omega) (by show (!p _) = true; simpa using hb29))
     case hq2f2 => exact hd2
     case hq2m => omega
    ·simp only [Bool.and_eq_true, Bool.or_eq_true, Bool.and_eq_false_iff, Bool.or_eq_false_iff, decide_eq_true_eq, decide_eq_false_iff_not, Bool.not_eq_true', Bool.not_eq_false'] at hb29
     refine ws_skip rfl (nm_blk (nmk [0, 1, 5, 6] rfl (nm_thn (ws_region rfl ?_))))
     refine wlm 0 1 rfl rfl rfl rfl rfl rfl rfl (wlo 1 2 rfl rfl rfl (wo_run rfl rfl (run_add rfl rfl rfl (by first | omega | (simp only [lens]; omega))) ?_))
     refine wla 2 3 rfl rfl rfl rfl rfl rfl rfl (wl_end rfl (nm_lp ?_))
     intro ax_ hax_
     refine ⟨_, ?hq3m, ⟨i, j + 1, _, ya, _, rfl, hax_.sub ⟨rfl, rfl, rfl, rfl, trivial⟩, S3.pick [0] [_] (by decide) ⟨rfl, trivial⟩, ?hq3f0, ?hq3f1, ?hq3f2⟩⟩
     case hq3f0 => first | omega | (simp only [List.length_set]; omega)
     case hq3f1 => (exact hdf.skip (by omega) (by show (!p _) = false; simpa using hb29))
     case hq3f2 => exact hda
     case hq3m => omega
   ·replace hb19 := of_decide_eq_false hb19
    have hal := hda.1
    have hij := hdf.1
    have hyx := hdf.2.1
    refine ws_exit rfl rfl (nmk [0, 5] rfl (nm_thn (ws_seqN DeleteFuncP_n36 DeleteFuncP_n37 rfl rfl rfl (ws_region rfl ?_))))
    refine wlm 0 1 rfl rfl rfl rfl rfl rfl rfl (wlm 1 2 rfl rfl rfl rfl rfl rfl rfl ?_)
    have hal9 := S2.sl_ (i := 0) rfl
    refine wlo 2 3 rfl rfl rfl (wo_run rfl rfl (run_aliasDG (C := (cdV 38)) (xs := acc) i rfl rfl rfl rfl sl35 hal9 (by first | rfl | omega) ((by first | omega | (simp only [lens]; omega)))) ?_)
    refine wlo 3 4 rfl rfl rfl (wo_clearAl (C := (cdV 38)) (i := 0) rfl rfl rfl rfl rfl rfl rfl rfl sl35 S2 rfl (by first | omega | (simp only [lens]; omega)) (rfl) ?_)
    intro w5 S5; clear S2
    change SH _ _ _ [Rs.row (cdV 38) vro (acc.take i ++ List.replicate (acc.length - i) (cdV 38).z)] at S5
    refine wl_end rfl (nmk [0, 5] rfl (nm_thn (ws_seqN DeleteFuncP_n38 DeleteFuncP_n39 rfl rfl rfl (ws_region rfl ?_))))
    refine wlm 0 1 rfl rfl rfl rfl rfl rfl rfl (wlm 1 2 rfl rfl rfl rfl rfl rfl rfl (wlo 2 3 rfl rfl rfl (wo_takeR (C := (cdV 38)) (i := 0) i rfl rfl rfl rfl rfl sl35 (by first | rfl | omega) (by (simp only [List.length_append, List.length_take, List.length_replicate]; omega)) S5 rfl ?_)))
    intro vro1 S6; clear S5
    change SH _ _ _ [Rs.row (cdV 38) vro1 ((acc.take i ++ List.replicate (acc.length - i) (cdV 38).z).take i)] at S6
    have hd3 := hda.take_ i
    refine wla 3 4 rfl rfl rfl rfl rfl rfl rfl (wl_end rfl (nmk [4] rfl (nm_thn (ws_ret hC [_] rfl rfl ⟨rfl, trivial⟩ ?_))))
    exact ⟨_, rfl, _, _, Hp.le_refl _, S6.pick [0] [_] (by decide) ⟨rfl, trivial⟩, ⟨rfl, _, rfl, by rw [List.take_append_of_le_length (by rw [List.length_take]; omega), List.take_take, Nat.min_self, ← hdf.done (by omega)]; exact hda.take_ i⟩⟩
end Go.Proofs.Ytomcgmialkdcbaa
namespace Go.Proofs.Ytomcgmialkdcbaa
open Go.ChangeShapes Go.WideShapes Go.ChangeAt Go.RowKit
theorem delL_len (n : Nat) : (delL n).length = n + 1 := mkP_len _ _
section
variable {α : Type} {C : Cd α} {w : World} {M : Hp} {X : Fr} {H : List Rs} {i k : Nat} {vs : List SlV} {xss : List (List α)}
/-- Two neighbours of a table are taken out and come back. -/
theorem SH.tabtwo (S : SH w M X H) (k : Nat) (hi : nth H i = some (Rs.tab C vs xss)) (hk : k + 1 < xss.length) : SH w M X (Rs.bun [Rs.row C (ga vs k).v (ga xss k), Rs.row C (ga vs (k + 1)).v (ga xss (k + 1))] :: H.set i (Rs.tab C ((vs.set k ⟨none, 0, 0⟩).set (k + 1) ⟨none, 0, 0⟩) ((xss.set k []).set (k + 1) []))) := by
 have S1 := S.tabtake k hi (by omega) rfl
 have e1 : nth (Rs.row C (ga vs k).v (ga xss k) :: H.set i (Rs.tab C (vs.set k ⟨none, 0, 0⟩) (xss.set k []))) (i + 1) = some (Rs.tab C (vs.set k ⟨none, 0, 0⟩) (xss.set k [])) := by
  rw [nth_eq] at hi ⊢
  rw [List.getElem?_cons_succ, List.getElem?_set_self (List.getElem?_eq_some_iff.1 hi).1]
 have S2 := S1.tabtake (k + 1) e1 (by rw [List.length_set]; omega) rfl
 rw [ga_set_ne _ k (k + 1) _ (by omega), ga_set_ne _ k (k + 1) _ (by omega), List.set_cons_succ, List.set_set] at S2
 have S3 := S2.perm (List.Perm.swap ..)
 exact SH.bunC (A := [_, _]) S3
theorem SH.tabtwoback {p q : List α} {t : Rs} (S : SH w M X (Rs.bun [Rs.row C (ga vs k).v p, Rs.row C (ga vs (k + 1)).v q] :: H.set i (Rs.tab C ((vs.set k ⟨none, 0, 0⟩).set (k + 1) ⟨none, 0, 0⟩) ((xss.set k []).set (k + 1) [])))) (hi : nth H i = some t) (hk : k + 1 < xss.length) (hv : vs.length = xss.length) (hp : (ga vs k).n = p.length) (hq : (ga vs (k + 1)).n = q.length) : SH w M X (H.set i (Rs.tab C vs ((xss.set k p).set (k + 1) q))) := by
 have S1 : SH w M X (Rs.row C (ga vs k).v p :: Rs.row C (ga vs (k + 1)).v q :: H.set i _) := SH.unbunC S
 have v1 : (ga vs k).v = .slice (ga vs k).A p.length (ga vs k).c := by unfold SlV.v; rw [hp]
 have v2 : (ga vs (k + 1)).v = .slice (ga vs (k + 1)).A q.length (ga vs (k + 1)).c := by unfold SlV.v; rw [hq]
 have s1 : (⟨(ga vs k).A, p.length, (ga vs k).c⟩ : SlV) = ga vs k := by rw [← hp]
 have s2 : (⟨(ga vs (k + 1)).A, q.length, (ga vs (k + 1)).c⟩ : SlV) = ga vs (k + 1) := by rw [← hq]
 rw [v1, v2] at S1
 have hil : i < H.length := by rw [nth_eq] at hi; exact (List.getElem?_eq_some_iff.1 hi).1
 have e1 : ∀ (a b t : Rs), nth (a :: b :: H.set i t) (i + 2) = some t := fun a b t => by rw [nth_eq]; simp [List.getElem?_set_self hil]
 have S2 := S1.tabput k (q := 0) (e1 _ _ _) rfl (by omega) (by simp; omega) rfl
 simp only [List.set_cons_succ, List.set_set, List.set_cons_zero] at S2
 have S3 := S2.tabput (k + 1) (q := 1) (e1 _ _ _) rfl (by omega) (by simp; omega) rfl
 simp only [List.set_cons_succ, List.set_set, List.set_cons_zero, s1, s2] at S3
 have hb : ∀ {β : Type} [Inhabited β] (xs : List β) (h x y : β), (((xs.set k h).set (k + 1) h).set k x).set (k + 1) y = (xs.set k x).set (k + 1) y := fun xs h x y => by
  rw [List.set_comm (i := k + 1) (j := k) _ _ (by omega), List.set_set, List.set_set]
 rw [hb, hb, set_ga_self, set_ga_self] at S3
 exact (S3.perm (List.Perm.swap ..)).suf (N := [_, _])
end
theorem shA_len (n : Nat) (p q : List Int) : (shA n p q).length = p.length := by unfold shA; split; rfl; exact thenL_len _ _
theorem shB_len (n : Nat) (p q : List Int) : (shB n p q).length = q.length := by unfold shB; split; rfl; exact swL_len _ _
structure Nf (n : Nat) (w : List Int) (z : Int) (l : List (List Int)) : Prop where
 nf : NfI n w z l
 stb : Stb n l
 id : ∀ p ∈ l, p ≠ idL n
 del : 0 < l.length → ga l 0 ≠ delL n
 z : -20 ≤ z ∧ z ≤ 20
 len : l.length ≤ 20
def NormE (n : Nat) (w : List Int) (u : Value) (M : Hp) : Prop := ∃ z A c vs l, u = tup [.int .i64 z, .slice A vs.length c] ∧ RdA (cdV 38) M A c vs ∧ Rd2 cdInt M vs l ∧ Nf n w z l
theorem NfI.ga_ {n : Nat} {w : List Int} {z : Int} {l : List (List Int)} (h : NfI n w z l) (k : Nat) (hk : k < l.length) : PL n (ga l k) := h.pl _ (ga_mem hk)
theorem NfI.rooms {n : Nat} {w : List Int} {z : Int} {l : List (List Int)} (h : NfI n w z l) (hn : n ≤ 6) : ∀ i, i < l.length → (ga l i).length * 8 ≤ 140737488355328 := fun i hi => by
 have := (h.ga_ i hi).len; omega
/-- The first k have been seen from the other side. -/
def flI (n : Nat) (l m : List (List Int)) (k : Nat) : Prop := m.length = l.length ∧ ∀ i, i < l.length → ga m i = if i < k then flipL n (ga l i) else ga l i
theorem flI.rooms {n : Nat} {w : List Int} {z : Int} {l m : List (List Int)} {k : Nat} (h : flI n l m k) (h2 : NfI n w z l) (hn : n ≤ 6) : ∀ i, i < m.length → (ga m i).length * 8 ≤ 140737488355328 := fun i hi => by
 have hl := (h2.ga_ i (by rw [← h.1]; exact hi)).len
 rw [h.2 i (by rw [← h.1]; exact hi)]
 split
 ·rw [show (flipL n (ga l i)).length = n + 1 from mkP_len _ _]; omega
 ·omega
theorem flI.zero (n : Nat) (l : List (List Int)) : flI n l l 0 := ⟨rfl, fun i _ => by rw [if_neg (by omega)]⟩
theorem flI.at_ {n : Nat} {l m : List (List Int)} {k : Nat} (h : flI n l m k) (hk : k < l.length) : ga m k = ga l k := by rw [h.2 k hk, if_neg (by omega)]
theorem flI.step {n : Nat} {l m : List (List Int)} {k : Nat} (h : flI n l m k) (hk : k < l.length) : flI n l (m.set k (flipL n (ga m k))) (k + 1) := ⟨by rw [List.length_set]; exact h.1, fun i hi => by
 rw [ga_set _ _ _ _ (by rw [h.1]; exact hk)]
 by_cases e : k = i
 ·subst e; rw [if_pos rfl, if_pos (by omega), h.at_ hk]
 ·rw [if_neg e, h.2 i hi]
  by_cases c : i < k
  ·rw [if_pos c, if_pos (by omega)]
  ·rw [if_neg c, if_neg (by omega)]⟩
theorem flI.done {n : Nat} {l m : List (List Int)} {k : Nat} (h : flI n l m k) (hk : l.length ≤ k) : m = l.map (flipL n) := ga_ext (by rw [List.length_map]; exact h.1) fun i hi => by
 have hi2 : i < l.length := by rw [← h.1]; exact hi
 rw [h.2 i hi2, if_pos (by omega), ga_map _ _ _ hi2]
/-- How far a round of shifts has come. -/
def prg (n P : Nat) (b : Bool) (l : List (List Int)) (k : Nat) : Prop := (b = true ∧ phi l < P) ∨ (b = false ∧ phi l = P ∧ ∀ i, i < k → LW n (ga l i) (ga l (i + 1)))
def msr (b : Bool) (l : List (List Int)) : Nat := 2 * phi l + b.toNat
theorem prg.zero (n : Nat) (l : List (List Int)) : prg n (phi l) false l 0 := .inr ⟨rfl, rfl, fun i hi => by omega⟩
theorem prg.step {n P k : Nat} {b : Bool} {l : List (List Int)} (h : prg n P b l k) (hl : LW n (ga l k) (ga l (k + 1))) : prg n P b l (k + 1) := by
 rcases h with h | ⟨h1, h2, h3⟩
 ·exact .inl h
 ·exact .inr ⟨h1, h2, fun i hi => by
   by_cases e : i = k
   ·subst e; exact hl
   ·exact h3 i (by omega)⟩
theorem prg.shift {n P k : Nat} {b : Bool} {l l' : List (List Int)} (h : prg n P b l k) (hl : phi l' < phi l) : prg n P true l' k := .inl ⟨rfl, by rcases h with ⟨_, h⟩ | ⟨_, h, _⟩ <;> omega⟩
theorem prg.msr_ {n k : Nat} {b b0 : Bool} {l l0 : List (List Int)} (h : prg n (phi l0) b l k) (hb : b0 = true) : msr b l < msr b0 l0 := by
 subst hb
 unfold msr
 rcases h with ⟨rfl, h⟩ | ⟨rfl, h, _⟩
 ·show 2 * phi l + 1 < 2 * phi l0 + 1; omega
 ·show 2 * phi l + 0 < 2 * phi l0 + 1; omega
theorem prg.stb {n P k : Nat} {b : Bool} {l : List (List Int)} (h : prg n P b l k) (hk : l.length ≤ k + 1) : b = false → Stb n l := fun hb => by
 rcases h with ⟨h, _⟩ | ⟨_, _, h⟩
 ·rw [hb] at h; cases h
 ·exact fun i hi => h i (by omega)
theorem sh_lt {n : Nat} {p q : List Int} (hp : PL n p) (h : shI n p q ≠ 0) : 1 ≤ shI n p q ∧ shI n p q < n ∧ ga q (shI n p q + 1) < ga q (shI n p q) ∧ plL p (shI n p q : Int) < plL p ((shI n p q : Int) + 1) := by
 obtain ⟨h1, h2, h3, h4⟩ := shI_spec h
 have := hp.pl_ne h1 h2
 exact ⟨h1, h2, h3, by omega⟩
theorem sh_lw {n : Nat} {p q : List Int} (h : shI n p q = 0) : LW n p q := fun i i1 i2 hi => by
 have := shI_none h i i1 i2
 unfold shC at this
 by_cases c : plL p ((i : Int) + 1) < plL p (i : Int)
 ·exact c
 ·exact absurd ⟨hi, c⟩ this
theorem sh_step {n : Nat} {w : List Int} {z : Int} {l : List (List Int)} {k : Nat} (hn : n ≤ 6) (h : NfI n w z l) (hk : k + 1 < l.length) (hs : shI n (ga l k) (ga l (k + 1)) ≠ 0) : NfI n w z ((l.set k (shA n (ga l k) (ga l (k + 1)))).set (k + 1) (shB n (ga l k) (ga l (k + 1)))) ∧ phi ((l.set k (shA n (ga l k) (ga l (k + 1)))).set (k + 1) (shB n (ga l k) (ga l (k + 1)))) < phi l := by
 obtain ⟨h1, h2, h3, h4⟩ := sh_lt (h.ga_ k (by omega)) hs
 obtain ⟨ea, eb⟩ := sh_at rfl h1
 rw [ea, eb]
 exact ⟨h.shift hk h1 h2 h3 h4, phi_shift hn h.pl hk h1 h2 h3⟩
theorem sh_same {n : Nat} {l : List (List Int)} {k : Nat} (hs : ¬ shI n (ga l k) (ga l (k + 1)) ≠ 0) : (l.set k (shA n (ga l k) (ga l (k + 1)))).set (k + 1) (shB n (ga l k) (ga l (k + 1))) = l := by
 obtain ⟨ea, eb⟩ := sh_no (n := n) (p := ga l k) (q := ga l (k + 1)) (by omega)
 rw [ea, eb, set_ga_self, set_ga_self]
theorem w_pos {w : List Int} {j a : Nat} (hj : j < w.length) (h : max (ga w j) (-(ga w j)) = (a : Int)) (h0 : 0 < ga w j) : w.take j ++ [(a : Int)] = w.take (j + 1) := by rw [take_ga _ _ hj, show ga w j = (a : Int) by omega]
theorem w_neg {w : List Int} {j a : Nat} (hj : j < w.length) (h : max (ga w j) (-(ga w j)) = (a : Int)) (h0 : ¬ 0 < ga w j) : w.take j ++ [-(a : Int)] = w.take (j + 1) := by rw [take_ga _ _ hj, show ga w j = -(a : Int) by omega]
theorem nf_filt {n : Nat} {w : List Int} {z : Int} {l : List (List Int)} (h : NfI n w z l) (hs : Stb n l) : NfI n w z (l.filter fun q => !decide (q = idL n)) ∧ Stb n (l.filter fun q => !decide (q = idL n)) ∧ ∀ p ∈ (l.filter fun q => !decide (q = idL n)), p ≠ idL n := by
 have e : (l.filter fun q => !decide (q = idL n)) = l.filter fun p => decide (p ≠ idL n) := List.filter_congr fun x _ => by simp
 rw [e]
 exact ⟨h.filt, hs.filt h.pl, fun p hp => by simpa using (List.mem_filter.1 hp).2⟩
theorem nf_del {n : Nat} {w : List Int} {z : Int} {l : List (List Int)} (h : NfI n w z l) (hs : Stb n l) (h0 : 0 < l.length) (hd : ga l 0 = delL n) : NfI n w (z + 1) (l.drop 1) ∧ Stb n (l.drop 1) ∧ (l.drop 1).length + 1 = l.length := by
 match l, h0 with
 | p :: l, _ =>
  have hd : p = delL n := hd
  subst hd
  exact ⟨h.del, hs.tail, by simp⟩
noncomputable def Normal__n0 : Code := Try.f12.body.getD .skip
noncomputable def Normal__n1 : Code := cL Normal__n0
noncomputable def Normal__n2 : Code := cR Normal__n0
noncomputable def Normal__n3 : Code := cL Normal__n2
noncomputable def Normal__n4 : Code := cR Normal__n2
noncomputable def Normal__n5 : Code := cL Normal__n4
noncomputable def Normal__n6 : Code := cR Normal__n4
noncomputable def Normal__n7 : Code := cL Normal__n6
noncomputable def Normal__n8 : Code := cR Normal__n6
noncomputable def Normal__n9 : Code := cL Normal__n7
noncomputable def Normal__n10 : Code := cR Normal__n7
noncomputable def Normal__n11 : Code := cL Normal__n10
noncomputable def Normal__n12 : Code := cL Normal__n11
noncomputable def Normal__n13 : Code := cL Normal__n12
noncomputable def Normal__n14 : Code := cR Normal__n12
noncomputable def Normal__n15 : Code := cL Normal__n14
noncomputable def Normal__n16 : Code := cR Normal__n14
noncomputable def Normal__n17 : Code := cL Normal__n15
noncomputable def Normal__n18 : Code := cR Normal__n15
noncomputable def Normal__n19 : Code := cL Normal__n16
noncomputable def Normal__n20 : Code := cR Normal__n16
noncomputable def Normal__n21 : Code := cL Normal__n19
noncomputable def Normal__n22 : Code := cL Normal__n21
noncomputable def Normal__n23 : Code := cR Normal__n21
noncomputable def Normal__n24 : Code := cL Normal__n23
noncomputable def Normal__n25 : Code := cR Normal__n23
noncomputable def Normal__n26 : Code := cL Normal__n25
noncomputable def Normal__n27 : Code := cR Normal__n25
noncomputable def Normal__n28 : Code := cL Normal__n26
noncomputable def Normal__n29 : Code := cR Normal__n26
noncomputable def Normal__n30 : Code := cL Normal__n29
noncomputable def Normal__n31 : Code := cR Normal__n29
noncomputable def Normal__n32 : Code := cL Normal__n30
noncomputable def Normal__n33 : Code := cR Normal__n30
noncomputable def Normal__n34 : Code := cL Normal__n33
noncomputable def Normal__n35 : Code := cR Normal__n33
noncomputable def Normal__n36 : Code := cL Normal__n35
noncomputable def Normal__n37 : Code := cR Normal__n35
noncomputable def Normal__n38 : Code := cL Normal__n27
noncomputable def Normal__n39 : Code := cR Normal__n27
noncomputable def Normal__n40 : Code := cL Normal__n38
noncomputable def Normal__n41 : Code := cR Normal__n38
noncomputable def Normal__n42 : Code := cL Normal__n41
noncomputable def Normal__n43 : Code := cL Normal__n42
noncomputable def Normal__n44 : Code := cL Normal__n43
noncomputable def Normal__n45 : Code := cR Normal__n43
noncomputable def Normal__n46 : Code := cL Normal__n45
noncomputable def Normal__n47 : Code := cR Normal__n45
noncomputable def Normal__n48 : Code := cL Normal__n46
noncomputable def Normal__n49 : Code := cR Normal__n46
noncomputable def Normal__n50 : Code := cL Normal__n47
noncomputable def Normal__n51 : Code := cR Normal__n47
noncomputable def Normal__n52 : Code := cL Normal__n50
noncomputable def Normal__n53 : Code := cL Normal__n52
noncomputable def Normal__n54 : Code := cR Normal__n52
noncomputable def Normal__n55 : Code := cL Normal__n39
noncomputable def Normal__n56 : Code := cR Normal__n39
noncomputable def Normal__n57 : Code := cL Normal__n56
noncomputable def Normal__n58 : Code := cR Normal__n56
noncomputable def Normal__n59 : Code := cL Normal__n58
noncomputable def Normal__n60 : Code := cR Normal__n58
noncomputable def Normal__n61 : Code := cL Normal__n8
noncomputable def Normal__n62 : Code := cR Normal__n8
noncomputable def Normal__n63 : Code := cL Normal__n61
noncomputable def Normal__n64 : Code := cR Normal__n61
noncomputable def Normal__n65 : Code := cL Normal__n64
noncomputable def Normal__n66 : Code := cL Normal__n65
noncomputable def Normal__n67 : Code := cL Normal__n66
noncomputable def Normal__n68 : Code := cR Normal__n66
noncomputable def Normal__n69 : Code := cL Normal__n67
noncomputable def Normal__n70 : Code := cR Normal__n67
noncomputable def Normal__n71 : Code := cL Normal__n70
noncomputable def Normal__n72 : Code := cR Normal__n70
noncomputable def Normal__n73 : Code := cL Normal__n68
noncomputable def Normal__n74 : Code := cL Normal__n73
noncomputable def Normal__n75 : Code := cR Normal__n73
noncomputable def Normal__n76 : Code := cL Normal__n75
noncomputable def Normal__n77 : Code := cR Normal__n75
noncomputable def Normal__n78 : Code := cL Normal__n77
noncomputable def Normal__n79 : Code := cL Normal__n78
noncomputable def Normal__n80 : Code := cL Normal__n79
noncomputable def Normal__n81 : Code := cR Normal__n79
noncomputable def Normal__n82 : Code := cL Normal__n81
noncomputable def Normal__n83 : Code := cR Normal__n81
noncomputable def Normal__n84 : Code := cL Normal__n82
noncomputable def Normal__n85 : Code := cR Normal__n82
noncomputable def Normal__n86 : Code := cL Normal__n83
noncomputable def Normal__n87 : Code := cR Normal__n83
noncomputable def Normal__n88 : Code := cL Normal__n86
noncomputable def Normal__n89 : Code := cL Normal__n88
noncomputable def Normal__n90 : Code := cR Normal__n88
noncomputable def Normal__n91 : Code := cL Normal__n90
noncomputable def Normal__n92 : Code := cL Normal__n91
noncomputable def Normal__n93 : Code := cL Normal__n92
noncomputable def Normal__n94 : Code := cR Normal__n92
noncomputable def Normal__n95 : Code := cL Normal__n93
noncomputable def Normal__n96 : Code := cR Normal__n93
noncomputable def Normal__n97 : Code := cL Normal__n96
noncomputable def Normal__n98 : Code := cR Normal__n96
noncomputable def Normal__n99 : Code := cL Normal__n94
noncomputable def Normal__n100 : Code := cL Normal__n62
noncomputable def Normal__n101 : Code := cR Normal__n62
noncomputable def Normal__n102 : Code := cL Normal__n101
noncomputable def Normal__n103 : Code := cR Normal__n101
noncomputable def Normal__n104 : Code := cL Normal__n102
noncomputable def Normal__n105 : Code := cL Normal__n104
noncomputable def Normal__n106 : Code := cL Normal__n105
noncomputable def Normal__n107 : Code := cR Normal__n105
noncomputable def Normal__n108 : Code := cL Normal__n106
noncomputable def Normal__n109 : Code := cR Normal__n106
noncomputable def Normal__n110 : Code := cL Normal__n109
noncomputable def Normal__n111 : Code := cR Normal__n109
noncomputable def Normal__n112 : Code := cL Normal__n107
noncomputable def Normal__n113 : Code := cL Normal__n112
noncomputable def Normal__n114 : Code := cR Normal__n112
noncomputable def Normal__n115 : Code := cL Normal__n103
noncomputable def Normal__n116 : Code := cR Normal__n103
set_option maxRecDepth 10000 in
theorem normal_t {w : World} {M : Hp} {X : Fr} (n : Nat) (wd : List Int) {wdA : Option Addr} {wdc : Nat} (hwd : RdA cdInt (M.un X.h) wdA wdc wd) (hn2 : 2 ≤ n) (hn : n ≤ 6) (hwl : wd.length ≤ 20) (hwb : ∀ i, i < wd.length → 1 ≤ max (ga wd i) (-(ga wd i)) ∧ max (ga wd i) (-(ga wd i)) < (n : Int)) (S : SH w M X []) : Ct Try.prog 12 [.int .i64 (n : Int), .slice wdA wd.length wdc] w M X (NormE n wd) := by
 unfold Ct
 have rmhwd : wd.length * 8 ≤ 140737488355328 := hwd.room
 have hil := idL_len n
 have hdll := delL_len n
 refine calls_in (b := Normal__n0) Try.func12 rfl Try.ntmps12 rfl (fun C hC => (ws_sub [(0, _), (1, _)] ⟨rfl, rfl, trivial⟩ (ws_seqN Normal__n1 Normal__n2 rfl rfl rfl (ws_region rfl (wlo 0 1 rfl rfl rfl (wo_box (l := [_]) rfl rfl rfl rfl rfl S ?_))))))
 intro gb1 w1 S1; clear S
 refine wla 1 2 rfl rfl rfl rfl rfl rfl rfl (wla 2 3 rfl rfl rfl rfl rfl rfl rfl (wl_end rfl (nmk [1, 2] rfl (nm_thn ?_))))
 refine ws_seqN Normal__n3 Normal__n4 rfl rfl rfl (ws_region rfl (wla 0 1 rfl rfl rfl rfl rfl rfl rfl (wl_end rfl (nm_thn ?_))))
 refine ws_seqN Normal__n5 Normal__n6 rfl rfl rfl (ws_region rfl (wla 0 1 rfl rfl rfl rfl rfl rfl rfl (wl_end rfl (nm_thn ?_))))
 refine ws_seqN Normal__n7 Normal__n8 rfl rfl rfl (ws_seqN Normal__n9 Normal__n10 rfl rfl rfl (ws_region rfl (wlm 0 1 rfl rfl rfl rfl rfl rfl rfl (wlo 1 2 rfl rfl rfl (wo_run rfl rfl (run_len rfl rfl rfl rfl rfl rfl Try.underlying22) ?_)))))
 refine wlm 2 3 rfl rfl rfl rfl rfl rfl rfl (wl_end rfl (nmk [2, 6, 7, 16, 17, 18] rfl (nm_thn (ws_blockN Normal__n11 0 rfl rfl rfl ?_))))
 have S2 := S1.newtab0 cdInt; clear S1
 have S3 := S2.nilrow (cdV 38); clear S2
 refine ws_loopE (fun mx_ ax_ wx_ => ∃ (j : Nat) (z : Int) (vs0 : List SlV) (xs0 : List (List Int)) (vrl : Value), mx_ = wd.length - j ∧ Env 101 [(2, .pointer (some ⟨gb1, 0, none⟩)), (6, .int .i64 z), (7, vrl), (16, .slice wdA wd.length wdc), (17, .int .i64 (wd.length : Int)), (18, .int .i64 (j : Int))] ax_ ∧ SH wx_ M X [Rs.row (cdV 38) vrl vs0, Rs.tab cdInt vs0 xs0, Rs.box gb1 3 [.int .i64 (n : Int)]] ∧ j ≤ wd.length ∧ NfI n (wd.take j) z xs0 ∧ xs0.length = j ∧ (-(j : Int) ≤ z ∧ z ≤ 0)) rfl ?_ ?_
 ·intro ax_ hax_
  refine ⟨_, ⟨0, 0, [], [], _, rfl, hax_.sub ⟨rfl, rfl, rfl, rfl, rfl, rfl, trivial⟩, S3.pick [0, 1, 2] [_, _, _] (by decide) ⟨rfl, rfl, rfl, trivial⟩, ?hq1f0, ?hq1f1, ?hq1f2, ?hq1f3⟩⟩
  case hq1f0 => omega
  case hq1f1 => exact NfI.nil_
  case hq1f2 => rfl
  case hq1f3 => omega
 ·rintro m1 a1 w2 ⟨j, z, vs0, xs0, vrl, rfl, he1, S4, hj, hnf, hxl, hz⟩
  clear S3
  refine ws_in he1 (c := Normal__n12) rfl ?_
  clear he1 a1
  have hvl : vs0.length = xs0.length := S4.tablen (i := 1) rfl
  refine ws_seqN Normal__n13 Normal__n14 rfl rfl rfl (ws_region rfl (wlo 0 1 rfl rfl rfl (wo_run rfl rfl (run_lss rfl rfl rfl) (wl_end rfl (nm_thn ?_)))))
  refine ws_seqN Normal__n15 Normal__n16 rfl rfl rfl ?_
  refine ws_condN Normal__n17 Normal__n18 rfl rfl rfl rfl (fun hb19 => ?_) (fun hb19 => ?_)
  ·replace hb19 := of_decide_eq_true hb19
   refine ws_skip rfl (nmk [2, 6, 7, 16, 17, 18] rfl (nm_thn (ws_seqN Normal__n19 Normal__n20 rfl rfl rfl (ws_blockN Normal__n21 1 rfl rfl rfl ?_))))
   refine ws_seqN Normal__n22 Normal__n23 rfl rfl rfl (ws_region rfl (wlo 0 1 rfl rfl rfl (wo_run rfl rfl (run_indexM (C := cdInt) j rfl rfl rfl sl22 (by first | rfl | omega) hwd (by first | omega | (simp only [lens]; omega))) ?_)))
   refine wlo 1 2 rfl rfl rfl (wo_run rfl rfl (run_load1 rfl rfl Try.underlying3 rfl (hwd.cell S4.um (i := j) (by first | omega | (simp only [lens]; omega)) 0 rfl rfl)) ?_)
   refine wla 2 3 rfl rfl rfl rfl rfl rfl rfl (wl_end rfl (nmk [2, 6, 7, 16, 17, 18, 9] rfl (nm_thn (ws_seqN Normal__n24 Normal__n25 rfl rfl rfl ?_))))
   have hwj := hwb j (by omega)
   refine ws_region rfl (wlm 0 1 rfl rfl rfl rfl rfl rfl rfl (wlm 1 2 rfl rfl rfl rfl rfl rfl rfl (wlo 2 3 rfl rfl rfl (wo_run rfl rfl (run_neg rfl rfl (by first | omega | (simp only [lens]; omega))) ?_))))
   refine wlo 3 4 rfl rfl rfl (wo_run rfl rfl (run_max rfl rfl rfl rfl rfl) (wla 4 5 rfl rfl rfl rfl rfl rfl rfl (wl_end rfl (nmk [2, 6, 7, 16, 17, 18, 9, 10] rfl (nm_thn ?_)))))
   refine ws_seqN Normal__n26 Normal__n27 rfl rfl rfl (ws_seqN Normal__n28 Normal__n29 rfl rfl rfl ?_)
   obtain ⟨a, ha⟩ : ∃ a : Nat, max (ga wd j) (-(ga wd j)) = (a : Int) := ⟨(max (ga wd j) (-(ga wd j))).toNat, by omega⟩
   refine ws_eq 10 (.int .i64 (a : Int)) rfl (int_eq (by omega)) ?_
   refine ws_region rfl (wlm 0 1 rfl rfl rfl rfl rfl rfl rfl (wlo 1 2 rfl rfl rfl (wo_run rfl rfl (run_gtr rfl rfl rfl) (wl_end rfl (nmk [2, 6, 7, 16, 17, 18, 10, 27] rfl ?_)))))
   refine nm_thn ?_
   refine ws_condN Normal__n30 Normal__n31 rfl rfl rfl rfl (fun hb27 => ?_) (fun hb27 => ?_)
   ·replace hb27 := of_decide_eq_true hb27
    refine ws_seqN Normal__n32 Normal__n33 rfl rfl rfl (ws_region rfl (wlo 0 1 rfl rfl rfl (wo_run rfl rfl (run_load1 rfl rfl Try.underlying3 rfl (S4.boxc (i := 2) rfl rfl)) (wlo 1 2 rfl rfl rfl (wo_co rfl rfl rfl rfl rfl rfl rfl cf24 S4 (identity_o n (by omega) S4.lend) ?_)))))
    intro vw3 w3 Nw3 S5 hRw3; clear S4
    subst hRw3
    change SH _ _ _ [_, _, _, _] at S5
    refine wla 2 3 rfl rfl rfl rfl rfl rfl rfl (wl_end rfl (nmk [2, 6, 7, 16, 17, 18, 10, 11] rfl (nm_thn (ws_seqN Normal__n34 Normal__n35 rfl rfl rfl ?_))))
    refine ws_region rfl (wlm 0 1 rfl rfl rfl rfl rfl rfl rfl (wlm 1 2 rfl rfl rfl rfl rfl rfl rfl (wlo 2 3 rfl rfl rfl (wo_c1 rfl rfl rfl rfl rfl rfl rfl cf25 S5 (i := 0) rfl (thenP_w vw3 _ (a : Int) ((PL.id_ n).mem_ (by omega) (by omega)) ((PL.id_ n).mem2_ (by omega) (by omega)) (by (try simp only [idL_len, delL_len]); omega) (by omega) (S5.lend1 (i := 0) rfl)) ?_))))
    rintro vw4 w4 _ _ - S6 ⟨rfl, rfl, rfl⟩; clear S5
    change SH _ _ _ [_, _, _, _] at S6
    refine wl_end rfl (nmk [2, 6, 7, 16, 17, 18, 11] rfl (nm_thn (ws_seqN Normal__n36 Normal__n37 rfl rfl rfl (ws_region rfl ?_))))
    refine wlm 0 1 rfl rfl rfl rfl rfl rfl rfl (wlm 1 2 rfl rfl rfl rfl rfl rfl rfl ?_)
    obtain ⟨A1, c1, rfl, _⟩ := S6.sl (i := 0) rfl
    have S7 := S6.tabsnoc (C := cdInt) (zs := (thenL (idL n) (a : Int))) (i := 2) (q := 0) (H' := [_, _, _, _]) rfl rfl (by decide) rfl; clear S6
    refine wlo 2 3 rfl rfl rfl (wo_buildSlice1 (C := (cdV 38)) (l := [_]) rfl rfl rfl rfl sl35 rfl rfl rfl rfl S7 ?_)
    intro gb2 w5 S8; clear S7
    refine wlo 3 4 rfl rfl rfl (wo_append1 (C := (cdV 38)) (i := 2) (q := 0) (⟨A1, (thenL (idL n) (a : Int)).length, c1⟩ : SlV) rfl rfl rfl rfl rfl rfl rfl rfl sl35 S8 rfl rfl rfl (by show (_ + 1) * 24 ≤ _; first | omega | (simp only [lens]; omega)) ?_)
    intro vrl1 w6 S9; clear S8
    have S10 := S9.pick [1, 2, 3, 4] [_, _, _, _] (by decide) ⟨rfl, rfl, rfl, rfl, trivial⟩; clear S9
    refine wla 4 5 rfl rfl rfl rfl rfl rfl rfl (wl_end rfl (nmk [2, 6, 7, 16, 17, 18] rfl (nm_thn (ws_exit rfl rfl ?_))))
    refine nm_thn (ws_region rfl (wlo 0 1 rfl rfl rfl (wo_run rfl rfl (run_add rfl rfl rfl (by first | omega | (simp only [lens]; omega))) ?_)))
    refine wlm 1 2 rfl rfl rfl rfl rfl rfl rfl (wl_end rfl (nm_lp ?_))
    intro ax_ hax_
    refine ⟨_, ?hq2m, ⟨j + 1, z, vs0 ++ [(⟨A1, (thenL (idL n) (a : Int)).length, c1⟩ : SlV)], xs0 ++ [thenL (idL n) (a : Int)], _, rfl, hax_.sub ⟨rfl, rfl, rfl, rfl, rfl, rfl, trivial⟩, S10.pick [1, 2, 3] [_, _, _] (by decide) ⟨rfl, rfl, rfl, trivial⟩, ?hq2f0, ?hq2f1, ?hq2f2, ?hq2f3⟩⟩
    case hq2f0 => omega
    case hq2f1 => (rw [← w_pos (by omega) ha (by omega)]; exact hnf.pos (by omega) (by omega))
    case hq2f2 => (simp [hxl])
    case hq2f3 => omega
    case hq2m => omega
   ·replace hb27 := of_decide_eq_false hb27
    refine ws_skip rfl (nmk [2, 6, 7, 16, 17, 18, 10] rfl (nm_thn (ws_seqN Normal__n38 Normal__n39 rfl rfl rfl (ws_seqN Normal__n40 Normal__n41 rfl rfl rfl ?_))))
    refine ws_region rfl (wlm 0 1 rfl rfl rfl rfl rfl rfl rfl (wlo 1 2 rfl rfl rfl (wo_run rfl rfl (run_lenR (C := (cdV 38)) (i := 0) rfl rfl rfl rfl rfl rfl sl35 S4 rfl) (wlm 2 3 rfl rfl rfl rfl rfl rfl rfl (wl_end rfl ?_)))))
    refine nmk [2, 6, 7, 16, 17, 18, 10, 38, 39] rfl (nm_thn (ws_blockN Normal__n42 2 rfl rfl rfl ?_))
    refine ws_loopE (fun mx_ ax_ wx_ => ∃ (k : Nat) (vs1 : List SlV) (xs1 : List (List Int)) (vrm : Value), mx_ = xs0.length - k ∧ Env 101 [(2, .pointer (some ⟨gb1, 0, none⟩)), (6, .int .i64 z), (7, vrm), (16, .slice wdA wd.length wdc), (17, .int .i64 (wd.length : Int)), (18, .int .i64 (j : Int)), (10, .int .i64 (a : Int)), (38, .int .i64 (vs0.length : Int)), (39, .int .i64 (k : Int))] ax_ ∧ SH wx_ M X [Rs.row (cdV 38) vrm vs1, Rs.tab cdInt vs1 xs1, Rs.box gb1 3 [.int .i64 (n : Int)]] ∧ k ≤ xs0.length ∧ flI n xs0 xs1 k ∧ vs1.length = xs0.length) rfl ?_ ?_
    ·intro ax_ hax_
     refine ⟨_, ⟨0, vs0, xs0, _, rfl, hax_.sub ⟨rfl, rfl, rfl, rfl, rfl, rfl, rfl, rfl, rfl, trivial⟩, S4.pick [0, 1, 2] [_, _, _] (by decide) ⟨rfl, rfl, rfl, trivial⟩, ?hq3f0, ?hq3f1, ?hq3f2⟩⟩
     case hq3f0 => omega
     case hq3f1 => exact flI.zero _ _
     case hq3f2 => exact hvl
    ·rintro m2 a2 w7 ⟨k, vs1, xs1, vrm, rfl, he2, S11, hk, hfl, hv1⟩
     clear S4
     refine ws_in he2 (c := Normal__n43) rfl ?_
     clear he2 a2
     have hx1 := hfl.1
     refine ws_seqN Normal__n44 Normal__n45 rfl rfl rfl (ws_region rfl (wlo 0 1 rfl rfl rfl (wo_run rfl rfl (run_lss rfl rfl rfl) (wl_end rfl (nm_thn ?_)))))
     refine ws_seqN Normal__n46 Normal__n47 rfl rfl rfl ?_
     refine ws_condN Normal__n48 Normal__n49 rfl rfl rfl rfl (fun hb40 => ?_) (fun hb40 => ?_)
     ·replace hb40 := of_decide_eq_true hb40
      refine ws_skip rfl (nmk [2, 6, 7, 16, 17, 18, 10, 38, 39] rfl (nm_thn (ws_seqN Normal__n50 Normal__n51 rfl rfl rfl (ws_blockN Normal__n52 3 rfl rfl rfl ?_))))
      refine ws_seqN Normal__n53 Normal__n54 rfl rfl rfl (ws_region rfl (wlm 0 1 rfl rfl rfl rfl rfl rfl rfl (wla 1 2 rfl rfl rfl rfl rfl rfl rfl (wl_end rfl ?_))))
      refine nmk [2, 6, 7, 16, 17, 18, 10, 38, 39, 12] rfl (nm_thn (ws_region rfl (wlm 0 1 rfl rfl rfl rfl rfl rfl rfl (wlm 1 2 rfl rfl rfl rfl rfl rfl rfl ?_))))
      refine wlm 2 3 rfl rfl rfl rfl rfl rfl rfl (wlm 3 4 rfl rfl rfl rfl rfl rfl rfl (wlo 4 5 rfl rfl rfl (wo_run rfl rfl (run_indexR (C := (cdV 38)) (i := 0) k rfl rfl rfl sl35 S11 rfl (by first | rfl | omega) (by first | omega | (simp only [lens]; omega))) ?_)))
      refine wlo 5 6 rfl rfl rfl (wo_run rfl rfl (run_load1 rfl rfl Try.underlying38 rfl (S11.rowc (i := 0) (e := k) (j := 0) rfl (by first | omega | (simp only [lens]; omega)) rfl rfl)) ?_)
      have hd1 := S11.lendtab (i := 1) rfl (by first | exact hfl.rooms hnf hn | exact hnf2.rooms hn)
      obtain ⟨hn1, hr1⟩ := hd1.2 k (by first | omega | (simp only [lens]; omega) | (rw [ga_set _ _ _ _ (by first | omega | (simp only [List.length_set]; omega)), if_pos rfl]; simp only [List.length_set]; omega))
      clear hd1
      have hcall1 := flipped_o (ga xs1 k) hr1 (by rw [hfl.at_ (by omega)]; exact hnf.ga_ _ (by omega)) (by omega) S11.lend
      refine wlo 6 7 rfl rfl rfl (wo_co rfl rfl rfl rfl rfl rfl rfl cf26 S11 (Co.cast (by simp only [hn1]) (hcall1)) ?_)
      intro vw8 w8 Nw8 S12 hRw8; clear S11
      subst hRw8
      change SH _ _ _ [_, _, _, _] at S12
      refine wlo 7 8 rfl rfl rfl (wo_run rfl rfl (run_indexR (C := (cdV 38)) (i := 1) k rfl rfl rfl sl35 S12 rfl (by first | rfl | omega) (by first | omega | (simp only [lens]; omega))) ?_)
      obtain ⟨A2, c2, rfl, _⟩ := S12.sl (i := 0) rfl
      have S14 := S12.tabput (C := cdInt) (zs := (flipL n (ga xs1 k))) (i := 2) (q := 0) (H' := [_, _, _, _]) k rfl rfl (by decide) (by first | omega | (simp only [lens]; omega) | (rw [ga_set _ _ _ _ (by first | omega | (simp only [List.length_set]; omega)), if_pos rfl]; simp only [List.length_set]; omega)) rfl; clear S12
      refine wlo 8 9 rfl rfl rfl (wo_storeR (C := (cdV 38)) (i := 1) (e := k) (j := 0) (us := [_]) (H' := [_, _, _, _]) (⟨A2, (flipL n (ga xs1 k)).length, c2⟩ : SlV) rfl rfl S14 rfl (by first | omega | (simp only [lens]; omega)) rfl rfl rfl sz38 rfl rfl rfl rfl ?_)
      intro w10 S15; clear S14
      refine wl_end rfl (nm_blk (nmk [2, 6, 7, 16, 17, 18, 10, 38, 39] rfl (nm_thn (ws_region rfl ?_))))
      refine wlo 0 1 rfl rfl rfl (wo_run rfl rfl (run_add rfl rfl rfl (by first | omega | (simp only [lens]; omega))) ?_)
      refine wlm 1 2 rfl rfl rfl rfl rfl rfl rfl (wl_end rfl (nm_lp ?_))
      intro ax_ hax_
      refine ⟨_, ?hq4m, ⟨k + 1, vs1.set k (⟨A2, (flipL n (ga xs1 k)).length, c2⟩ : SlV), xs1.set k (flipL n (ga xs1 k)), _, rfl, hax_.sub ⟨rfl, rfl, rfl, rfl, rfl, rfl, rfl, rfl, rfl, trivial⟩, S15.pick [1, 2, 3] [_, _, _] (by decide) ⟨rfl, rfl, rfl, trivial⟩, ?hq4f0, ?hq4f1, ?hq4f2⟩⟩
      case hq4f0 => omega
      case hq4f1 => exact hfl.step (by omega)
      case hq4f2 => (rw [List.length_set]; exact hv1)
      case hq4m => omega
     ·replace hb40 := of_decide_eq_false hb40
      refine ws_exit rfl rfl (nmk [2, 6, 7, 16, 17, 18, 10] rfl (nm_thn (ws_seqN Normal__n55 Normal__n56 rfl rfl rfl ?_)))
      have hfm := hfl.done (by omega)
      refine ws_region rfl (wlo 0 1 rfl rfl rfl (wo_run rfl rfl (run_load1 rfl rfl Try.underlying3 rfl (S11.boxc (i := 2) rfl rfl)) (wlo 1 2 rfl rfl rfl (wo_co rfl rfl rfl rfl rfl rfl rfl cf27 S11 (delta_o n (by omega) (by omega) S11.lend) ?_))))
      intro vw11 w11 Nw11 S16 hRw11; clear S11
      subst hRw11
      change SH _ _ _ [_, _, _, _] at S16
      refine wla 2 3 rfl rfl rfl rfl rfl rfl rfl (wl_end rfl (nmk [2, 6, 7, 16, 17, 18, 10, 13] rfl (nm_thn (ws_seqN Normal__n57 Normal__n58 rfl rfl rfl ?_))))
      refine ws_region rfl (wlm 0 1 rfl rfl rfl rfl rfl rfl rfl (wlm 1 2 rfl rfl rfl rfl rfl rfl rfl (wlo 2 3 rfl rfl rfl (wo_c1 rfl rfl rfl rfl rfl rfl rfl cf25 S16 (i := 0) rfl (thenP_w vw11 _ (a : Int) ((PL.del_ n).mem_ (by omega) (by omega)) ((PL.del_ n).mem2_ (by omega) (by omega)) (by (try simp only [idL_len, delL_len]); omega) (by omega) (S16.lend1 (i := 0) rfl)) ?_))))
      rintro vw12 w12 _ _ - S17 ⟨rfl, rfl, rfl⟩; clear S16
      change SH _ _ _ [_, _, _, _] at S17
      refine wl_end rfl (nmk [2, 6, 7, 16, 17, 18, 13] rfl (nm_thn (ws_seqN Normal__n59 Normal__n60 rfl rfl rfl (ws_region rfl ?_))))
      refine wlm 0 1 rfl rfl rfl rfl rfl rfl rfl (wlm 1 2 rfl rfl rfl rfl rfl rfl rfl ?_)
      obtain ⟨A3, c3, rfl, _⟩ := S17.sl (i := 0) rfl
      have S18 := S17.tabsnoc (C := cdInt) (zs := (thenL (delL n) (a : Int))) (i := 2) (q := 0) (H' := [_, _, _, _]) rfl rfl (by decide) rfl; clear S17
      refine wlo 2 3 rfl rfl rfl (wo_buildSlice1 (C := (cdV 38)) (l := [_]) rfl rfl rfl rfl sl35 rfl rfl rfl rfl S18 ?_)
      intro gb3 w13 S19; clear S18
      refine wlo 3 4 rfl rfl rfl (wo_append1 (C := (cdV 38)) (i := 2) (q := 0) (⟨A3, (thenL (delL n) (a : Int)).length, c3⟩ : SlV) rfl rfl rfl rfl rfl rfl rfl rfl sl35 S19 rfl rfl rfl (by show (_ + 1) * 24 ≤ _; first | omega | (simp only [lens]; omega)) ?_)
      intro vrm1 w14 S20; clear S19
      have S21 := S20.pick [1, 2, 3, 4] [_, _, _, _] (by decide) ⟨rfl, rfl, rfl, rfl, trivial⟩; clear S20
      refine wla 4 5 rfl rfl rfl rfl rfl rfl rfl (wl_end rfl (nmk [2, 6, 7, 16, 17, 18] rfl (nm_thn (ws_region rfl ?_))))
      refine wlm 0 1 rfl rfl rfl rfl rfl rfl rfl (wlo 1 2 rfl rfl rfl (wo_run rfl rfl (run_sub rfl rfl rfl (by first | omega | (simp only [lens]; omega))) ?_))
      refine wla 2 3 rfl rfl rfl rfl rfl rfl rfl (wl_end rfl (nm_blk (nmk [2, 6, 7, 16, 17, 18] rfl (nm_thn ?_))))
      refine ws_region rfl (wlo 0 1 rfl rfl rfl (wo_run rfl rfl (run_add rfl rfl rfl (by first | omega | (simp only [lens]; omega))) ?_))
      refine wlm 1 2 rfl rfl rfl rfl rfl rfl rfl (wl_end rfl (nm_lp ?_))
      intro ax_ hax_
      refine ⟨_, ?hq5m, ⟨j + 1, z - 1, vs1 ++ [(⟨A3, (thenL (delL n) (a : Int)).length, c3⟩ : SlV)], xs1 ++ [thenL (delL n) (a : Int)], _, rfl, hax_.sub ⟨rfl, rfl, rfl, rfl, rfl, rfl, trivial⟩, S21.pick [1, 2, 3] [_, _, _] (by decide) ⟨rfl, rfl, rfl, trivial⟩, ?hq5f0, ?hq5f1, ?hq5f2, ?hq5f3⟩⟩
      case hq5f0 => omega
      case hq5f1 => (rw [← w_neg (by omega) ha (by omega), hfm]; exact hnf.neg (by omega) (by omega))
      case hq5f2 => (rw [hfm]; simp [hxl])
      case hq5f3 => omega
      case hq5m => omega
  ·replace hb19 := of_decide_eq_false hb19
   refine ws_exit rfl rfl (nmk [2, 6, 7] rfl (nm_thn (ws_seqN Normal__n61 Normal__n62 rfl rfl rfl (ws_seqN Normal__n63 Normal__n64 rfl rfl rfl ?_))))
   refine ws_region rfl (wla 0 1 rfl rfl rfl rfl rfl rfl rfl (wl_end rfl (nm_thn (ws_blockN Normal__n65 4 rfl rfl rfl ?_))))
   refine ws_loopE (fun mx_ ax_ wx_ => ∃ (b2 : Bool) (xs2 : List (List Int)), mx_ = msr b2 xs2 ∧ Env 101 [(2, .pointer (some ⟨gb1, 0, none⟩)), (6, .int .i64 z), (7, vrl), (14, .bool b2)] ax_ ∧ SH wx_ M X [Rs.row (cdV 38) vrl vs0, Rs.tab cdInt vs0 xs2, Rs.box gb1 3 [.int .i64 (n : Int)]] ∧ NfI n wd z xs2 ∧ xs2.length = wd.length ∧ (b2 = false → Stb n xs2)) rfl ?_ ?_
   ·intro ax_ hax_
    refine ⟨_, ⟨true, xs0, rfl, hax_.sub ⟨rfl, rfl, rfl, rfl, trivial⟩, S4.pick [0, 1, 2] [_, _, _] (by decide) ⟨rfl, rfl, rfl, trivial⟩, ?hq6f0, ?hq6f1, ?hq6f2⟩⟩
    case hq6f0 => (rw [show j = wd.length by omega, List.take_length] at hnf; exact hnf)
    case hq6f1 => omega
    case hq6f2 => (intro h; cases h)
   ·rintro m3 a3 w15 ⟨b2, xs2, rfl, he3, S22, hnf2, hx2, hst2⟩
    clear S4
    refine ws_in he3 (c := Normal__n66) rfl ?_
    clear he3 a3
    refine ws_seqN Normal__n67 Normal__n68 rfl rfl rfl (ws_seqN Normal__n69 Normal__n70 rfl rfl rfl (ws_region rfl (wlm 0 1 rfl rfl rfl rfl rfl rfl rfl (wl_end rfl ?_))))
    refine nmk [2, 6, 7, 63] rfl (nm_thn ?_)
    refine ws_condN Normal__n71 Normal__n72 rfl rfl rfl rfl (fun hb63 => ?_) (fun hb63 => ?_)
    ·refine ws_skip rfl (nmk [2, 6, 7] rfl (nm_thn (ws_blockN Normal__n73 5 rfl rfl rfl (ws_seqN Normal__n74 Normal__n75 rfl rfl rfl ?_))))
     refine ws_region rfl (wla 0 1 rfl rfl rfl rfl rfl rfl rfl (wl_end rfl (nm_thn (ws_seqN Normal__n76 Normal__n77 rfl rfl rfl ?_))))
     refine ws_region rfl (wlm 0 1 rfl rfl rfl rfl rfl rfl rfl (wlo 1 2 rfl rfl rfl (wo_run rfl rfl (run_lenR (C := (cdV 38)) (i := 0) rfl rfl rfl rfl rfl rfl sl35 S22 rfl) (wlo 2 3 rfl rfl rfl (wo_run rfl rfl (run_sub rfl rfl rfl (by first | omega | (simp only [lens]; omega))) ?_)))))
     refine wlm 3 4 rfl rfl rfl rfl rfl rfl rfl (wl_end rfl (nmk [2, 6, 7, 14, 66, 67] rfl (nm_thn (ws_blockN Normal__n78 6 rfl rfl rfl ?_))))
     refine ws_loopE (fun mx_ ax_ wx_ => ∃ (k3 : Nat) (b3 : Bool) (xs3 : List (List Int)), mx_ = wd.length - k3 ∧ Env 101 [(2, .pointer (some ⟨gb1, 0, none⟩)), (6, .int .i64 z), (7, vrl), (14, .bool b3), (66, .int .i64 ((vs0.length : Int) - 1)), (67, .int .i64 (k3 : Int))] ax_ ∧ SH wx_ M X [Rs.row (cdV 38) vrl vs0, Rs.tab cdInt vs0 xs3, Rs.box gb1 3 [.int .i64 (n : Int)]] ∧ k3 ≤ wd.length ∧ NfI n wd z xs3 ∧ xs3.length = wd.length ∧ prg n (phi xs2) b3 xs3 k3) rfl ?_ ?_
     ·intro ax_ hax_
      refine ⟨_, ⟨0, false, xs2, rfl, hax_.sub ⟨rfl, rfl, rfl, rfl, rfl, rfl, trivial⟩, S22.pick [0, 1, 2] [_, _, _] (by decide) ⟨rfl, rfl, rfl, trivial⟩, ?hq7f0, ?hq7f1, ?hq7f2, ?hq7f3⟩⟩
      case hq7f0 => omega
      case hq7f1 => exact hnf2
      case hq7f2 => exact hx2
      case hq7f3 => exact prg.zero _ _
     ·rintro m4 a4 w16 ⟨k3, b3, xs3, rfl, he4, S23, hk3, hnf3, hx3, hpr3⟩
      clear S22
      refine ws_in he4 (c := Normal__n79) rfl ?_
      clear he4 a4
      refine ws_seqN Normal__n80 Normal__n81 rfl rfl rfl (ws_region rfl (wlo 0 1 rfl rfl rfl (wo_run rfl rfl (run_lss rfl rfl rfl) (wl_end rfl (nm_thn ?_)))))
      refine ws_seqN Normal__n82 Normal__n83 rfl rfl rfl ?_
      refine ws_condN Normal__n84 Normal__n85 rfl rfl rfl rfl (fun hb68 => ?_) (fun hb68 => ?_)
      ·replace hb68 := of_decide_eq_true hb68
       refine ws_skip rfl (nmk [2, 6, 7, 14, 66, 67] rfl (nm_thn (ws_seqN Normal__n86 Normal__n87 rfl rfl rfl (ws_blockN Normal__n88 7 rfl rfl rfl ?_))))
       refine ws_seqN Normal__n89 Normal__n90 rfl rfl rfl (ws_region rfl (wlm 0 1 rfl rfl rfl rfl rfl rfl rfl (wla 1 2 rfl rfl rfl rfl rfl rfl rfl (wl_end rfl ?_))))
       refine nmk [2, 6, 7, 14, 66, 67, 15] rfl (nm_thn (ws_blockN Normal__n91 8 rfl rfl rfl ?_))
       refine ws_loopE (fun mx_ ax_ wx_ => ∃ (b4 : Bool) (xs4 : List (List Int)), mx_ = phi xs4 + 1 * 0 ∧ Env 101 [(2, .pointer (some ⟨gb1, 0, none⟩)), (6, .int .i64 z), (7, vrl), (14, .bool b4), (66, .int .i64 ((vs0.length : Int) - 1)), (67, .int .i64 (k3 : Int)), (15, .int .i64 (k3 : Int))] ax_ ∧ SH wx_ M X [Rs.row (cdV 38) vrl vs0, Rs.tab cdInt vs0 xs4, Rs.box gb1 3 [.int .i64 (n : Int)]] ∧ NfI n wd z xs4 ∧ xs4.length = wd.length ∧ prg n (phi xs2) b4 xs4 k3) rfl ?_ ?_
       ·intro ax_ hax_
        refine ⟨_, ⟨b3, xs3, rfl, hax_.sub ⟨rfl, rfl, rfl, rfl, rfl, rfl, rfl, trivial⟩, S23.pick [0, 1, 2] [_, _, _] (by decide) ⟨rfl, rfl, rfl, trivial⟩, ?hq8f0, ?hq8f1, ?hq8f2⟩⟩
        case hq8f0 => exact hnf3
        case hq8f1 => exact hx3
        case hq8f2 => exact hpr3
       ·rintro m5 a5 w17 ⟨b4, xs4, rfl, he5, S24, hnf4, hx4, hpr4⟩
        clear S23
        refine ws_in he5 (c := Normal__n92) rfl ?_
        clear he5 a5
        have hpl9 := hnf4.ga_
        have htl9 : vs0.length = xs4.length := S24.tablen (i := 1) rfl
        have hns9 : ∀ i9, i9 < xs4.length → (ga vs0 i9).n = (ga xs4 i9).length := fun i9 hi9 => (S24.tabrow (i := 1) rfl hi9).1
        refine ws_seqN Normal__n93 Normal__n94 rfl rfl rfl (ws_seqN Normal__n95 Normal__n96 rfl rfl rfl (ws_draw rfl (by kernel_rfl) S24 10 rfl ?_))
        clear S24
        refine wap 0 9 rfl (by kernel_rfl) rfl rfl rfl (fun w18 => run_move rfl rfl) ?_
        refine wap 1 8 rfl (by kernel_rfl) rfl rfl rfl (fun w19 => run_move rfl rfl) ?_
        refine wat 2 7 rfl (by kernel_rfl) rfl rfl rfl (fun M3 N3 w20 hle8 S27 => .inl (run_indexR (C := (cdV 38)) (i := 0) k3 rfl rfl rfl sl35 S27.suf rfl (by first | rfl | omega) (by first | omega | (simp only [lens]; omega)))) ?_
        refine wat 3 6 rfl (by kernel_rfl) rfl rfl rfl (fun M4 N4 w21 hle9 S28 => .inl (run_load1 rfl rfl Try.underlying38 rfl (S28.suf.rowc (i := 0) (e := k3) (j := 0) rfl (by first | omega | (simp only [lens]; omega)) rfl rfl))) ?_
        refine wap 4 5 rfl (by kernel_rfl) rfl rfl rfl (fun w22 => run_move rfl rfl) ?_
        refine wap 5 4 rfl (by kernel_rfl) rfl rfl rfl (fun w23 => run_move rfl rfl) ?_
        refine wap 6 3 rfl (by kernel_rfl) rfl rfl rfl (fun w24 => run_add rfl rfl rfl (by first | omega | (simp only [lens]; omega))) ?_
        refine wat 7 2 rfl (by kernel_rfl) rfl rfl rfl (fun M8 N8 w25 hle13 S32 => .inl (run_indexR (C := (cdV 38)) (i := 0) (k3 + 1) rfl rfl rfl sl35 S32.suf rfl (by first | rfl | omega) (by first | omega | (simp only [lens]; omega)))) ?_
        refine wat 8 1 rfl (by kernel_rfl) rfl rfl rfl (fun M9 N9 w26 hle14 S33 => .inl (run_load1 rfl rfl Try.underlying38 rfl (S33.suf.rowc (i := 0) (e := k3 + 1) (j := 0) rfl (by first | omega | (simp only [lens]; omega)) rfl rfl))) ?_
        refine wa_only (i := 9) 0 rfl (by kernel_rfl) rfl rfl (fun w28 S35 => ?_)
        have S36 := S35.tabtwo (i := 1) k3 rfl (by omega)
        have hcallw29 := Shift_b (hpl9 k3 (by omega)) (hpl9 (k3 + 1) (by omega)) hn2 hn (S36.lend1 (i := 0) rfl)
        have hn1w29 := hns9 k3 (by omega); have hn2w29 := hns9 (k3 + 1) (by omega)
        refine (wo_c1 (i := 0) rfl rfl rfl rfl rfl rfl rfl cf28 S36 rfl hcallw29 ?_)
        rintro vw29 w29 _ _ - S37 ⟨rfl, rfl, rfl⟩; clear S36 hcallw29
        have S38 : SH _ _ _ [_, _, _] := S37.tabtwoback (i := 1) rfl (by omega) htl9 (by rw [shA_len]; exact hn1w29) (by rw [shB_len]; exact hn2w29); clear S37 S35
        refine LeftW.turn (by kernel_rfl) S38 ?_; clear S38
        change WA _ _ _ _ _ _ _ _ _ _ _ _ [_, _, _]
        refine wa_end (by kernel_rfl) (fun w30 S39 => ?_)
        refine nmk [2, 6, 7, 14, 66, 67, 15, 79] rfl (nm_thn ?_)
        refine ws_condN Normal__n97 Normal__n98 rfl rfl rfl rfl (fun hb79 => ?_) (fun hb79 => ?_)
        ·have hss := sh_step hn hnf4 (k := k3) (by omega) (of_decide_eq_true hb79)
         refine ws_skip rfl (nmk [2, 6, 7, 66, 67, 15] rfl (nm_thn (ws_blockN Normal__n99 9 rfl rfl rfl (ws_region rfl ?_))))
         refine wla 0 1 rfl rfl rfl rfl rfl rfl rfl (wl_end rfl (nm_blk (nm_lp ?_)))
         intro ax_ hax_
         refine ⟨_, ?hq9m, ⟨true, ((xs4.set k3 (shA n (ga xs4 k3) (ga xs4 (k3 + 1)))).set (k3 + 1) (shB n (ga xs4 k3) (ga xs4 (k3 + 1)))), rfl, hax_.sub ⟨rfl, rfl, rfl, rfl, rfl, rfl, rfl, trivial⟩, S39.pick [0, 1, 2] [_, _, _] (by decide) ⟨rfl, rfl, rfl, trivial⟩, ?hq9f0, ?hq9f1, ?hq9f2⟩⟩
         case hq9f0 => exact hss.1
         case hq9f1 => simpa using hx4
         case hq9f2 => exact hpr4.shift hss.2
         case hq9m => (have h9 := hss.2; omega)
        ·rw [sh_same (of_decide_eq_false hb79)] at S39
         refine ws_exit rfl rfl (nm_blk (nmk [2, 6, 7, 14, 66, 67] rfl (nm_thn (ws_region rfl ?_))))
         refine wlo 0 1 rfl rfl rfl (wo_run rfl rfl (run_add rfl rfl rfl (by first | omega | (simp only [lens]; omega))) ?_)
         refine wlm 1 2 rfl rfl rfl rfl rfl rfl rfl (wl_end rfl (nm_lp ?_))
         intro ax_ hax_
         refine ⟨_, ?hq10m, ⟨k3 + 1, b4, xs4, rfl, hax_.sub ⟨rfl, rfl, rfl, rfl, rfl, rfl, trivial⟩, S39.pick [0, 1, 2] [_, _, _] (by decide) ⟨rfl, rfl, rfl, trivial⟩, ?hq10f0, ?hq10f1, ?hq10f2, ?hq10f3⟩⟩
         case hq10f0 => omega
         case hq10f1 => exact hnf4
         case hq10f2 => exact hx4
         case hq10f3 => exact hpr4.step (sh_lw (by (have h9 := of_decide_eq_false hb79; omega)))
         case hq10m => omega
      ·replace hb68 := of_decide_eq_false hb68
       refine ws_exit rfl rfl (nm_blk (nm_lp ?_))
       intro ax_ hax_
       refine ⟨_, ?hq11m, ⟨b3, xs3, rfl, hax_.sub ⟨rfl, rfl, rfl, rfl, trivial⟩, S23.pick [0, 1, 2] [_, _, _] (by decide) ⟨rfl, rfl, rfl, trivial⟩, ?hq11f0, ?hq11f1, ?hq11f2⟩⟩
       case hq11f0 => exact hnf3
       case hq11f1 => exact hx3
       case hq11f2 => exact hpr3.stb (by omega)
       case hq11m => (have h9 := hpr3.msr_ hb63; omega)
    ·refine ws_exit rfl rfl (nmk [2, 6, 7] rfl (nm_thn (ws_seqN Normal__n100 Normal__n101 rfl rfl rfl ?_)))
     obtain ⟨M11, hle16, S40, hd2⟩ := S22.pubtab (i := 1) (H' := [_, _, _]) rfl rfl (by first | exact hfl.rooms hnf hn | exact hnf2.rooms hn)
     clear S22
     replace hwd := hwd.mono (Hp.un_mono hle16 S40.mx)
     obtain ⟨hnf5, hst5, hid5⟩ := nf_filt hnf2 (hst2 (by simpa using hb63))
     have hlf5 : (xs2.filter fun q => !decide (q = idL n)).length ≤ wd.length := by rw [← hx2]; exact List.length_filter_le ..
     have hv2 := hd2.1
     refine ws_region rfl (wlm 0 1 rfl rfl rfl rfl rfl rfl rfl (wlo 1 2 rfl rfl rfl (wo_run rfl rfl (run_makeFunc (vs := [_]) rfl rfl rfl rfl) ?_)))
     have hcallw31 := DeleteFuncP_w 30 _ (fun q => decide (q = idL n)) hd2 (by omega) cf30 (fun w9 Y9 hl9 S9 A9 c9 x9 _ hr9 => Normal1_q x9 n hr9 (((S40.less (i := 0) rfl).boxM (i := 2) rfl).mono hl9) hn S9) (S40.lend1 (i := 0) rfl)
     refine wlo 2 3 rfl rfl rfl (wo_c1 (i := 0) rfl rfl rfl rfl rfl rfl rfl cf29 S40 rfl hcallw31 ?_)
     rintro vD1 w31 _ _ - S41 ⟨rfl, ws1, rfl, hd3⟩; clear S40 hcallw31
     change SH _ _ _ [_, _, _] at S41
     have hwl9 : ws1.length ≤ 20 := by rw [hd3.1]; exact Nat.le_trans (List.length_filter_le ..) (by omega)
     obtain ⟨M12, hle17, S42, ⟨A4, c4, e1, hr2⟩⟩ := S41.pubrow (i := 0) (H' := [_, _, _]) rfl rfl (by show _ * 24 ≤ _; first | omega | (simp only [lens]; omega))
     clear S41; subst e1
     replace hwd := hwd.mono (Hp.un_mono hle17 S42.mx)
     replace hd2 := hd2.mono hle17
     replace hd3 := hd3.mono hle17
     refine wla 3 4 rfl rfl rfl rfl rfl rfl rfl (wl_end rfl (nmk [2, 6, 7] rfl (nm_thn (ws_seqN Normal__n102 Normal__n103 rfl rfl rfl ?_))))
     refine ws_blockN Normal__n104 10 rfl rfl rfl ?_
     refine ws_loopE (fun mx_ ax_ wx_ => ∃ (z5 : Int) (A5 : Option Addr) (c5 : Nat) (vs5 : List SlV) (ys : List (List Int)) (M13 : Hp), M12.le M13 ∧ mx_ = ys.length + 1 * 0 ∧ Env 101 [(2, .pointer (some ⟨gb1, 0, none⟩)), (6, .int .i64 z5), (7, .slice A5 vs5.length c5)] ax_ ∧ SH wx_ M13 X [Rs.box gb1 3 [.int .i64 (n : Int)]] ∧ RdA (cdV 38) M13 A5 c5 vs5 ∧ Rd2 cdInt M13 vs5 ys ∧ NfI n wd z5 ys ∧ Stb n ys ∧ (∀ p ∈ ys, p ≠ idL n) ∧ (-20 ≤ z5 ∧ z5 + ys.length ≤ 20 ∧ ys.length ≤ 20)) rfl ?_ ?_
     ·intro ax_ hax_
      refine ⟨_, ⟨z, A4, c4, ws1, (xs2.filter fun q => !decide (q = idL n)), _, Hp.le_refl _, rfl, hax_.sub ⟨rfl, rfl, rfl, trivial⟩, S42.pick [2] [_] (by decide) ⟨rfl, trivial⟩, ?hq12f0, ?hq12f1, ?hq12f2, ?hq12f3, ?hq12f4, ?hq12f5⟩⟩
      case hq12f0 => exact hr2
      case hq12f1 => exact hd3
      case hq12f2 => exact hnf5
      case hq12f3 => exact hst5
      case hq12f4 => exact hid5
      case hq12f5 => omega
     ·rintro m6 a6 w32 ⟨z5, A5, c5, vs5, ys, M13, hle18, rfl, he6, S43, h5, hd5, hnf6, hst6, hid6, hz6⟩
      clear S42
      refine ws_in he6 (c := Normal__n105) rfl ?_
      clear he6 a6
      replace hwd := hwd.mono (Hp.un_mono hle18 S43.mx)
      replace hd2 := hd2.mono hle18
      replace hd3 := hd3.mono hle18
      replace hr2 := hr2.mono hle18
      have hv5 := hd5.1
      have hil := delL_len n
      refine ws_seqN Normal__n106 Normal__n107 rfl rfl rfl (ws_seqN Normal__n108 Normal__n109 rfl rfl rfl (ws_draw rfl (by kernel_rfl) S43 11 rfl ?_))
      clear S43
      refine wap 0 10 rfl (by kernel_rfl) rfl rfl rfl (fun w33 => run_move rfl rfl) ?_
      refine wat 1 9 rfl (by kernel_rfl) rfl rfl rfl (fun M15 N12 w34 hle20 S45 => .inl (run_len rfl rfl rfl rfl rfl rfl Try.underlying35)) ?_
      refine wap 2 8 rfl (by kernel_rfl) rfl rfl rfl (fun w35 => run_gtr rfl rfl rfl) ?_
      refine wap 3 7 rfl (by kernel_rfl) rfl rfl rfl (fun w36 => run_move rfl rfl) ?_
      refine wa_split (t := 87) rfl (fun hg87 => ?_) (fun hg87 => ?_)
      ·replace hg87 := of_decide_eq_true hg87
       refine wap 4 6 rfl (by kernel_rfl) ⟨_, _, _, rfl, rfl, rfl, rfl⟩ rfl rfl (fun w37 => run_move rfl rfl) ?_
       refine wat 5 5 rfl (by kernel_rfl) ⟨_, _, _, rfl, rfl, rfl, rfl⟩ rfl rfl (fun M19 N16 w38 hle24 S49 => .inl (run_indexM (C := (cdV 38)) 0 rfl rfl rfl sl35 (by first | rfl | omega) (h5.mono hle24) (by first | omega | (simp only [lens]; omega)))) ?_
       obtain ⟨hn2, hr3⟩ := hd5.2 0 (by first | omega | (simp only [lens]; omega))
       have rmhr3 : (ga ys 0).length * 8 ≤ 140737488355328 := hr3.room
       refine wat 6 4 rfl (by kernel_rfl) ⟨_, _, _, rfl, rfl, rfl, rfl⟩ rfl rfl (fun M20 N17 w39 hle25 S50 => .inl (run_load1 rfl rfl Try.underlying38 rfl ((h5.mono hle25).cell S50.m (i := 0) (by first | omega | (simp only [lens]; omega)) 0 rfl (congrArg (fun n => some (Value.slice _ n _)) hn2)))) ?_
       refine wat 7 3 rfl (by kernel_rfl) ⟨_, _, _, rfl, rfl, rfl, rfl⟩ rfl rfl (fun M21 N18 w40 hle26 S51 => .inl (run_load1 rfl rfl Try.underlying3 rfl (S51.suf.boxc (i := 0) rfl rfl))) ?_
       refine wa_only (i := 8) 2 rfl (by kernel_rfl) ⟨_, _, _, rfl, rfl, rfl, rfl⟩ rfl (fun w42 S53 => ?_)
       refine (wo_co rfl rfl rfl rfl rfl rfl rfl cf27 S53 (delta_o n (by omega) (by omega) S53.lend) ?_)
       intro vw43 w43 Nw43 S54 hRw43; clear S53
       subst hRw43
       change SH _ _ _ [_, _] at S54
       refine LeftW.grow [_] (Hp.le_refl _) S54 ?_; clear S54
       change WA _ _ _ _ _ _ _ _ _ _ _ _ [_, _]
       refine wa_only (i := 9) 1 rfl (by kernel_rfl) ⟨_, _, _, rfl, rfl, rfl, rfl⟩ rfl (fun w45 S56 => ?_)
       obtain ⟨A5, c5, e2, hr4⟩ := S56.lendRd (i := 0) rfl (by show _ * 8 ≤ _; first | omega | (simp only [lens]; omega))
       have hcall2 := EqualP_q (ga ys 0) (delL n) (hr3.mono (Hp.le_un _ _)) hr4 S56.lend
       refine (wo_cq rfl rfl rfl rfl rfl rfl rfl cf20 S56 (Cq.cast (by simp only [e2]) (hcall2)) ?_)
       rintro _ w46 S57 rfl; clear S56
       refine LeftW.grow [_] (Hp.le_refl _) S57 ?_; clear S57
       change WA _ _ _ _ _ _ _ _ _ _ _ _ [_, _]
       refine wap 10 0 rfl (by kernel_rfl) rfl rfl rfl (fun w47 => run_pickT rfl rfl rfl) ?_
       refine wa_end (by kernel_rfl) (fun w48 S59 => ?_)
       refine nmk [2, 6, 7, 94] rfl (nm_thn ?_)
       refine ws_condN Normal__n110 Normal__n111 rfl rfl rfl rfl (fun hb94 => ?_) (fun hb94 => ?_)
       ·have hdl := nf_del hnf6 hst6 (by omega) (of_decide_eq_true hb94)
        refine ws_skip rfl (nmk [2, 6, 7] rfl (nm_thn (ws_blockN Normal__n112 11 rfl rfl rfl (ws_seqN Normal__n113 Normal__n114 rfl rfl rfl ?_))))
        refine ws_region rfl (wlm 0 1 rfl rfl rfl rfl rfl rfl rfl (wlo 1 2 rfl rfl rfl (wo_run rfl rfl (run_add rfl rfl rfl (by first | omega | (simp only [lens]; omega))) ?_)))
        refine wla 2 3 rfl rfl rfl rfl rfl rfl rfl (wl_end rfl (nmk [2, 6, 7] rfl (nm_thn (ws_region rfl ?_))))
        refine wlm 0 1 rfl rfl rfl rfl rfl rfl rfl (wlo 1 2 rfl rfl rfl (wo_sliceD (C := (cdV 38)) 1 rfl rfl rfl rfl rfl sl35 (by first | rfl | omega) (by first | omega | (simp only [lens]; omega)) h5 ?_))
        intro A6 c6 hr5
        have hd4 := hd5.drop_ 1
        refine wla 2 3 rfl rfl rfl rfl rfl rfl rfl (wl_end rfl (nm_blk (nm_lp ?_)))
        intro ax_ hax_
        refine ⟨_, ?hq13m, ⟨z5 + 1, A6, c6, vs5.drop 1, ys.drop 1, _, (hle18), rfl, hax_.sub ⟨rfl, rfl, rfl, trivial⟩, S59.pick [1] [_] (by decide) ⟨rfl, trivial⟩, ?hq13f0, ?hq13f1, ?hq13f2, ?hq13f3, ?hq13f4, ?hq13f5⟩⟩
        case hq13f0 => exact hr5
        case hq13f1 => exact hd4
        case hq13f2 => exact hdl.1
        case hq13f3 => exact hdl.2.1
        case hq13f4 => exact fun p hp => hid6 p (List.mem_of_mem_drop hp)
        case hq13f5 => (have h9 := hdl.2.2; omega)
        case hq13m => (have h9 := hdl.2.2; omega)
       ·refine ws_exit rfl rfl (nmk [6, 7] rfl (nm_thn (ws_seqN Normal__n115 Normal__n116 rfl rfl rfl (ws_region rfl ?_))))
        refine wlm 0 1 rfl rfl rfl rfl rfl rfl rfl (wlm 1 2 rfl rfl rfl rfl rfl rfl rfl (wla 2 3 rfl rfl rfl rfl rfl rfl rfl (wla 3 4 rfl rfl rfl rfl rfl rfl rfl (wl_end rfl ?_))))
        refine nmk [4, 5] rfl (nm_thn (ws_ret hC [_, _] rfl rfl ⟨rfl, rfl, trivial⟩ ?_))
        refine ⟨_, rfl, _, (hle16.trans hle17).trans hle18, (S59.pick [] [] (by decide) trivial), ?_⟩
        exact ⟨z5, _, _, _, ys, rfl, h5, hd5, ⟨hnf6, hst6, hid6, fun h0 => (by first | exact of_decide_eq_false hb94 | omega), by omega, by omega⟩⟩
      ·replace hg87 := of_decide_eq_false hg87
       refine wa_no (i := 4) (d := 88) 6 rfl (by kernel_rfl) (by kernel_rfl) (by kernel_rfl) ⟨_, _, _, rfl, rfl, rfl, rfl⟩ rfl rfl ?_
       refine wa_no (i := 5) (d := 89) 5 rfl (by kernel_rfl) (by kernel_rfl) (by kernel_rfl) ⟨_, _, _, rfl, rfl, rfl, rfl⟩ rfl rfl ?_
       refine wa_no (i := 6) (d := 90) 4 rfl (by kernel_rfl) (by kernel_rfl) (by kernel_rfl) ⟨_, _, _, rfl, rfl, rfl, rfl⟩ rfl rfl ?_
       refine wa_no (i := 7) (d := 91) 3 rfl (by kernel_rfl) (by kernel_rfl) (by kernel_rfl) ⟨_, _, _, rfl, rfl, rfl, rfl⟩ rfl rfl ?_
       refine wa_no (i := 8) (d := 92) 2 rfl (by kernel_rfl) (by kernel_rfl) (by kernel_rfl) ⟨_, _, _, rfl, rfl, rfl, rfl⟩ rfl rfl ?_
       refine wa_no (i := 9) (d := 93) 1 rfl (by kernel_rfl) (by kernel_rfl) (by kernel_rfl) ⟨_, _, _, rfl, rfl, rfl, rfl⟩ rfl rfl ?_
       refine wap 10 0 rfl (by kernel_rfl) rfl rfl rfl (fun w49 => run_pickF rfl rfl rfl) ?_
       refine wa_end (by kernel_rfl) (fun w50 S61 => ?_)
       refine nmk [2, 6, 7, 94] rfl (nm_thn (ws_condFN Normal__n111 rfl rfl rfl (ws_exit rfl rfl (nmk [6, 7] rfl ?_))))
       refine nm_thn (ws_seqN Normal__n115 Normal__n116 rfl rfl rfl (ws_region rfl (wlm 0 1 rfl rfl rfl rfl rfl rfl rfl (wlm 1 2 rfl rfl rfl rfl rfl rfl rfl ?_))))
       refine wla 2 3 rfl rfl rfl rfl rfl rfl rfl (wla 3 4 rfl rfl rfl rfl rfl rfl rfl (wl_end rfl (nmk [4, 5] rfl (nm_thn ?_))))
       refine ws_ret hC [_, _] rfl rfl ⟨rfl, rfl, trivial⟩ ?_
       refine ⟨_, rfl, _, (hle16.trans hle17).trans hle18, (S61.pick [] [] (by decide) trivial), ?_⟩
       exact ⟨z5, _, _, _, ys, rfl, h5, hd5, ⟨hnf6, hst6, hid6, fun h0 => (by first | exact of_decide_eq_false hb94 | omega), by omega, by omega⟩⟩
end Go.Proofs.Ytomcgmialkdcbaa
namespace Go.Proofs.Ytomcgmialkdcbaa
open Go.ChangeShapes Go.WideShapes Go.ChangeAt Go.RowKit
theorem bb_go {s : List Int × List Int} {q w : List Int} {k : Nat} (h : bbR s k = (q, w)) : bbR s (k + 1) = if ga q (k + 1) < ga q k then (swL q k, w ++ [(k : Int) + 1]) else (q, w) := by
 rw [bbR_go, h]; rfl
def NormalE (n : Int) (w : List Int) (u : Value) (M : Hp) : Prop := ∃ z A c vs l, u = tup [.int .i64 z, .slice A vs.length c, .int .i64 (checkI n [w])] ∧ RdA (cdV 22) M A c vs ∧ Rd2 cdInt M vs (l.map fun p => p.drop 1) ∧ (checkI n [w] ≠ 0 → z = 0 ∧ l = []) ∧ (checkI n [w] = 0 → Nf n.toNat w z l)
theorem map_take1 {α β : Type} [Inhabited α] [Inhabited β] (f : α → β) (l : List α) {k : Nat} (h : k < l.length) : (l.take k).map f ++ [f (ga l k)] = (l.take (k + 1)).map f := by
 rw [take_ga _ _ h, List.map_append]; rfl
theorem PL.memI {n : Nat} {p : List Int} (h : PL n (0 :: p)) {i : Nat} (h1 : 1 ≤ i) (h2 : i ≤ n) : (i : Int) ∈ p := by
 have := h.mem_ h1 h2
 rcases List.mem_cons.1 this with e | e
 ·omega
 ·exact e
noncomputable def PermWord_n0 : Code := Try.f14.body.getD .skip
noncomputable def PermWord_n1 : Code := cL PermWord_n0
noncomputable def PermWord_n2 : Code := cR PermWord_n0
noncomputable def PermWord_n3 : Code := cL PermWord_n2
noncomputable def PermWord_n4 : Code := cR PermWord_n2
noncomputable def PermWord_n5 : Code := cL PermWord_n4
noncomputable def PermWord_n6 : Code := cR PermWord_n4
noncomputable def PermWord_n7 : Code := cL PermWord_n6
noncomputable def PermWord_n8 : Code := cR PermWord_n6
noncomputable def PermWord_n9 : Code := cL PermWord_n7
noncomputable def PermWord_n10 : Code := cR PermWord_n7
noncomputable def PermWord_n11 : Code := cL PermWord_n10
noncomputable def PermWord_n12 : Code := cL PermWord_n11
noncomputable def PermWord_n13 : Code := cL PermWord_n12
noncomputable def PermWord_n14 : Code := cR PermWord_n12
noncomputable def PermWord_n15 : Code := cL PermWord_n13
noncomputable def PermWord_n16 : Code := cR PermWord_n13
noncomputable def PermWord_n17 : Code := cL PermWord_n16
noncomputable def PermWord_n18 : Code := cR PermWord_n16
noncomputable def PermWord_n19 : Code := cL PermWord_n14
noncomputable def PermWord_n20 : Code := cR PermWord_n14
noncomputable def PermWord_n21 : Code := cL PermWord_n19
noncomputable def PermWord_n22 : Code := cL PermWord_n21
noncomputable def PermWord_n23 : Code := cR PermWord_n21
noncomputable def PermWord_n24 : Code := cL PermWord_n23
noncomputable def PermWord_n25 : Code := cL PermWord_n24
noncomputable def PermWord_n26 : Code := cL PermWord_n25
noncomputable def PermWord_n27 : Code := cR PermWord_n25
noncomputable def PermWord_n28 : Code := cL PermWord_n26
noncomputable def PermWord_n29 : Code := cR PermWord_n26
noncomputable def PermWord_n30 : Code := cL PermWord_n29
noncomputable def PermWord_n31 : Code := cR PermWord_n29
noncomputable def PermWord_n32 : Code := cL PermWord_n27
noncomputable def PermWord_n33 : Code := cR PermWord_n27
noncomputable def PermWord_n34 : Code := cL PermWord_n32
noncomputable def PermWord_n35 : Code := cL PermWord_n34
noncomputable def PermWord_n36 : Code := cR PermWord_n34
noncomputable def PermWord_n37 : Code := cL PermWord_n36
noncomputable def PermWord_n38 : Code := cR PermWord_n36
noncomputable def PermWord_n39 : Code := cL PermWord_n37
noncomputable def PermWord_n40 : Code := cR PermWord_n37
noncomputable def PermWord_n41 : Code := cL PermWord_n8
noncomputable def PermWord_n42 : Code := cR PermWord_n8
set_option maxRecDepth 10000 in
theorem PermWord_t {w : World} {M : Hp} {X : Fr} (p : List Int) {pA : Option Addr} {pc : Nat} (hp : RdA cdInt (M.un X.h) pA pc p) (hp6 : p.length ≤ 6) (S : SH w M X []) : Ct Try.prog 14 [.slice pA p.length pc] w M X (IsE (pmW p)) := by
 unfold Ct
 have rmhp : p.length * 8 ≤ 140737488355328 := hp.room
 refine calls_in (b := PermWord_n0) Try.func14 rfl Try.ntmps14 rfl (fun C hC => (ws_sub [(0, _)] ⟨rfl, trivial⟩ (ws_seqN PermWord_n1 PermWord_n2 rfl rfl rfl (ws_region rfl (wla 0 1 rfl rfl rfl rfl rfl rfl rfl ?_)))))
 refine wl_end rfl (nmk [0] rfl (nm_thn (ws_seqN PermWord_n3 PermWord_n4 rfl rfl rfl (ws_region rfl ?_))))
 refine wlm 0 1 rfl rfl rfl rfl rfl rfl rfl ?_
 have S1 := S.nilrow cdInt; clear S
 refine wlo 1 2 rfl rfl rfl (wo_appendM (C := cdInt) (i := 0) rfl rfl rfl rfl rfl rfl rfl rfl sl22 S1 rfl hp S1.um (by have h : _ * 8 ≤ _ := hp.room; show (0 + _) * 8 ≤ _; first | omega | (simp only [lens]; omega)) ?_)
 intro vr2 w1 S2; clear S1
 change SH _ _ _ [Rs.row cdInt vr2 p] at S2
 refine wla 2 3 rfl rfl rfl rfl rfl rfl rfl (wl_end rfl (nmk [3] rfl (nm_thn (ws_seqN PermWord_n5 PermWord_n6 rfl rfl rfl ?_))))
 refine ws_region rfl (wla 0 1 rfl rfl rfl rfl rfl rfl rfl (wl_end rfl (nm_thn (ws_seqN PermWord_n7 PermWord_n8 rfl rfl rfl ?_))))
 refine ws_seqN PermWord_n9 PermWord_n10 rfl rfl rfl (ws_region rfl (wla 0 1 rfl rfl rfl rfl rfl rfl rfl (wl_end rfl (nm_thn ?_))))
 refine ws_blockN PermWord_n11 0 rfl rfl rfl ?_
 have S3 := S2.nilrow cdInt; clear S2
 refine ws_loopE (fun mx_ ax_ wx_ => ∃ (j : Nat) (at1 : List Int) (w1 : List Int) (vra : Value) (vrw : Value), mx_ = p.length - j ∧ Env 54 [(3, vra), (4, vrw), (5, .int .i64 (j : Int))] ax_ ∧ SH wx_ M X [Rs.row cdInt vrw w1, Rs.row cdInt vra at1] ∧ j ≤ p.length ∧ bbP p j = (at1, w1) ∧ at1.length = p.length ∧ w1.length ≤ 6 * j) rfl ?_ ?_
 ·intro ax_ hax_
  refine ⟨_, ⟨0, p, [], _, _, rfl, hax_.sub ⟨rfl, rfl, rfl, trivial⟩, S3.pick [0, 1] [_, _] (by decide) ⟨rfl, rfl, trivial⟩, ?hq1f0, ?hq1f1, ?hq1f2, ?hq1f3⟩⟩
  case hq1f0 => omega
  case hq1f1 => rfl
  case hq1f2 => rfl
  case hq1f3 => exact Nat.le_refl _
 ·rintro m1 a1 w2 ⟨j, at1, w1, vra, vrw, rfl, he1, S4, hj, hbb, hal, hwl⟩
  clear S3
  refine ws_in he1 (c := PermWord_n12) rfl ?_
  clear he1 a1
  refine ws_seqN PermWord_n13 PermWord_n14 rfl rfl rfl (ws_seqN PermWord_n15 PermWord_n16 rfl rfl rfl (ws_region rfl (wlm 0 1 rfl rfl rfl rfl rfl rfl rfl (wlm 1 2 rfl rfl rfl rfl rfl rfl rfl ?_))))
  refine wlo 2 3 rfl rfl rfl (wo_run rfl rfl (run_lenR (C := cdInt) (i := 1) rfl rfl rfl rfl rfl rfl sl22 S4 rfl) (wlo 3 4 rfl rfl rfl (wo_run rfl rfl (run_lss rfl rfl rfl) (wl_end rfl (nmk [3, 4, 5, 12] rfl (nm_thn ?_))))))
  refine ws_condN PermWord_n17 PermWord_n18 rfl rfl rfl rfl (fun hb12 => ?_) (fun hb12 => ?_)
  ·replace hb12 := of_decide_eq_true hb12
   refine ws_skip rfl (nmk [3, 4, 5] rfl (nm_thn (ws_seqN PermWord_n19 PermWord_n20 rfl rfl rfl (ws_blockN PermWord_n21 1 rfl rfl rfl ?_))))
   refine ws_seqN PermWord_n22 PermWord_n23 rfl rfl rfl (ws_region rfl (wla 0 1 rfl rfl rfl rfl rfl rfl rfl (wl_end rfl (nm_thn ?_))))
   refine ws_blockN PermWord_n24 2 rfl rfl rfl ?_
   refine ws_loopE (fun mx_ ax_ wx_ => ∃ (i : Nat) (at2 : List Int) (w2 : List Int) (vrb : Value) (vrx : Value), mx_ = p.length - 1 - i ∧ Env 54 [(3, vrb), (4, vrx), (5, .int .i64 (j : Int)), (6, .int .i64 (i : Int))] ax_ ∧ SH wx_ M X [Rs.row cdInt vrx w2, Rs.row cdInt vrb at2] ∧ i ≤ p.length - 1 ∧ bbR (at1, w1) i = (at2, w2) ∧ at2.length = p.length ∧ w2.length ≤ 6 * j + i) rfl ?_ ?_
   ·intro ax_ hax_
    refine ⟨_, ⟨0, at1, w1, _, _, rfl, hax_.sub ⟨rfl, rfl, rfl, rfl, trivial⟩, S4.pick [0, 1] [_, _] (by decide) ⟨rfl, rfl, trivial⟩, ?hq2f0, ?hq2f1, ?hq2f2, ?hq2f3⟩⟩
    case hq2f0 => omega
    case hq2f1 => rfl
    case hq2f2 => exact hal
    case hq2f3 => omega
   ·rintro m2 a2 w3 ⟨i, at2, w2, vrb, vrx, rfl, he2, S5, hi, hbr, hal2, hwl2⟩
    clear S4
    refine ws_in he2 (c := PermWord_n25) rfl ?_
    clear he2 a2
    refine ws_seqN PermWord_n26 PermWord_n27 rfl rfl rfl (ws_seqN PermWord_n28 PermWord_n29 rfl rfl rfl (ws_region rfl (wlm 0 1 rfl rfl rfl rfl rfl rfl rfl (wlo 1 2 rfl rfl rfl (wo_run rfl rfl (run_add rfl rfl rfl (by first | omega | (simp only [lens]; omega))) ?_)))))
    refine wlm 2 3 rfl rfl rfl rfl rfl rfl rfl (wlo 3 4 rfl rfl rfl (wo_run rfl rfl (run_lenR (C := cdInt) (i := 1) rfl rfl rfl rfl rfl rfl sl22 S5 rfl) (wlo 4 5 rfl rfl rfl (wo_run rfl rfl (run_lss rfl rfl rfl) (wl_end rfl (nmk [3, 4, 5, 6, 19] rfl ?_))))))
    refine nm_thn ?_
    refine ws_condN PermWord_n30 PermWord_n31 rfl rfl rfl rfl (fun hb19 => ?_) (fun hb19 => ?_)
    ·replace hb19 := of_decide_eq_true hb19
     refine ws_skip rfl (nmk [3, 4, 5, 6] rfl (nm_thn (ws_seqN PermWord_n32 PermWord_n33 rfl rfl rfl (ws_blockN PermWord_n34 3 rfl rfl rfl ?_))))
     refine ws_seqN PermWord_n35 PermWord_n36 rfl rfl rfl (ws_draw rfl (by kernel_rfl) S5 10 rfl ?_)
     clear S5
     refine wap 0 9 rfl (by kernel_rfl) rfl rfl rfl (fun w4 => run_move rfl rfl) ?_
     refine wap 1 8 rfl (by kernel_rfl) rfl rfl rfl (fun w5 => run_move rfl rfl) ?_
     refine wat 2 7 rfl (by kernel_rfl) rfl rfl rfl (fun M3 N3 w6 hle5 S8 => .inl (run_indexR (C := cdInt) (i := 1) i rfl rfl rfl sl22 S8.suf rfl (by first | rfl | omega) (by first | omega | (simp only [lens]; omega)))) ?_
     refine wat 3 6 rfl (by kernel_rfl) rfl rfl rfl (fun M4 N4 w7 hle6 S9 => .inl (run_load1 rfl rfl Try.underlying3 rfl (S9.suf.rowc (i := 1) (e := i) (j := 0) rfl (by first | omega | (simp only [lens]; omega)) rfl rfl))) ?_
     refine wap 4 5 rfl (by kernel_rfl) rfl rfl rfl (fun w8 => run_move rfl rfl) ?_
     refine wap 5 4 rfl (by kernel_rfl) rfl rfl rfl (fun w9 => run_move rfl rfl) ?_
     refine wap 6 3 rfl (by kernel_rfl) rfl rfl rfl (fun w10 => run_add rfl rfl rfl (by first | omega | (simp only [lens]; omega))) ?_
     refine wat 7 2 rfl (by kernel_rfl) rfl rfl rfl (fun M8 N8 w11 hle10 S13 => .inl (run_indexR (C := cdInt) (i := 1) (i + 1) rfl rfl rfl sl22 S13.suf rfl (by first | rfl | omega) (by first | omega | (simp only [lens]; omega)))) ?_
     refine wat 8 1 rfl (by kernel_rfl) rfl rfl rfl (fun M9 N9 w12 hle11 S14 => .inl (run_load1 rfl rfl Try.underlying3 rfl (S14.suf.rowc (i := 1) (e := i + 1) (j := 0) rfl (by first | omega | (simp only [lens]; omega)) rfl rfl))) ?_
     refine wap 9 0 rfl (by kernel_rfl) rfl rfl rfl (fun w13 => run_gtr rfl rfl rfl) ?_
     refine wa_end (by kernel_rfl) (fun w14 S16 => ?_)
     refine nmk [3, 4, 5, 6, 31] rfl (nm_thn ?_)
     refine ws_condN PermWord_n37 PermWord_n38 rfl rfl rfl rfl (fun hb31 => ?_) (fun hb31 => ?_)
     ·replace hb31 := of_decide_eq_true hb31
      refine ws_seqN PermWord_n39 PermWord_n40 rfl rfl rfl (ws_draw rfl (by kernel_rfl) S16 18 rfl ?_)
      clear S16
      refine wap 0 17 rfl (by kernel_rfl) rfl rfl rfl (fun w15 => run_move rfl rfl) ?_
      refine wap 1 16 rfl (by kernel_rfl) rfl rfl rfl (fun w16 => run_move rfl rfl) ?_
      refine wap 2 15 rfl (by kernel_rfl) rfl rfl rfl (fun w17 => run_move rfl rfl) ?_
      refine wap 3 14 rfl (by kernel_rfl) rfl rfl rfl (fun w18 => run_move rfl rfl) ?_
      refine wap 4 13 rfl (by kernel_rfl) rfl rfl rfl (fun w19 => run_add rfl rfl rfl (by first | omega | (simp only [lens]; omega))) ?_
      refine wap 5 12 rfl (by kernel_rfl) rfl rfl rfl (fun w20 => run_move rfl rfl) ?_
      refine wap 6 11 rfl (by kernel_rfl) rfl rfl rfl (fun w21 => run_move rfl rfl) ?_
      refine wap 7 10 rfl (by kernel_rfl) rfl rfl rfl (fun w22 => run_add rfl rfl rfl (by first | omega | (simp only [lens]; omega))) ?_
      refine wat 8 9 rfl (by kernel_rfl) rfl rfl rfl (fun M19 N19 w23 hle21 S25 => .inl (run_indexR (C := cdInt) (i := 1) (i + 1) rfl rfl rfl sl22 S25.suf rfl (by first | rfl | omega) (by first | omega | (simp only [lens]; omega)))) ?_
      refine wat 9 8 rfl (by kernel_rfl) rfl rfl rfl (fun M20 N20 w24 hle22 S26 => .inl (run_load1 rfl rfl Try.underlying3 rfl (S26.suf.rowc (i := 1) (e := i + 1) (j := 0) rfl (by first | omega | (simp only [lens]; omega)) rfl rfl))) ?_
      refine wap 10 7 rfl (by kernel_rfl) rfl rfl rfl (fun w25 => run_move rfl rfl) ?_
      refine wap 11 6 rfl (by kernel_rfl) rfl rfl rfl (fun w26 => run_move rfl rfl) ?_
      refine wat 12 5 rfl (by kernel_rfl) rfl rfl rfl (fun M23 N23 w27 hle25 S29 => .inl (run_indexR (C := cdInt) (i := 1) i rfl rfl rfl sl22 S29.suf rfl (by first | rfl | omega) (by first | omega | (simp only [lens]; omega)))) ?_
      refine wat 13 4 rfl (by kernel_rfl) rfl rfl rfl (fun M24 N24 w28 hle26 S30 => .inl (run_load1 rfl rfl Try.underlying3 rfl (S30.suf.rowc (i := 1) (e := i) (j := 0) rfl (by first | omega | (simp only [lens]; omega)) rfl rfl))) ?_
      refine wat 14 3 rfl (by kernel_rfl) rfl rfl rfl (fun M25 N25 w29 hle27 S31 => .inl (run_indexR (C := cdInt) (i := 1) i rfl rfl rfl sl22 S31.suf rfl (by first | rfl | omega) (by first | omega | (simp only [lens]; omega)))) ?_
      refine wa_only (i := 15) 2 rfl (by kernel_rfl) rfl rfl (fun w31 S33 => ?_)
      refine (wo_storeR (C := cdInt) (i := 1) (e := i) (j := 0) (us := [_]) (H' := [_, _]) (ga at2 (i + 1)) rfl rfl S33 rfl (by first | omega | (simp only [lens]; omega)) rfl rfl rfl sz3 rfl rfl rfl rfl ?_)
      intro w32 S34; clear S33
      refine LeftW.turn (by kernel_rfl) S34 ?_; clear S34
      change WA _ _ _ _ _ _ _ _ _ _ _ _ [_, _]
      refine wat 16 1 rfl (by kernel_rfl) rfl rfl rfl (fun M27 N27 w33 hle29 S35 => .inl (run_indexR (C := cdInt) (i := 1) (i + 1) rfl rfl rfl sl22 S35.suf rfl (by first | rfl | omega) (by first | omega | (simp only [lens]; omega)))) ?_
      refine wa_only (i := 17) 0 rfl (by kernel_rfl) rfl rfl (fun w35 S37 => ?_)
      refine (wo_storeR (C := cdInt) (i := 1) (e := i + 1) (j := 0) (us := [_]) (H' := [_, _]) (ga at2 i) rfl rfl S37 rfl (by first | omega | (simp only [lens]; omega)) rfl rfl rfl sz3 rfl rfl rfl rfl ?_)
      intro w36 S38; clear S37
      refine LeftW.turn (by kernel_rfl) S38 ?_; clear S38
      change WA _ _ _ _ _ _ _ _ _ _ _ _ [_, _]
      refine wa_end (by kernel_rfl) (fun w37 S39 => ?_)
      refine nmk [3, 4, 5, 6] rfl (nm_thn (ws_region rfl (wlm 0 1 rfl rfl rfl rfl rfl rfl rfl (wlm 1 2 rfl rfl rfl rfl rfl rfl rfl ?_))))
      refine wlo 2 3 rfl rfl rfl (wo_run rfl rfl (run_add rfl rfl rfl (by first | omega | (simp only [lens]; omega))) ?_)
      refine wlo 3 4 rfl rfl rfl (wo_buildSlice1 (C := cdInt) (l := [_]) rfl rfl rfl rfl sl22 rfl rfl rfl rfl S39 ?_)
      intro gb1 w38 S40; clear S39
      refine wlo 4 5 rfl rfl rfl (wo_append1 (C := cdInt) (i := 1) (q := 0) ((i : Int) + 1) rfl rfl rfl rfl rfl rfl rfl rfl sl22 S40 rfl rfl rfl (by show (_ + 1) * 8 ≤ _; first | omega | (simp only [lens]; omega)) ?_)
      intro vrx1 w39 S41; clear S40
      have S42 := S41.pick [1, 2] [_, _] (by decide) ⟨rfl, rfl, trivial⟩; clear S41
      refine wla 5 6 rfl rfl rfl rfl rfl rfl rfl (wl_end rfl (nm_blk (nmk [3, 4, 5, 6] rfl (nm_thn ?_))))
      refine ws_region rfl (wlm 0 1 rfl rfl rfl rfl rfl rfl rfl (wlo 1 2 rfl rfl rfl (wo_run rfl rfl (run_add rfl rfl rfl (by first | omega | (simp only [lens]; omega))) ?_)))
      refine wla 2 3 rfl rfl rfl rfl rfl rfl rfl (wl_end rfl (nm_lp ?_))
      intro ax_ hax_
      refine ⟨_, ?hq3m, ⟨i + 1, swL at2 i, w2 ++ [(i : Int) + 1], _, _, rfl, hax_.sub ⟨rfl, rfl, rfl, rfl, trivial⟩, S42.pick [0, 1] [_, _] (by decide) ⟨rfl, rfl, trivial⟩, ?hq3f0, ?hq3f1, ?hq3f2, ?hq3f3⟩⟩
      case hq3f0 => omega
      case hq3f1 => (rw [bb_go hbr, if_pos hb31])
      case hq3f2 => (rw [swL_len]; exact hal2)
      case hq3f3 => (rw [List.length_append, List.length_singleton]; omega)
      case hq3m => omega
     ·replace hb31 := of_decide_eq_false hb31
      refine ws_skip rfl (nm_blk (nmk [3, 4, 5, 6] rfl (nm_thn (ws_region rfl ?_))))
      refine wlm 0 1 rfl rfl rfl rfl rfl rfl rfl (wlo 1 2 rfl rfl rfl (wo_run rfl rfl (run_add rfl rfl rfl (by first | omega | (simp only [lens]; omega))) ?_))
      refine wla 2 3 rfl rfl rfl rfl rfl rfl rfl (wl_end rfl (nm_lp ?_))
      intro ax_ hax_
      refine ⟨_, ?hq4m, ⟨i + 1, at2, w2, _, _, rfl, hax_.sub ⟨rfl, rfl, rfl, rfl, trivial⟩, S16.pick [0, 1] [_, _] (by decide) ⟨rfl, rfl, trivial⟩, ?hq4f0, ?hq4f1, ?hq4f2, ?hq4f3⟩⟩
      case hq4f0 => omega
      case hq4f1 => (rw [bb_go hbr, if_neg hb31])
      case hq4f2 => exact hal2
      case hq4f3 => omega
      case hq4m => omega
    ·replace hb19 := of_decide_eq_false hb19
     refine ws_exit rfl rfl (nm_blk (nmk [3, 4, 5] rfl (nm_thn (ws_region rfl ?_))))
     refine wlm 0 1 rfl rfl rfl rfl rfl rfl rfl (wlo 1 2 rfl rfl rfl (wo_run rfl rfl (run_add rfl rfl rfl (by first | omega | (simp only [lens]; omega))) ?_))
     refine wla 2 3 rfl rfl rfl rfl rfl rfl rfl (wl_end rfl (nm_lp ?_))
     intro ax_ hax_
     refine ⟨_, ?hq5m, ⟨j + 1, at2, w2, _, _, rfl, hax_.sub ⟨rfl, rfl, rfl, trivial⟩, S5.pick [0, 1] [_, _] (by decide) ⟨rfl, rfl, trivial⟩, ?hq5f0, ?hq5f1, ?hq5f2, ?hq5f3⟩⟩
     case hq5f0 => omega
     case hq5f1 => (rw [bbP, hbb, show p.length - 1 = i by omega]; exact hbr)
     case hq5f2 => exact hal2
     case hq5f3 => omega
     case hq5m => omega
  ·replace hb12 := of_decide_eq_false hb12
   refine ws_exit rfl rfl (nmk [4] rfl (nm_thn (ws_seqN PermWord_n41 PermWord_n42 rfl rfl rfl (ws_region rfl ?_))))
   refine wlm 0 1 rfl rfl rfl rfl rfl rfl rfl (wla 1 2 rfl rfl rfl rfl rfl rfl rfl (wl_end rfl (nmk [2] rfl (nm_thn ?_))))
   obtain ⟨M29, hle31, S43, ⟨A1, c1, e1, hr1⟩⟩ := S4.pubrow (i := 0) (H' := [_, _]) rfl rfl (by show _ * 8 ≤ _; first | omega | (simp only [lens]; omega))
   clear S4; subst e1
   replace hp := hp.mono (Hp.un_mono hle31 S43.mx)
   refine ws_ret hC [_] rfl rfl ⟨rfl, trivial⟩ ?_
   refine ⟨_, rfl, _, hle31, (S43.pick [] [] (by decide) trivial), ?_⟩
   have e : w1 = pmW p := by unfold pmW; rw [show p.length = j by omega, hbb]
   rw [e] at hr1
   rw [e]
   exact ⟨_, _, rfl, hr1⟩
noncomputable def within_n0 : Code := Try.f31.body.getD .skip
noncomputable def within_n1 : Code := cL within_n0
noncomputable def within_n2 : Code := cR within_n0
noncomputable def within_n3 : Code := cL within_n2
noncomputable def within_n4 : Code := cR within_n2
noncomputable def within_n5 : Code := cL within_n3
noncomputable def within_n6 : Code := cR within_n3
noncomputable def within_n7 : Code := cL within_n6
noncomputable def within_n8 : Code := cL within_n7
noncomputable def within_n9 : Code := cL within_n8
noncomputable def within_n10 : Code := cR within_n8
noncomputable def within_n11 : Code := cL within_n9
noncomputable def within_n12 : Code := cR within_n9
noncomputable def within_n13 : Code := cL within_n12
noncomputable def within_n14 : Code := cR within_n12
noncomputable def within_n15 : Code := cL within_n10
noncomputable def within_n16 : Code := cR within_n10
noncomputable def within_n17 : Code := cL within_n15
noncomputable def within_n18 : Code := cL within_n17
noncomputable def within_n19 : Code := cR within_n17
noncomputable def within_n20 : Code := cL within_n19
noncomputable def within_n21 : Code := cR within_n19
noncomputable def within_n22 : Code := cL within_n20
noncomputable def within_n23 : Code := cR within_n20
noncomputable def within_n24 : Code := cL within_n4
noncomputable def within_n25 : Code := cR within_n4
set_option maxRecDepth 10000 in
theorem within_q {w : World} {M : Hp} {X : Fr} (l : List Int) {lA : Option Addr} {lc : Nat} (x : Int) (hl : RdA cdInt (M.un X.h) lA lc l) (S : SH w M X []) : Cq Try.prog 31 [.slice lA l.length lc, .int .i64 x] w M X (fun u => u = .bool (l.contains x)) := by
 unfold Cq
 have rmhl : l.length * 8 ≤ 140737488355328 := hl.room
 refine calls_in (b := within_n0) Try.func31 rfl Try.ntmps31 rfl (fun C hC => (ws_sub [(0, _), (1, _)] ⟨rfl, rfl, trivial⟩ (ws_seqN within_n1 within_n2 rfl rfl rfl (ws_region rfl (wla 0 1 rfl rfl rfl rfl rfl rfl rfl ?_)))))
 refine wl_end rfl (nmk [0, 1] rfl (nm_thn (ws_seqN within_n3 within_n4 rfl rfl rfl (ws_seqN within_n5 within_n6 rfl rfl rfl ?_))))
 refine ws_region rfl (wla 0 1 rfl rfl rfl rfl rfl rfl rfl (wl_end rfl (nm_thn (ws_blockN within_n7 0 rfl rfl rfl ?_))))
 refine ws_loopE (fun mx_ ax_ wx_ => ∃ (i : Nat), mx_ = l.length - i ∧ Env 18 [(0, .slice lA l.length lc), (1, .int .i64 x), (5, .int .i64 (i : Int))] ax_ ∧ SH wx_ M X [] ∧ i ≤ l.length ∧ (∀ j, j < i → ga l j ≠ x)) rfl ?_ ?_
 ·intro ax_ hax_
  refine ⟨_, ⟨0, rfl, hax_.sub ⟨rfl, rfl, rfl, trivial⟩, S.pick [] [] (by decide) trivial, ?hq1f0, ?hq1f1⟩⟩
  case hq1f0 => omega
  case hq1f1 => (intro j hj; omega)
 ·rintro m1 a1 w1 ⟨i, rfl, he1, S1, hi, hno⟩
  clear S
  refine ws_in he1 (c := within_n8) rfl ?_
  clear he1 a1
  refine ws_seqN within_n9 within_n10 rfl rfl rfl (ws_seqN within_n11 within_n12 rfl rfl rfl (ws_region rfl (wlm 0 1 rfl rfl rfl rfl rfl rfl rfl (wlm 1 2 rfl rfl rfl rfl rfl rfl rfl ?_))))
  refine wlo 2 3 rfl rfl rfl (wo_run rfl rfl (run_len rfl rfl rfl rfl rfl rfl Try.underlying22) (wlo 3 4 rfl rfl rfl (wo_run rfl rfl (run_lss rfl rfl rfl) (wl_end rfl (nmk [0, 1, 5, 9] rfl (nm_thn ?_))))))
  refine ws_condN within_n13 within_n14 rfl rfl rfl rfl (fun hb9 => ?_) (fun hb9 => ?_)
  ·replace hb9 := of_decide_eq_true hb9
   refine ws_skip rfl (nmk [0, 1, 5] rfl (nm_thn (ws_seqN within_n15 within_n16 rfl rfl rfl (ws_blockN within_n17 1 rfl rfl rfl ?_))))
   refine ws_seqN within_n18 within_n19 rfl rfl rfl (ws_region rfl (wlm 0 1 rfl rfl rfl rfl rfl rfl rfl (wlm 1 2 rfl rfl rfl rfl rfl rfl rfl (wlo 2 3 rfl rfl rfl (wo_run rfl rfl (run_indexM (C := cdInt) i rfl rfl rfl sl22 (by first | rfl | omega) hl (by first | omega | (simp only [lens]; omega))) ?_)))))
   refine wlo 3 4 rfl rfl rfl (wo_run rfl rfl (run_load1 rfl rfl Try.underlying3 rfl (hl.cell S1.um (i := i) (by first | omega | (simp only [lens]; omega)) 0 rfl rfl)) ?_)
   refine wlm 4 5 rfl rfl rfl rfl rfl rfl rfl (wlo 5 6 rfl rfl rfl (wo_run rfl rfl (run_eql rfl rfl rfl) (wl_end rfl (nmk [0, 1, 5, 17] rfl (nm_thn ?_)))))
   refine ws_condN within_n20 within_n21 rfl rfl rfl rfl (fun hb17 => ?_) (fun hb17 => ?_)
   ·replace hb17 := of_decide_eq_true hb17
    refine ws_seqN within_n22 within_n23 rfl rfl rfl (ws_region rfl (wla 0 1 rfl rfl rfl rfl rfl rfl rfl (wl_end rfl (nmk [4] rfl ?_))))
    refine nm_thn (ws_ret hC [_] rfl rfl ⟨rfl, trivial⟩ ?_)
    exact ⟨_, rfl, (S1.pick [] [] (by decide) trivial), (by show Value.bool _ = _; refine congrArg Value.bool ?_; symm; first | (rw [List.contains_iff_mem]; exact (by assumption : ga l i = x) ▸ ga_mem (by omega)) | (rw [Bool.eq_false_iff, Ne, List.contains_iff_mem]; intro hm; obtain ⟨j, hj, e⟩ := List.mem_iff_getElem.1 hm; exact hno j (by omega) (by rw [ga_eq hj]; exact e)))⟩
   ·replace hb17 := of_decide_eq_false hb17
    refine ws_skip rfl (nm_blk (nmk [0, 1, 5] rfl (nm_thn (ws_region rfl ?_))))
    refine wlm 0 1 rfl rfl rfl rfl rfl rfl rfl (wlo 1 2 rfl rfl rfl (wo_run rfl rfl (run_add rfl rfl rfl (by first | omega | (simp only [lens]; omega))) ?_))
    refine wla 2 3 rfl rfl rfl rfl rfl rfl rfl (wl_end rfl (nm_lp ?_))
    intro ax_ hax_
    refine ⟨_, ?hq2m, ⟨i + 1, rfl, hax_.sub ⟨rfl, rfl, rfl, trivial⟩, S1.pick [] [] (by decide) trivial, ?hq2f0, ?hq2f1⟩⟩
    case hq2f0 => omega
    case hq2f1 => (intro j hj; by_cases e : j = i; (subst e; assumption); exact hno j (by omega))
    case hq2m => omega
  ·replace hb9 := of_decide_eq_false hb9
   refine ws_exit rfl rfl (nm_sub [] trivial (nm_thn (ws_seqN within_n24 within_n25 rfl rfl rfl (ws_region rfl ?_))))
   refine wla 0 1 rfl rfl rfl rfl rfl rfl rfl (wl_end rfl (nm_thn (ws_ret hC [_] rfl rfl ⟨rfl, trivial⟩ ?_)))
   exact ⟨_, rfl, (S1.pick [] [] (by decide) trivial), (by show Value.bool _ = _; refine congrArg Value.bool ?_; symm; first | (rw [List.contains_iff_mem]; exact (by assumption : ga l i = x) ▸ ga_mem (by omega)) | (rw [Bool.eq_false_iff, Ne, List.contains_iff_mem]; intro hm; obtain ⟨j, hj, e⟩ := List.mem_iff_getElem.1 hm; exact hno j (by omega) (by rw [ga_eq hj]; exact e)))⟩
noncomputable def PermIs_n0 : Code := Try.f17.body.getD .skip
noncomputable def PermIs_n1 : Code := cL PermIs_n0
noncomputable def PermIs_n2 : Code := cR PermIs_n0
noncomputable def PermIs_n3 : Code := cL PermIs_n2
noncomputable def PermIs_n4 : Code := cR PermIs_n2
noncomputable def PermIs_n5 : Code := cL PermIs_n3
noncomputable def PermIs_n6 : Code := cR PermIs_n3
noncomputable def PermIs_n7 : Code := cL PermIs_n6
noncomputable def PermIs_n8 : Code := cR PermIs_n6
noncomputable def PermIs_n9 : Code := cL PermIs_n4
noncomputable def PermIs_n10 : Code := cR PermIs_n4
noncomputable def PermIs_n11 : Code := cL PermIs_n9
noncomputable def PermIs_n12 : Code := cR PermIs_n9
noncomputable def PermIs_n13 : Code := cL PermIs_n12
noncomputable def PermIs_n14 : Code := cL PermIs_n13
noncomputable def PermIs_n15 : Code := cL PermIs_n14
noncomputable def PermIs_n16 : Code := cR PermIs_n14
noncomputable def PermIs_n17 : Code := cL PermIs_n15
noncomputable def PermIs_n18 : Code := cR PermIs_n15
noncomputable def PermIs_n19 : Code := cL PermIs_n18
noncomputable def PermIs_n20 : Code := cR PermIs_n18
noncomputable def PermIs_n21 : Code := cL PermIs_n16
noncomputable def PermIs_n22 : Code := cR PermIs_n16
noncomputable def PermIs_n23 : Code := cL PermIs_n21
noncomputable def PermIs_n24 : Code := cL PermIs_n23
noncomputable def PermIs_n25 : Code := cR PermIs_n23
noncomputable def PermIs_n26 : Code := cL PermIs_n25
noncomputable def PermIs_n27 : Code := cR PermIs_n25
noncomputable def PermIs_n28 : Code := cL PermIs_n10
noncomputable def PermIs_n29 : Code := cR PermIs_n10
set_option maxRecDepth 10000 in
theorem PermIs_q {w : World} {M : Hp} {X : Fr} (n : Nat) (p : List Int) {pA : Option Addr} {pc : Nat} (hp : RdA cdInt (M.un X.h) pA pc p) (hP : PL n (0 :: p)) (hn : n ≤ 6) (S : SH w M X []) : Cq Try.prog 17 [.int .i64 (n : Int), .slice pA p.length pc] w M X (fun u => u = .bool true) := by
 unfold Cq
 have rmhp : p.length * 8 ≤ 140737488355328 := hp.room
 have hpl : p.length = n := by have := hP.len; simpa using this
 refine calls_in (b := PermIs_n0) Try.func17 rfl Try.ntmps17 rfl (fun C hC => (ws_sub [(0, _), (1, _)] ⟨rfl, rfl, trivial⟩ (ws_seqN PermIs_n1 PermIs_n2 rfl rfl rfl (ws_region rfl (wla 0 1 rfl rfl rfl rfl rfl rfl rfl ?_)))))
 refine wl_end rfl (nmk [0, 1] rfl (nm_thn (ws_seqN PermIs_n3 PermIs_n4 rfl rfl rfl (ws_seqN PermIs_n5 PermIs_n6 rfl rfl rfl ?_))))
 refine ws_region rfl (wlm 0 1 rfl rfl rfl rfl rfl rfl rfl (wlo 1 2 rfl rfl rfl (wo_run rfl rfl (run_len rfl rfl rfl rfl rfl rfl Try.underlying22) (wlm 2 3 rfl rfl rfl rfl rfl rfl rfl (wlo 3 4 rfl rfl rfl (wo_run rfl rfl (run_neq rfl rfl rfl) ?_))))))
 refine wl_end rfl (nmk [0, 1, 9] rfl (nm_thn ?_))
 refine ws_condN PermIs_n7 PermIs_n8 rfl rfl rfl rfl (fun hb9 => ?_) (fun hb9 => ?_)
 ·replace hb9 := of_decide_eq_true hb9
  exfalso; omega
 ·replace hb9 := of_decide_eq_false hb9
  refine ws_skip rfl (nmk [0, 1] rfl (nm_thn (ws_seqN PermIs_n9 PermIs_n10 rfl rfl rfl (ws_seqN PermIs_n11 PermIs_n12 rfl rfl rfl ?_))))
  refine ws_region rfl (wla 0 1 rfl rfl rfl rfl rfl rfl rfl (wl_end rfl (nm_thn (ws_blockN PermIs_n13 0 rfl rfl rfl ?_))))
  refine ws_loopE (fun mx_ ax_ wx_ => ∃ (x : Nat), mx_ = n - x ∧ Env 19 [(0, .int .i64 (n : Int)), (1, .slice pA p.length pc), (5, .int .i64 ((x + 1 : Nat) : Int))] ax_ ∧ SH wx_ M X [] ∧ x ≤ n) rfl ?_ ?_
  ·intro ax_ hax_
   refine ⟨_, ⟨0, rfl, hax_.sub ⟨rfl, rfl, rfl, trivial⟩, S.pick [] [] (by decide) trivial, ?hq1f0⟩⟩
   case hq1f0 => omega
  ·rintro m1 a1 w1 ⟨x, rfl, he1, S1, hx⟩
   clear S
   refine ws_in he1 (c := PermIs_n14) rfl ?_
   clear he1 a1
   refine ws_seqN PermIs_n15 PermIs_n16 rfl rfl rfl (ws_seqN PermIs_n17 PermIs_n18 rfl rfl rfl (ws_region rfl (wlm 0 1 rfl rfl rfl rfl rfl rfl rfl (wlm 1 2 rfl rfl rfl rfl rfl rfl rfl ?_))))
   refine wlo 2 3 rfl rfl rfl (wo_run rfl rfl (run_leq rfl rfl rfl) (wl_end rfl (nmk [0, 1, 5, 12] rfl (nm_thn ?_))))
   refine ws_condN PermIs_n19 PermIs_n20 rfl rfl rfl rfl (fun hb12 => ?_) (fun hb12 => ?_)
   ·replace hb12 := of_decide_eq_true hb12
    refine ws_skip rfl (nmk [0, 1, 5] rfl (nm_thn (ws_seqN PermIs_n21 PermIs_n22 rfl rfl rfl (ws_blockN PermIs_n23 1 rfl rfl rfl ?_))))
    refine ws_seqN PermIs_n24 PermIs_n25 rfl rfl rfl (ws_region rfl (wlm 0 1 rfl rfl rfl rfl rfl rfl rfl (wlm 1 2 rfl rfl rfl rfl rfl rfl rfl (wlo 2 3 rfl rfl rfl (wo_cq rfl rfl rfl rfl rfl rfl rfl cf31 S1 (within_q p ((x + 1 : Nat) : Int) (hp.mono S1.un_XH) S1.lend) ?_)))))
    rintro _ w2 S2 rfl; clear S1
    refine wlo 3 4 rfl rfl rfl (wo_run rfl rfl (run_not rfl rfl) (wl_end rfl (nmk [0, 1, 5, 18] rfl (nm_thn ?_))))
    refine ws_condN PermIs_n26 PermIs_n27 rfl rfl rfl rfl (fun hb18 => ?_) (fun hb18 => ?_)
    ·simp only [Bool.and_eq_true, Bool.or_eq_true, Bool.and_eq_false_iff, Bool.or_eq_false_iff, decide_eq_true_eq, decide_eq_false_iff_not, Bool.not_eq_true', Bool.not_eq_false'] at hb18
     exfalso; exact absurd (List.contains_iff_mem.2 (hP.memI (i := x + 1) (by omega) (by omega))) (by simpa using hb18)
    ·simp only [Bool.and_eq_true, Bool.or_eq_true, Bool.and_eq_false_iff, Bool.or_eq_false_iff, decide_eq_true_eq, decide_eq_false_iff_not, Bool.not_eq_true', Bool.not_eq_false'] at hb18
     refine ws_skip rfl (nm_blk (nmk [0, 1, 5] rfl (nm_thn (ws_region rfl ?_))))
     refine wlm 0 1 rfl rfl rfl rfl rfl rfl rfl (wlo 1 2 rfl rfl rfl (wo_run rfl rfl (run_add rfl rfl rfl (by first | omega | (simp only [lens]; omega))) ?_))
     refine wla 2 3 rfl rfl rfl rfl rfl rfl rfl (wl_end rfl (nm_lp ?_))
     intro ax_ hax_
     refine ⟨_, ?hq2m, ⟨x + 1, rfl, hax_.sub ⟨rfl, rfl, rfl, trivial⟩, S2.pick [] [] (by decide) trivial, ?hq2f0⟩⟩
     case hq2f0 => omega
     case hq2m => omega
   ·replace hb12 := of_decide_eq_false hb12
    refine ws_exit rfl rfl (nm_sub [] trivial (nm_thn (ws_seqN PermIs_n28 PermIs_n29 rfl rfl rfl (ws_region rfl ?_))))
    refine wla 0 1 rfl rfl rfl rfl rfl rfl rfl (wl_end rfl (nm_thn (ws_ret hC [_] rfl rfl ⟨rfl, trivial⟩ ?_)))
    exact ⟨_, rfl, (S1.pick [] [] (by decide) trivial), rfl⟩
noncomputable def Normal_n0 : Code := Try.f5.body.getD .skip
noncomputable def Normal_n1 : Code := cL Normal_n0
noncomputable def Normal_n2 : Code := cR Normal_n0
noncomputable def Normal_n3 : Code := cL Normal_n2
noncomputable def Normal_n4 : Code := cR Normal_n2
noncomputable def Normal_n5 : Code := cL Normal_n3
noncomputable def Normal_n6 : Code := cR Normal_n3
noncomputable def Normal_n7 : Code := cL Normal_n6
noncomputable def Normal_n8 : Code := cR Normal_n6
noncomputable def Normal_n9 : Code := cL Normal_n8
noncomputable def Normal_n10 : Code := cR Normal_n8
noncomputable def Normal_n11 : Code := cL Normal_n9
noncomputable def Normal_n12 : Code := cR Normal_n9
noncomputable def Normal_n13 : Code := cL Normal_n4
noncomputable def Normal_n14 : Code := cR Normal_n4
noncomputable def Normal_n15 : Code := cL Normal_n14
noncomputable def Normal_n16 : Code := cR Normal_n14
noncomputable def Normal_n17 : Code := cL Normal_n16
noncomputable def Normal_n18 : Code := cR Normal_n16
noncomputable def Normal_n19 : Code := cL Normal_n17
noncomputable def Normal_n20 : Code := cR Normal_n17
noncomputable def Normal_n21 : Code := cL Normal_n20
noncomputable def Normal_n22 : Code := cL Normal_n21
noncomputable def Normal_n23 : Code := cL Normal_n22
noncomputable def Normal_n24 : Code := cR Normal_n22
noncomputable def Normal_n25 : Code := cL Normal_n24
noncomputable def Normal_n26 : Code := cR Normal_n24
noncomputable def Normal_n27 : Code := cL Normal_n25
noncomputable def Normal_n28 : Code := cR Normal_n25
noncomputable def Normal_n29 : Code := cL Normal_n26
noncomputable def Normal_n30 : Code := cR Normal_n26
noncomputable def Normal_n31 : Code := cL Normal_n29
noncomputable def Normal_n32 : Code := cL Normal_n31
noncomputable def Normal_n33 : Code := cR Normal_n31
noncomputable def Normal_n34 : Code := cL Normal_n18
noncomputable def Normal_n35 : Code := cR Normal_n18
set_option maxRecDepth 10000 in
theorem Normal_t {w : World} {M : Hp} {X : Fr} (n : Int) (l : List Int) {lA : Option Addr} {lc : Nat} (hl : RdA cdInt (M.un X.h) lA lc l) (S : SH w M X []) : Ct Try.prog 5 [.int .i64 n, .slice lA l.length lc] w M X (NormalE n l) := by
 unfold Ct
 have rmhl : l.length * 8 ≤ 140737488355328 := hl.room
 refine calls_in (b := Normal_n0) Try.func5 rfl Try.ntmps5 rfl (fun C hC => (ws_sub [(0, _), (1, _)] ⟨rfl, rfl, trivial⟩ (ws_seqN Normal_n1 Normal_n2 rfl rfl rfl (ws_region rfl (wla 0 1 rfl rfl rfl rfl rfl rfl rfl ?_)))))
 refine wla 1 2 rfl rfl rfl rfl rfl rfl rfl (wla 2 3 rfl rfl rfl rfl rfl rfl rfl (wl_end rfl (nmk [0, 1] rfl (nm_thn ?_))))
 refine ws_seqN Normal_n3 Normal_n4 rfl rfl rfl (ws_seqN Normal_n5 Normal_n6 rfl rfl rfl (ws_region rfl (wlm 0 1 rfl rfl rfl rfl rfl rfl rfl (wlm 1 2 rfl rfl rfl rfl rfl rfl rfl ?_))))
 refine wlo 2 3 rfl rfl rfl (wo_buildSlice1 (C := (cdV 22)) (l := [_]) rfl rfl rfl rfl sl23 rfl rfl rfl rfl S ?_)
 intro gb1 w1 S1; clear S
 have hr1 := S1.lendBox (C := (cdV 22)) (z := (⟨lA, l.length, lc⟩ : SlV)) (i := 0) rfl rfl (by decide)
 have hd1 : Rd2 cdInt _ [(⟨lA, l.length, lc⟩ : SlV)] [l] := Rd2.nil_.snoc (hl.mono S1.un_XH)
 have hcall1 := Check_q n [l] hr1 hd1 S1.lend
 refine wlo 3 4 rfl rfl rfl (wo_cq rfl rfl rfl rfl rfl rfl rfl cf11 S1 (hcall1) ?_)
 rintro _ w2 S2 rfl; clear S1
 refine wla 4 5 rfl rfl rfl rfl rfl rfl rfl (wl_end rfl (nmk [0, 1, 7] rfl (nm_thn (ws_seqN Normal_n7 Normal_n8 rfl rfl rfl ?_))))
 refine ws_region rfl (wlm 0 1 rfl rfl rfl rfl rfl rfl rfl (wlo 1 2 rfl rfl rfl (wo_run rfl rfl (run_neq rfl rfl rfl) (wl_end rfl (nmk [0, 1, 7, 18] rfl ?_)))))
 refine nm_thn ?_
 refine ws_condN Normal_n9 Normal_n10 rfl rfl rfl rfl (fun hb18 => ?_) (fun hb18 => ?_)
 ·replace hb18 := of_decide_eq_true hb18
  refine ws_seqN Normal_n11 Normal_n12 rfl rfl rfl (ws_region rfl (wlm 0 1 rfl rfl rfl rfl rfl rfl rfl (wla 1 2 rfl rfl rfl rfl rfl rfl rfl (wla 2 3 rfl rfl rfl rfl rfl rfl rfl ?_))))
  refine wla 3 4 rfl rfl rfl rfl rfl rfl rfl (wl_end rfl (nmk [4, 5, 6] rfl (nm_thn (ws_ret hC [_, _, _] rfl rfl ⟨rfl, rfl, rfl, trivial⟩ ?_))))
  refine ⟨_, rfl, _, Hp.le_refl _, (S2.pick [] [] (by decide) trivial), ?_⟩
  exact ⟨0, none, 0, [], [], rfl, RdA.nil_, Rd2.nil_, fun _ => ⟨rfl, rfl⟩, fun h9 => absurd h9 (by omega)⟩
 ·replace hb18 := of_decide_eq_false hb18
  have hck : checkI n [l] = 0 := by omega
  obtain ⟨hn1, hn2, hwl, hwb⟩ := check_ok hck
  obtain ⟨m, hnm⟩ : ∃ m : Nat, n = (m : Int) := ⟨n.toNat, by omega⟩
  have hwb9 : ∀ i, i < l.length → 1 ≤ max (ga l i) (-(ga l i)) ∧ max (ga l i) (-(ga l i)) < (m : Int) := fun i hi => by rw [← hnm]; exact hwb i hi
  refine ws_skip rfl (nmk [0, 1] rfl (nm_thn (ws_seqN Normal_n13 Normal_n14 rfl rfl rfl (ws_eq 0 (.int .i64 (m : Int)) rfl (int_eq hnm) ?_))))
  refine ws_region rfl (wlm 0 1 rfl rfl rfl rfl rfl rfl rfl (wlm 1 2 rfl rfl rfl rfl rfl rfl rfl (wlo 2 3 rfl rfl rfl (wo_ct rfl rfl rfl rfl rfl rfl rfl cf12 S2 (normal_t m l (hl.mono S2.un_XH) ((by omega)) ((by omega)) ((by omega)) (hwb9) S2.lend) ?_))))
  intro vw3 w3 M1 hle1 S3 hRw3; clear S2
  replace hl := hl.mono (Hp.un_mono hle1 S3.mx)
  obtain ⟨z9, A9, c9, vs9, ys, rfl, hry, hdy, hNf⟩ := hRw3
  refine wlm 3 4 rfl rfl rfl rfl rfl rfl rfl (wlo 4 5 rfl rfl rfl (wo_run rfl rfl (run_extract rfl rfl rfl) (wlo 5 6 rfl rfl rfl (wo_run rfl rfl (run_extract rfl rfl rfl) (wla 6 7 rfl rfl rfl rfl rfl rfl rfl (wla 7 8 rfl rfl rfl rfl rfl rfl rfl ?_))))))
  refine wl_end rfl (nmk [8, 9] rfl (nm_thn (ws_seqN Normal_n15 Normal_n16 rfl rfl rfl ?_)))
  have hyl := hdy.1
  have hl20 := hNf.len
  refine ws_region rfl (wla 0 1 rfl rfl rfl rfl rfl rfl rfl (wl_end rfl (nm_thn (ws_seqN Normal_n17 Normal_n18 rfl rfl rfl ?_))))
  refine ws_seqN Normal_n19 Normal_n20 rfl rfl rfl (ws_region rfl (wlm 0 1 rfl rfl rfl rfl rfl rfl rfl (wlo 1 2 rfl rfl rfl (wo_run rfl rfl (run_len rfl rfl rfl rfl rfl rfl Try.underlying35) (wlm 2 3 rfl rfl rfl rfl rfl rfl rfl ?_)))))
  refine wl_end rfl (nmk [8, 10, 26, 27, 28] rfl (nm_thn (ws_blockN Normal_n21 0 rfl rfl rfl ?_)))
  have S4 := S3.nilrow (cdV 22); clear S3
  refine ws_loopE (fun mx_ ax_ wx_ => ∃ (k : Nat) (ov : List SlV) (os : List (List Int)) (vro : Value) (M2 : Hp), M1.le M2 ∧ mx_ = ys.length - k ∧ Env 41 [(8, .int .i64 z9), (10, vro), (26, .slice A9 vs9.length c9), (27, .int .i64 (vs9.length : Int)), (28, .int .i64 (k : Int))] ax_ ∧ SH wx_ M2 X [Rs.row (cdV 22) vro ov] ∧ k ≤ ys.length ∧ os = ((ys.take k).map fun p => p.drop 1) ∧ Rd2 cdInt M2 ov os) rfl ?_ ?_
  ·intro ax_ hax_
   refine ⟨_, ⟨0, _, [], _, _, Hp.le_refl _, rfl, hax_.sub ⟨rfl, rfl, rfl, rfl, rfl, trivial⟩, S4.pick [0] [_] (by decide) ⟨rfl, trivial⟩, ?hq1f0, ?hq1f1, ?hq1f2⟩⟩
   case hq1f0 => omega
   case hq1f1 => rfl
   case hq1f2 => exact Rd2.nil_
  ·rintro m1 a1 w4 ⟨k, ov, os, vro, M2, hle2, rfl, he1, S5, hk, hos, hdo⟩
   clear S4
   refine ws_in he1 (c := Normal_n22) rfl ?_
   clear he1 a1
   replace hl := hl.mono (Hp.un_mono hle2 S5.mx)
   replace hry := hry.mono hle2
   replace hdy := hdy.mono hle2
   have hol := hdo.1
   have hok : os.length = k := by rw [hos, List.length_map, List.length_take]; omega
   have hyl := hdy.1
   have hpk := fun h => (hNf.nf.ga_ k h).len
   refine ws_seqN Normal_n23 Normal_n24 rfl rfl rfl (ws_region rfl (wlo 0 1 rfl rfl rfl (wo_run rfl rfl (run_lss rfl rfl rfl) (wl_end rfl (nm_thn ?_)))))
   refine ws_seqN Normal_n25 Normal_n26 rfl rfl rfl ?_
   refine ws_condN Normal_n27 Normal_n28 rfl rfl rfl rfl (fun hb29 => ?_) (fun hb29 => ?_)
   ·replace hb29 := of_decide_eq_true hb29
    refine ws_skip rfl (nmk [8, 10, 26, 27, 28] rfl (nm_thn (ws_seqN Normal_n29 Normal_n30 rfl rfl rfl (ws_blockN Normal_n31 1 rfl rfl rfl ?_))))
    refine ws_seqN Normal_n32 Normal_n33 rfl rfl rfl (ws_region rfl (wlo 0 1 rfl rfl rfl (wo_run rfl rfl (run_indexM (C := (cdV 38)) k rfl rfl rfl sl35 (by first | rfl | omega) hry (by first | omega | (simp only [lens]; omega))) ?_)))
    obtain ⟨hn1, hr2⟩ := hdy.2 k (by first | omega | (simp only [lens]; omega))
    have rmhr2 : (ga ys k).length * 8 ≤ 140737488355328 := hr2.room
    refine wlo 1 2 rfl rfl rfl (wo_run rfl rfl (run_load1 rfl rfl Try.underlying38 rfl (hry.cell S5.m (i := k) (by first | omega | (simp only [lens]; omega)) 0 rfl (congrArg (fun n => some (Value.slice _ n _)) hn1))) ?_)
    refine wla 2 3 rfl rfl rfl rfl rfl rfl rfl (wl_end rfl (nmk [8, 10, 26, 27, 28, 12] rfl (nm_thn (ws_region rfl ?_))))
    refine wlm 0 1 rfl rfl rfl rfl rfl rfl rfl (wlm 1 2 rfl rfl rfl rfl rfl rfl rfl (wlo 2 3 rfl rfl rfl (wo_sliceD (C := cdInt) 1 rfl rfl rfl rfl rfl sl38 (by first | rfl | omega) (by first | omega | (simp only [lens]; omega)) hr2 ?_)))
    intro A1 c1 hr3
    refine wlo 3 4 rfl rfl rfl (wo_ct rfl rfl rfl rfl rfl rfl rfl cf13 S5 (CloneP_t ((ga ys k).drop 1) (hr3.mono (Hp.le_un _ _)) S5.lend) ?_)
    intro vw5 w5 M3 hle3 S6 hRw5; clear S5
    replace hl := hl.mono (Hp.un_mono hle3 S6.mx)
    replace hry := hry.mono hle3
    replace hdy := hdy.mono hle3
    replace hdo := hdo.mono hle3
    replace hr2 := hr2.mono hle3
    replace hr3 := hr3.mono hle3
    obtain ⟨A2, c2, rfl, hr4⟩ := hRw5
    refine wlo 4 5 rfl rfl rfl (wo_buildSlice1 (C := (cdV 22)) (l := [_]) rfl rfl rfl rfl sl23 rfl rfl rfl rfl S6 ?_)
    intro gb2 w6 S7; clear S6
    refine wlo 5 6 rfl rfl rfl (wo_append1 (C := (cdV 22)) (i := 1) (q := 0) (⟨A2, ((ga ys k).drop 1).length, c2⟩ : SlV) rfl rfl rfl rfl rfl rfl rfl rfl sl23 S7 rfl rfl rfl (by show (_ + 1) * 24 ≤ _; first | omega | (simp only [lens]; omega)) ?_)
    intro vro1 w7 S8; clear S7
    have S9 := S8.pick [1] [_] (by decide) ⟨rfl, trivial⟩; clear S8
    have hd2 := hdo.snoc (c := c2) hr4
    refine wla 6 7 rfl rfl rfl rfl rfl rfl rfl (wl_end rfl (nm_blk (nmk [8, 10, 26, 27, 28] rfl (nm_thn ?_))))
    refine ws_region rfl (wlo 0 1 rfl rfl rfl (wo_run rfl rfl (run_add rfl rfl rfl (by first | omega | (simp only [lens]; omega))) ?_))
    refine wlm 1 2 rfl rfl rfl rfl rfl rfl rfl (wl_end rfl (nm_lp ?_))
    intro ax_ hax_
    refine ⟨_, ?hq2m, ⟨k + 1, _, (os ++ [(ga ys k).drop 1]), _, _, (hle2.trans hle3), rfl, hax_.sub ⟨rfl, rfl, rfl, rfl, rfl, trivial⟩, S9.pick [0] [_] (by decide) ⟨rfl, trivial⟩, ?hq2f0, ?hq2f1, ?hq2f2⟩⟩
    case hq2f0 => omega
    case hq2f1 => (rw [hos]; exact map_take1 (fun p : List Int => p.drop 1) ys (by omega))
    case hq2f2 => exact hd2
    case hq2m => omega
   ·replace hb29 := of_decide_eq_false hb29
    refine ws_exit rfl rfl (nmk [8, 10] rfl (nm_thn (ws_seqN Normal_n34 Normal_n35 rfl rfl rfl ?_)))
    have hol := hdo.1
    have hok : os.length = k := by rw [hos, List.length_map, List.length_take]; omega
    refine ws_region rfl (wlm 0 1 rfl rfl rfl rfl rfl rfl rfl (wlm 1 2 rfl rfl rfl rfl rfl rfl rfl (wla 2 3 rfl rfl rfl rfl rfl rfl rfl (wla 3 4 rfl rfl rfl rfl rfl rfl rfl ?_))))
    refine wla 4 5 rfl rfl rfl rfl rfl rfl rfl (wl_end rfl (nmk [4, 5, 6] rfl (nm_thn ?_)))
    obtain ⟨M4, hle4, S10, ⟨A3, c3, e1, hr5⟩⟩ := S5.pubrow (i := 0) (H' := [_]) rfl rfl (by show _ * 24 ≤ _; first | omega | (simp only [lens]; omega))
    clear S5; subst e1
    replace hl := hl.mono (Hp.un_mono hle4 S10.mx)
    replace hry := hry.mono hle4
    replace hdy := hdy.mono hle4
    replace hdo := hdo.mono hle4
    refine ws_ret hC [_, _, _] rfl rfl ⟨rfl, rfl, rfl, trivial⟩ ?_
    refine ⟨_, rfl, _, (hle1.trans hle2).trans hle4, (S10.pick [] [] (by decide) trivial), ?_⟩
    obtain rfl : k = ys.length := by omega
    rw [List.take_length] at hos
    subst hos
    rw [show (0 : Int) = checkI n [l] from hck.symm]
    exact ⟨z9, _, _, _, ys, rfl, hr5, hdo, fun h9 => absurd hck h9, fun _ => by rw [hnm]; exact hNf⟩
end Go.Proofs.Ytomcgmialkdcbaa
