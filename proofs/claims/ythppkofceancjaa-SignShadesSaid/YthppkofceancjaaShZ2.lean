/- Part 2 of the proof of the law SignShades: the walks through its functions and the plain laws that they need. -/
import Derived.Test.YthppkofceancjaaShZ1
import Derived.Test.YthppkofceancjaaRows
import Derived.WalkKit
import Derived.ProofKit
import Derived.OpenShut
import Derived.Outline
import Derived.BigQuiet
import Derived.Deep.QuietTactic
import Derived.Deep.Draws
import Derived.IntWalk
import Derived.Lib.Hide
import Derived.SizedLaws
import Derived.Maps.AppendAt
import Derived.Deep.AppendLies
import Derived.Deep.DeepCutAuto
import Derived.Deep.CutBlock
import Derived.Deep.RegionWith
import Derived.Deep.RegionHeld3
import Derived.WalkSpells
import Derived.Laws.Cover3
import Derived.Laws.Pointers
import Derived.Laws.StructEq
set_option linter.unusedSimpArgs false
set_option linter.unusedVariables false
namespace Go.Proofs.Ythppkofceancjaa
open Go.ChangeShapes Go.WideShapes Go.ChangeAt Go.RowKit
section
variable {P : Program} {o : Oper} {L : List (Nat × Value)} {w w' : World} {x y z : Operand} {t t' T E : TypeId} {a b : Int} {v u : Value} {n d : Nat} {M M' : Hp} {X : Fr} {H H' : List Rs} {i g off : Nat} {l : List Value}
theorem enter_ok {P : Program} {f : FuncId} {fn : Func} {c : Code} (hf : P.funcs[f]? = some fn) (hname : (fn.name == "runtime.NumGoroutine") = false) (hb : fn.body = some c) (args : Array Value) (w : World) : (callFunc f args).run P w = .ok (.enter f args) w := by
  have h1 : fn.name ≠ "runtime.NumGoroutine" := by simpa using hname
  simp [callFunc, hf, h1, hb]
def plOk (k : Nat) : Nat → List (Nat × Nat) → Bool
  | _, [] => true
  | i, (p, q) :: r => Nat.beq p (i * k) && Nat.beq q k && plOk k (i + 1) r
theorem plOk_spec {k : Nat} : ∀ {pl : List (Nat × Nat)} {j : Nat}, plOk k j pl = true → ∀ i p, nth pl i = some p → p = ((j + i) * k, k)
  | [], _, _, i, p, h => by simp [nth] at h
  | (a, b) :: r, j, hp, 0, p, h => by
    simp only [plOk, Bool.and_eq_true] at hp
    simp only [nth, Option.some.injEq] at h
    rw [← h, Nat.eq_of_beq_eq_true hp.1.1, Nat.eq_of_beq_eq_true hp.1.2, Nat.add_zero]
  | (a, b) :: r, j, hp, i + 1, p, h => by
    simp only [plOk, Bool.and_eq_true] at hp
    simp only [nth] at h
    rw [plOk_spec hp.2 i p h, show j + 1 + i = j + (i + 1) by omega]
theorem fill_eq' {pl : List (Nat × Nat)} {place : Nat → Option (Nat × Nat)} (hpl : ∀ i p, nth pl i = some p → place i = some p) : ∀ (ps : List (Nat × Value)) (cs : Array Value) (out : List Value), fillL pl cs.toList ps = some out → Instr.fill place cs ps = some out.toArray
  | [], cs, out, h => by
    simp only [fillL, Option.some.injEq] at h
    subst h
    simp [Instr.fill]
  | (i, v) :: r, cs, out, h => by
    unfold fillL at h
    unfold Instr.fill
    split at h
    · cases h
    · rename_i p hp
      simp only [hpl i p hp]
      split at h
      · rename_i hc
        simp only [Bool.and_eq_true] at hc
        have h1 : v.cells.size = p.2 := by have := Nat.eq_of_beq_eq_true hc.1; simpa using this
        have h2 : p.1 + p.2 ≤ cs.size := by have := Nat.le_of_ble_eq_true hc.2; simpa using this
        obtain ⟨po, ps⟩ := p
        simp only at h1 h2 h ⊢
        rw [if_neg (by simp [h1]; omega)]
        refine fill_eq' hpl r _ out ?_
        rw [← Array.foldl_toList, Array.toList_zipIdx, foldl_set, Nat.add_zero]
        exact h
      · cases h
theorem run_buildA {pl : List (Nat × Nat)} {zl : List Value} {ps : List (Nat × Operand)} {vs : List (Nat × Value)} {pa : Array (Nat × Operand)} {len k : Nat} (hop : o.op = .build T pa) (hpa : pa = ps.toArray) (hu : P.underlying T = some (.array len E)) (hz : (P.info? T).map (·.zero) = some (some (.agg zl.toArray)))
    (hk : (P.info? E).map (·.size) = some k) (hpl : plOk k 0 pl = true) (hps : partL L ps = some vs) (hl : fillL pl zl vs = some l) : Run P o L w (.agg l.toArray) w := by
  intro n c he
  subst hpa
  unfold execOp
  have e := partL_eq he hps
  have hf := fill_eq' (pl := pl) (place := fun i => some (i * k, k)) (fun i p hp => by rw [plOk_spec hpl i p hp, Nat.zero_add]) vs zl.toArray l (by simpa using hl)
  simp only [hop, Instr.build, run_zero hz, run_underlying hu, run_sizeOf hk, Sem.run_bind, Sem.run_pure, Result.andThen_ok, List.map_toArray, e]
  rw [show Value.cells (.agg zl.toArray) = zl.toArray from rfl, hf]
  rfl
theorem nth_iv (xs : List Int) (e : Nat) (h : e < xs.length) : nth (xs.map (Value.int .i64)) e = some (.int .i64 (ga xs e)) := by
  rw [nth_eq, List.getElem?_map, ga_get? h]; rfl
theorem run_index1 {cs : List Value} {e len : Nat} {dd : TypeDesc} (hop : o.op = .index T x y) (hx : oev L x = some (.agg cs.toArray)) (hy : oev L y = some (.int .i64 a)) (hu : P.underlying T = some (.array len E)) (hE : P.underlying E = some dd) (hf : flatD dd = true) (hk : (P.info? E).map (·.size) = some 1)
    (ha : a = (e : Int)) (he : e < len) (hv : nth cs e = some v) : Run P o L w v w := by
  intro n c hc
  unfold execOp
  rw [nth_eq] at hv
  have hv' : cs.toArray[e]? = some v := by simpa using hv
  have h1 : (0 : Int) ≤ (e : Int) ∧ (e : Int) < (len : Int) := by omega
  simp only [hop, hc.eval hx, hc.eval hy, Instr.index, asIntOf, Sem.run_bind, Sem.run_pure, Result.andThen_ok, run_underlying hu, ha, h1, and_self, if_true, run_sizeOf hk, Int.toNat_natCast, part, run_isAgg hE, hf, Bool.not_true, Bool.false_eq_true, if_false, Nat.mul_one, hv']
end
/-- Nothing is lent: all that is there lasts. -/
def X0 (W : World) : Fr := ⟨fun _ => none, W⟩
theorem SH.start (W : World) : SH W (hp W) (X0 W) [] :=
  ⟨Hp.le_refl _, (fun b o e => by cases e), (fun b o e => by cases e), (fun s hs => by cases hs), (fun s hs => by cases hs), (fun i j r s _ hr => by simp at hr), Like.refl W⟩
theorem SH.below {W w : World} {M : Hp} (h : (hp W).le M) (S : SH w M (X0 W) []) : Below W.heap.size W w := by
  refine ⟨S.like.os, S.like.tape, S.like.output, S.like.size, fun k hk => ?_⟩
  have e : hp W k = some W.heap[k] := Array.getElem?_eq_getElem hk
  have := S.m k _ (h k _ e)
  unfold hp at this e
  rw [this, e]
theorem law_of_ct {P : Program} {f : FuncId} {vs : List Value} {W : World} (h : Ct P f vs W (hp W) (X0 W) (fun u _ => u = .bool true)) : Calls P f vs.toArray W fun e W' => e = .returned (.bool true) ∧ Below W.heap.size W W' := by
  refine h.mono ?_
  rintro e w' ⟨u, rfl, M', hle, S, rfl⟩
  exact ⟨rfl, S.below hle⟩
end Go.Proofs.Ythppkofceancjaa
namespace Go.Proofs.Ythppkofceancjaa
open Go.ChangeShapes Go.WideShapes Go.ChangeAt Go.RowKit
/-- All that was there is as it was. -/
def Kp (w w' : World) : Prop := Below w.heap.size w w'
theorem Kp.refl (w : World) : Kp w w := Below.refl _ _
theorem Kp.trans {a b c : World} (h : Kp a b) (k : Kp b c) : Kp a c := Below.trans h (Below.mono k (Below.size h))
theorem Kp.size {a b : World} (h : Kp a b) : a.heap.size ≤ b.heap.size := Below.size h
theorem Kp.below {a b : World} (h : Kp a b) : Below a.heap.size a b := h
theorem Kp.drew {a w : World} (h : Kp a w) : Kp a w.drew := Below.drew h
theorem Kp.alloc {a w : World} (h : Kp a w) (o : Obj) : Kp a (w.alloc o) := Below.alloc h (Below.size h) o
theorem Kp.setCell {a w : World} (h : Kp a w) {p : Addr} (hp : a.heap.size ≤ p.block) (u : Value) : Kp a (w.setCell p u) := Below.setCell h hp u
theorem Kp.grown {a w w' : World} {row : Option Nat} (h : Kp a w) (hg : w.grownBy w' row) (hr : ∀ k, row = some k → a.heap.size ≤ k) : Kp a w' := Below.grown h hg (Below.size h) hr
/-- The slice at A of n elements (k cells, u8 bytes each) holds the cells xs, below block B. -/
def Sl (w : World) (B k u8 : Nat) (A : Option Addr) (n : Nat) (xs : List Value) : Prop :=
  xs.length = n * k ∧ n * u8 ≤ 140737488355328 ∧ (0 < n → ∃ b off, A = some ⟨b, off, none⟩ ∧ b < B ∧ ∀ j u, xs[j]? = some u → w.cell? ⟨b, off + j, none⟩ = some u)
section
variable {w w' : World} {B B' k u8 n : Nat} {A : Option Addr} {xs : List Value}
theorem Sl.len (h : Sl w B k u8 A n xs) : xs.length = n * k := h.1
theorem Sl.nil_ : Sl w B k u8 A 0 [] := ⟨by simp, by simp, fun h => absurd h (by omega)⟩
theorem Sl.at_ (h : Sl w B k u8 A n xs) (hn : 0 < n) : ∃ b off, A = some ⟨b, off, none⟩ ∧ b < B ∧ ∀ j u, xs[j]? = some u → w.cell? ⟨b, off + j, none⟩ = some u := h.2.2 hn
theorem Sl.keep (h : Sl w B k u8 A n xs) (hk : ∀ p : Addr, p.block < B → w'.cell? p = w.cell? p) : Sl w' B k u8 A n xs :=
  ⟨h.1, h.2.1, fun hn => by
    obtain ⟨b, off, e, hb, hc⟩ := h.2.2 hn
    exact ⟨b, off, e, hb, fun j u hu => (hk _ hb).trans (hc j u hu)⟩⟩
theorem Sl.mono (h : Sl w B k u8 A n xs) (hB : B ≤ B') : Sl w B' k u8 A n xs :=
  ⟨h.1, h.2.1, fun hn => by
    obtain ⟨b, off, e, hb, hc⟩ := h.2.2 hn
    exact ⟨b, off, e, by omega, hc⟩⟩
theorem Sl.below (h : Sl w B k u8 A n xs) (hb : Below B w w') : Sl w' B k u8 A n xs := h.keep fun _ hp => hb.cell hp
theorem Sl.of_own {base : Nat} {e : TypeId} {c : Nat} (h : w.ownsRow base e k (.slice A n c) n xs) (hr : n * u8 ≤ 140737488355328) : Sl w w.heap.size k u8 A n xs := by
  refine ⟨h.1, hr, fun hn => ?_⟩
  rcases h.2 with ⟨_, h0⟩ | ⟨g, cap, cur, hv, _, hh, _⟩
  · omega
  · injection hv with hA
    subst hA
    have hlt := (h.lt g rfl).2
    refine ⟨g, 0, rfl, hlt, fun j u hu => ?_⟩
    have := h.cells (g := g) rfl j u hu
    rwa [Addr.add_lit] at this
end
def gi (xs : List Int) (i : Nat) : Int := xs.getD i 0
theorem gi_eq {xs : List Int} {i : Nat} (h : i < xs.length) : gi xs i = xs[i] := by simp [gi, h]
theorem gi_get? {xs : List Int} {i : Nat} (h : i < xs.length) : xs[i]? = some (gi xs i) := by simp [gi, h]
def iv (x : Int) : Value := .int .i64 x
def IntsA (w : World) (B : Nat) (A : Option Addr) (xs : List Int) : Prop := Sl w B 1 8 A xs.length (xs.map iv)
/-- v, below block B, reads as the list xs. -/
def Ints (w : World) (B : Nat) (v : Value) (xs : List Int) : Prop := ∃ A c, v = .slice A xs.length c ∧ xs.length ≤ c ∧ IntsA w B A xs
section
variable {w w' : World} {B B' : Nat} {A : Option Addr} {v : Value} {xs : List Int}
theorem IntsA.mono (h : IntsA w B A xs) (hB : B ≤ B') : IntsA w B' A xs := Sl.mono h hB
theorem IntsA.below (h : IntsA w B A xs) (hb : Below B w w') : IntsA w' B A xs := Sl.below h hb
theorem IntsA.at_ (h : IntsA w B A xs) {i : Nat} (hi : i < xs.length) : ∃ b off, A = some ⟨b, off, none⟩ ∧ b < B ∧ w.cell? ⟨b, off + i, none⟩ = some (.int .i64 (gi xs i)) := by
  obtain ⟨b, off, e, hb, hc⟩ := Sl.at_ h (by omega)
  exact ⟨b, off, e, hb, hc i _ (by rw [List.getElem?_map, gi_get? hi]; rfl)⟩
theorem IntsA.nil_ : IntsA w B A [] := Sl.nil_
theorem Ints.mono (h : Ints w B v xs) (hB : B ≤ B') : Ints w B' v xs := by
  obtain ⟨A, c, e, hc, h⟩ := h
  exact ⟨A, c, e, hc, h.mono hB⟩
theorem Ints.below (h : Ints w B v xs) (hb : Below B w w') : Ints w' B v xs := by
  obtain ⟨A, c, e, hc, h⟩ := h
  exact ⟨A, c, e, hc, h.below hb⟩
theorem Ints.of_own {base : Nat} {e : TypeId} (h : w.ownsRow base e 1 v xs.length (xs.map iv)) (hr : xs.length * 8 ≤ 140737488355328) : Ints w w.heap.size v xs := by
  have h' := h
  rcases h.2 with ⟨rfl, h0⟩ | ⟨g, cap, cur, rfl, _, _, hle, _⟩
  · refine ⟨none, 0, by rw [h0], by omega, ?_⟩
    unfold IntsA
    rw [h0]
    obtain rfl : xs = [] := List.eq_nil_of_length_eq_zero h0
    exact Sl.nil_
  · exact ⟨_, cap, rfl, hle, Sl.of_own h' hr⟩
end
section
variable {H : Type} {enc : TypeId × Value → H} {P : Program} {w : World}
end
/-- T is a slice type whose elements E have k cells, u8 bytes and the zero z. -/
def SlT (P : Program) (T E : TypeId) (k u8 : Nat) (z : Value) : Prop :=
  P.underlying T = some (.slice E) ∧ (P.info? E).map (fun i => (i.zero, i.size, i.bytes)) = some (some z, k, u8) ∧ z.cells.size = k ∧ 0 < k ∧ 0 < u8
/-- Only block row (if any), and new ones, have turned. -/
abbrev Gr (w w' : World) (row : Option Nat) : Prop := w.grownBy w' row
theorem gr_refl (w : World) (row : Option Nat) : Gr w w row := ⟨rfl, rfl, rfl, Nat.le_refl _, fun _ _ _ => rfl⟩
theorem gr_of_kp {a b : World} (h : Kp a b) (row : Option Nat) : Gr a b row := ⟨h.os, h.tape, h.output, h.size, fun i hi _ => h.block i hi⟩
theorem own_kp {w w' : World} {base : Nat} {e : TypeId} {k n : Nat} {v : Value} {xs : List Value} (h : w.ownsRow base e k v n xs) (hk : Kp w w') : w'.ownsRow base e k v n xs :=
  h.kept (gr_of_kp hk none) (by cases hb : v.ownBlock <;> simp)
theorem max_of_room {n u8 : Nat} (h0 : 0 < u8) (h : n * u8 ≤ 140737488355328) : n ≤ maxLen := by
  have : n * 1 ≤ n * u8 := Nat.mul_le_mul_left n h0
  unfold maxLen
  omega
/-- append onto nil or what is the call's own: of a slice that reads as cells. -/
theorem wp_appendSl {P : Program} {w : World} {ops : Array Oper} {rest : List Oper} {o : Oper} {a : Act} {Q : Exit → Act → World → Prop} {T E : TypeId} {k u8 : Nat} {z : Value} (hT : SlT P T E k u8 z)
    (hgd : o.guard = none) (s x : Operand) (ho : o.op = .call { callee := .builtin .append, args := #[s, x], argTypes := #[T, T] })
    {base : Nat} {v : Value} {n : Nat} {xs : List Value} (hown : w.ownsRow base E k v n xs) (hs : a.eval s = v) {B : Nat} {A : Option Addr} {m c : Nat} {news : List Value} (hx : a.eval x = .slice A m c)
    (hsl : Sl w B k u8 A m news) (h1 : ∀ u ∈ news, u.oneCell' = true) (hr : (n + m) * u8 ≤ 140737488355328) (hbase : base ≤ w.heap.size)
    (h : ∀ v' w', w'.ownsRow base E k v' (n + m) (xs ++ news) → Gr w w' v.ownBlock → (v'.ownBlock = v.ownBlock ∨ v'.ownBlock = some w.heap.size) → wpList P ops Q rest (a.put o.dst v') w') :
    wpList P ops Q (o :: rest) a w := by
  obtain ⟨ht, hinfo, hzs, hsz, h8⟩ := hT
  obtain ⟨i, hi, hz, hsize, hby⟩ := info_parts hinfo
  have key : ∃ v' w', (Builtin.append_ #[T, T] o.type #[v, .slice A m c]).run P w = .ok v' w' ∧ w'.ownsRow base E k v' (n + m) (xs ++ news) ∧ Gr w w' v.ownBlock ∧ (v'.ownBlock = v.ownBlock ∨ v'.ownBlock = some w.heap.size) := by
    rcases A with _ | ad
    · have hm : m = 0 := by
        rcases Nat.eq_zero_or_pos m with h0 | h0
        · exact h0
        · obtain ⟨b, off, h, _⟩ := hsl.at_ h0
          cases h
      subst hm
      have hn : news = [] := List.eq_nil_of_length_eq_zero (by simpa using hsl.len)
      subst hn
      refine ⟨v, w, ?_, by simpa using hown, gr_refl _ _, .inl rfl⟩
      rcases hown.2 with ⟨rfl, rfl⟩ | ⟨g, cap, cur, rfl, _, _, hnc, _⟩
      · simp [Builtin.append_, run_underlying ht, sizeOf, typeInfo, hi, Builtin.lenOf, Builtin.firstCells]
      · simp [Builtin.append_, run_underlying ht, sizeOf, typeInfo, hi, Builtin.lenOf, Builtin.firstCells, hnc, storeCells]
    · have hcells : ∀ j u, news[j]? = some u → w.cell? (ad.add j) = some u := by
        intro j u hu
        rcases Nat.eq_zero_or_pos m with h0 | h0
        · subst h0
          have hn : news = [] := List.eq_nil_of_length_eq_zero (by simpa using hsl.len)
          subst hn
          simp at hu
        · obtain ⟨b, off, h, _, hc⟩ := hsl.at_ h0
          injection h with h
          subst h
          rw [Addr.add_lit]
          exact hc j u hu
      obtain ⟨v', w', hrun, r1, r2, _, r3⟩ := run_append_own_at (P := P) w base T o.type E i z k u8 ht hi hz hsize hby hzs hsz v n xs hown ad m c news hsl.len hcells h1 (max_of_room h8 hr) hr hbase
      exact ⟨v', w', hrun, r1, r2, r3⟩
  obtain ⟨v', w', hrun, r1, r2, r3⟩ := key
  refine wpList_plain hgd fun _ hK => ?_
  unfold Oper.wp execOp
  simp only [ho, resolve, invoke, builtin, Sem.run_bind, Sem.run_pure, Result.andThen_ok, List.map_toArray, List.map_cons, List.map_nil, hs, hx, hrun]
  exact hK _ _ (h v' w' r1 r2 r3)
theorem own_nil (w : World) (base : Nat) (e : TypeId) (k : Nat) : w.ownsRow base e k (.slice none 0 0) 0 [] := World.ownsRow_nil w base e k
def OwnI (w : World) (base : Nat) (v : Value) (xs : List Int) : Prop := w.ownsRow base 3 1 v xs.length (xs.map iv)
section
variable {w w' : World} {base : Nat} {v : Value} {xs : List Int} {g cap : Nat}
theorem OwnI.nil_ : OwnI w base (.slice none 0 0) [] := own_nil w base _ 1
theorem OwnI.n_eq {A : Option Addr} {n : Nat} (h : OwnI w base (.slice A n cap) xs) : n = xs.length := by
  rcases h.2 with ⟨h1, h2⟩ | ⟨g, c, cur, h1, _⟩
  · injection h1 with _ h3; omega
  · injection h1
theorem OwnI.cell {n : Nat} (h : OwnI w base (.slice (some ⟨g, 0, none⟩) n cap) xs) {i : Nat} (hi : i < xs.length) : w.cell? ⟨g, i, none⟩ = some (.int .i64 (gi xs i)) := by
  obtain rfl := h.n_eq
  rw [World.ownsRow.cellAt h i (by omega), List.getElem?_map, gi_get? hi]; rfl
theorem OwnI.free {n : Nat} (h : OwnI w base (.slice (some ⟨g, 0, none⟩) n cap) xs) (i : Nat) : w.frozen? ⟨g, i, none⟩ = false := by
  obtain rfl := h.n_eq
  exact World.ownsRow.frozenAt h i
theorem OwnI.set_ {n : Nat} (h : OwnI w base (.slice (some ⟨g, 0, none⟩) n cap) xs) (i : Nat) (y : Int) :
    OwnI (w.setCell ⟨g, i, none⟩ (.int .i64 y)) base (.slice (some ⟨g, 0, none⟩) n cap) (xs.set i y) := by
  obtain rfl := h.n_eq
  unfold OwnI
  rw [List.length_set, List.map_set]
  exact (World.ownsRow.stored h i (iv y)).1
theorem OwnI.kp (h : OwnI w base v xs) (hk : Kp w w') : OwnI w' base v xs := own_kp h hk
theorem OwnI.lt (h : OwnI w base v xs) : ∀ k, v.ownBlock = some k → base ≤ k ∧ k < w.heap.size := World.ownsRow.lt h
end
theorem slInt : SlT Try.prog 25 3 1 8 (.int .i64 0) := ⟨Try.underlying25, by kernel_rfl, rfl, by omega, by omega⟩
theorem gi_set (xs : List Int) (i j : Nat) (y : Int) (h : i < xs.length) : gi (xs.set i y) j = if i = j then y else gi xs j := by
  unfold gi
  rw [List.getD_eq_getElem?_getD, List.getD_eq_getElem?_getD, List.getElem?_set]
  by_cases hij : i = j
  · subst hij; simp [h]
  · simp [hij]
theorem gi_ext {xs ys : List Int} (hl : xs.length = ys.length) (h : ∀ i, i < xs.length → gi xs i = gi ys i) : xs = ys := by
  apply List.ext_getElem hl
  intro i h1 h2
  have := h i h1
  rwa [gi_eq h1, gi_eq h2] at this
theorem gr_setCell {a b : World} {g : Nat} (h : Gr a b (some g)) (i : Nat) (u : Value) : Gr a (b.setCell ⟨g, i, none⟩ u) (some g) :=
  ⟨h.os, h.tape, h.output, by simpa [World.setCell] using h.size, fun k hk hn => (Below.heap_setCell b ⟨g, i, none⟩ u k (fun e => hn (by rw [e]))).trans (h.block k hk hn)⟩
theorem cell_lt {w : World} {g i : Nat} {u : Value} (h : w.cell? ⟨g, i, none⟩ = some u) : g < w.heap.size := World.block_lt_of_cell? w ⟨g, i, none⟩ h
/-- What a cell held it holds still. -/
theorem Kp.c {a b : World} (h : Kp a b) {g i : Nat} {u : Value} (hc : a.cell? ⟨g, i, none⟩ = some u) : b.cell? ⟨g, i, none⟩ = some u := (h.below.cell (p := ⟨g, i, none⟩) (cell_lt hc)).trans hc
theorem Kp.fz {a b : World} (h : Kp a b) {g i : Nat} {f : Bool} (hg : g < a.heap.size) (hc : a.frozen? ⟨g, i, none⟩ = f) : b.frozen? ⟨g, i, none⟩ = f := (h.below.frozen (p := ⟨g, i, none⟩) hg).trans hc
theorem Kp.al {a b : World} {o : Obj} (h : Kp (a.alloc o) b) : Kp a b := ((Kp.refl a).alloc o).trans h
theorem Kp.lt {a b : World} (h : Kp a b) {g : Nat} (hg : g < a.heap.size) : g < b.heap.size := Nat.lt_of_lt_of_le hg h.size
/-- Behind a call: all old cells and marks read as before (two rules for the walk). -/
theorem Kp.cf {a b : World} (h : Kp a b) {n : Nat} (hn : a.heap.size = n) : (∀ g i, g < n → b.cell? ⟨g, i, none⟩ = a.cell? ⟨g, i, none⟩) ∧ (∀ g i, g < n → b.frozen? ⟨g, i, none⟩ = a.frozen? ⟨g, i, none⟩) := by
  subst hn
  exact ⟨fun g i hg => h.below.cell (p := ⟨g, i, none⟩) hg, fun g i hg => h.below.frozen (p := ⟨g, i, none⟩) hg⟩
end Go.Proofs.Ythppkofceancjaa
namespace Go.Proofs.Ythppkofceancjaa
open Go.ChangeShapes Go.WideShapes Go.ChangeAt Go.RowKit
/-- A type of elements: its cells. -/
structure Cod (α : Type) where
  f : α → List Value
  k : Nat
  u8 : Nat
  hf : ∀ x, (f x).length = k
/-- The slice at A reads as xs, below block B. -/
def Rd {α : Type} (C : Cod α) (w : World) (B : Nat) (A : Option Addr) (xs : List α) : Prop := Sl w B C.k C.u8 A xs.length (xs.flatMap C.f)
/-- The value v reads as xs, below block B. -/
def Rv {α : Type} (C : Cod α) (w : World) (B : Nat) (v : Value) (xs : List α) : Prop := ∃ A c, v = .slice A xs.length c ∧ xs.length ≤ c ∧ Rd C w B A xs
/-- v is a row of the call's own, of elements of type E, that reads as xs. -/
def Ow {α : Type} (C : Cod α) (E : TypeId) (w : World) (base : Nat) (v : Value) (xs : List α) : Prop := w.ownsRow base E C.k v xs.length (xs.flatMap C.f)
section
variable {α : Type} {C : Cod α} {w w' : World} {B B' : Nat} {A : Option Addr} {v : Value} {xs : List α} {E : TypeId} {base : Nat}
theorem Rd.mono (h : Rd C w B A xs) (hB : B ≤ B') : Rd C w B' A xs := Sl.mono h hB
theorem Rd.below (h : Rd C w B A xs) (hb : Below B w w') : Rd C w' B A xs := Sl.below h hb
theorem Rd.kp (h : Rd C w w.heap.size A xs) (k : Kp w w') : Rd C w' w'.heap.size A xs := (h.below k.below).mono k.size
theorem Rd.room (h : Rd C w B A xs) : xs.length * C.u8 ≤ 140737488355328 := h.2.1
theorem Rd.nil_ : Rd C w B A [] := Sl.nil_
theorem Rd.at_ [Inhabited α] (h : Rd C w B A xs) {i : Nat} (hi : i < xs.length) : ∃ b off, A = some ⟨b, off, none⟩ ∧ b < B ∧ ∀ j u, j < C.k → (C.f (ga xs i))[j]? = some u → w.cell? ⟨b, off + (i * C.k + j), none⟩ = some u := by
  obtain ⟨b, off, e, hb, hc⟩ := Sl.at_ h (by omega)
  exact ⟨b, off, e, hb, fun j u hj hu => hc _ u (by rw [flat_get C.hf hi hj, ← ga_eq hi]; exact hu)⟩
theorem Rv.mono (h : Rv C w B v xs) (hB : B ≤ B') : Rv C w B' v xs := by
  obtain ⟨A, c, e, hc, h⟩ := h
  exact ⟨A, c, e, hc, h.mono hB⟩
theorem Rv.below (h : Rv C w B v xs) (hb : Below B w w') : Rv C w' B v xs := by
  obtain ⟨A, c, e, hc, h⟩ := h
  exact ⟨A, c, e, hc, h.below hb⟩
theorem Ow.nil_ : Ow C E w base (.slice none 0 0) [] := own_nil w base E C.k
theorem Ow.kp (h : Ow C E w base v xs) (hk : Kp w w') : Ow C E w' base v xs := own_kp h hk
theorem Ow.lt (h : Ow C E w base v xs) : ∀ k, v.ownBlock = some k → base ≤ k ∧ k < w.heap.size := World.ownsRow.lt h
theorem Ow.kept {row : Option Nat} (h : Ow C E w base v xs) (hg : Gr w w' row) (hne : v.ownBlock = none ∨ v.ownBlock ≠ row) : Ow C E w' base v xs := World.ownsRow.kept h hg hne
theorem Ow.sl (h : Ow C E w base v xs) : ∃ A c, v = .slice A xs.length c ∧ xs.length ≤ c := by
  rcases h.2 with ⟨rfl, h1⟩ | ⟨g, cap, cur, rfl, hg, _, hle, _⟩
  · exact ⟨none, 0, by rw [h1], by omega⟩
  · exact ⟨_, cap, rfl, hle⟩
theorem Ow.n_eq {n c : Nat} (h : Ow C E w base (.slice A n c) xs) : n = xs.length := by
  rcases h.2 with ⟨h1, h2⟩ | ⟨g, c, cur, h1, _⟩
  · injection h1 with _ h3; omega
  · injection h1
theorem Ow.cell [Inhabited α] {g n c : Nat} (h : Ow C E w base (.slice (some ⟨g, 0, none⟩) n c) xs) {i : Nat} (hi : i < xs.length) {j : Nat} {u : Value} (hj : j < C.k) (hu : (C.f (ga xs i))[j]? = some u) : w.cell? ⟨g, i * C.k + j, none⟩ = some u := by
  obtain rfl := h.n_eq
  have hlt : i * C.k + j < xs.length * C.k := by
    have := Nat.mul_le_mul_right C.k (show i + 1 ≤ xs.length by omega)
    rw [Nat.succ_mul] at this
    omega
  rw [World.ownsRow.cellAt h _ hlt, flat_get C.hf hi hj, ← ga_eq hi, hu]
theorem Ow.free {g n c : Nat} (h : Ow C E w base (.slice (some ⟨g, 0, none⟩) n c) xs) (i : Nat) : w.frozen? ⟨g, i, none⟩ = false := by
  obtain rfl := h.n_eq
  exact World.ownsRow.frozenAt h i
end
structure Cr where
  a : Int
  b : Int
  c : Int
  d : Int
  plus : Bool
instance : Inhabited Cr := ⟨⟨0, 0, 0, 0, false⟩⟩
def crF (x : Cr) : List Value := [.int .i64 x.a, .int .i64 x.b, .int .i64 x.c, .int .i64 x.d, .bool x.plus]
def codCr : Cod Cr := ⟨crF, 5, 40, fun _ => rfl⟩
def crV (x : Cr) : Value := .agg #[.int .i64 x.a, .int .i64 x.b, .int .i64 x.c, .int .i64 x.d, .bool x.plus]
theorem crAt {w : World} {B : Nat} {A : Option Addr} {xs : List Cr} (h : Rd codCr w B A xs) {i : Nat} (hi : i < xs.length) : ∃ b off, A = some ⟨b, off, none⟩ ∧ b < B ∧
    w.cell? ⟨b, off + i * 5, none⟩ = some (.int .i64 (ga xs i).a) ∧ w.cell? ⟨b, off + i * 5 + 1, none⟩ = some (.int .i64 (ga xs i).b) ∧
    w.cell? ⟨b, off + i * 5 + 2, none⟩ = some (.int .i64 (ga xs i).c) ∧ w.cell? ⟨b, off + i * 5 + 3, none⟩ = some (.int .i64 (ga xs i).d) ∧
    w.cell? ⟨b, off + i * 5 + 4, none⟩ = some (.bool (ga xs i).plus) := by
  obtain ⟨b, off, e, hb, hc⟩ := h.at_ hi
  exact ⟨b, off, e, hb, hc 0 _ (by decide) rfl, hc 1 _ (by decide) rfl, hc 2 _ (by decide) rfl, hc 3 _ (by decide) rfl, hc 4 _ (by decide) rfl⟩
/-- A diagram. -/
structure Dg where
  crs : List Cr
  loops : Int
/-- v, below block B, reads as the diagram d. -/
def IsDg (w : World) (B : Nat) (v : Value) (d : Dg) : Prop := ∃ A c, v = .agg #[.slice A d.crs.length c, .int .i64 d.loops] ∧ d.crs.length ≤ c ∧ Rd codCr w B A d.crs
/-- An old block lies below the new ones: as the walk asks it. -/
theorem lts {b n : Nat} (h : b < n) : b < n ∧ b < n + 1 ∧ b < n + 2 ∧ b < n + 3 ∧ b < n + 4 := by omega
def Blk (w : World) (g : Nat) (t : TypeId) (cs : Array Value) : Prop := w.heap[g]? = some (.cells cs t (0, 0))
section
variable {w w' : World} {g : Nat} {t : TypeId} {cs : Array Value}
theorem Blk.lt (h : Blk w g t cs) : g < w.heap.size := by
  rcases Nat.lt_or_ge g w.heap.size with hlt | hge
  · exact hlt
  · unfold Blk at h; rw [Array.getElem?_eq_none hge] at h; cases h
theorem Blk.cell (h : Blk w g t cs) (i : Nat) {u : Value} (hu : cs[i]? = some u) : w.cell? ⟨g, i, none⟩ = some u := by rw [cell_of_row w g i cs t (0, 0) h, hu]
theorem Blk.free (h : Blk w g t cs) (i : Nat) : w.frozen? ⟨g, i, none⟩ = false := frozen_of_row w g i cs t h
theorem Blk.new (w : World) (t : TypeId) (cs : Array Value) : Blk (w.alloc (.cells cs t)) w.heap.size t cs := heap_alloc_new w _
theorem Blk.new' (w : World) (t : TypeId) (cs : Array Value) {n : Nat} (hn : w.heap.size = n) : Blk (w.alloc (.cells cs t)) n t cs := by subst hn; exact heap_alloc_new w _
theorem Blk.drew (h : Blk w g t cs) : Blk w.drew g t cs := h
theorem Blk.alloc (h : Blk w g t cs) (o : Obj) : Blk (w.alloc o) g t cs := (Below.heap_alloc w o g h.lt).trans h
theorem Blk.far (h : Blk w g t cs) {p : Addr} (hp : g ≠ p.block) (u : Value) : Blk (w.setCell p u) g t cs := (Below.heap_setCell w p u g hp).trans h
theorem Blk.kp (h : Blk w g t cs) (hk : Kp w w') : Blk w' g t cs := (hk.block g h.lt).trans h
theorem Blk.gr {row : Option Nat} (h : Blk w g t cs) (hg : Gr w w' row) (hne : some g ≠ row) : Blk w' g t cs := (hg.block g h.lt hne).trans h
end
theorem Blk.two {w : World} {g : Nat} {t : TypeId} {x y : Value} (h : Blk w g t #[x, y]) : w.cell? ⟨g, 0, none⟩ = some x ∧ w.cell? ⟨g, 1, none⟩ = some y ∧ w.frozen? ⟨g, 0, none⟩ = false ∧ w.frozen? ⟨g, 1, none⟩ = false :=
  ⟨h.cell 0 rfl, h.cell 1 rfl, h.free 0, h.free 1⟩
theorem make_of {P : Program} {T E : TypeId} {k u8 : Nat} {z : Value} (hT : SlT P T E k u8 z) (n : Nat) (x : Int) (hx : x = (n : Int)) (hb : n * u8 ≤ 140737488355328) (w : World) :
    (Instr.makeSlice T (.int .i64 x) (.int .i64 x)).run P w = .ok (.slice (some ⟨w.heap.size, 0, none⟩) n n) (w.alloc (.cells (madeCells z.cells (n * k)) E)) := by
  subst hx
  obtain ⟨ht, hinfo, hzs, hsz, h8⟩ := hT
  obtain ⟨i, hi, hz, hsize, hby⟩ := info_parts hinfo
  have h1 : n * 1 ≤ n * u8 := Nat.mul_le_mul_left n h8
  have hr := run_make (P := P) w T E i z ht hi hz .i64 .i64 (n : Int) (n : Int) (by omega) (by omega) (by
    rw [hby]
    have h : ((u8 * n : Nat) : Int) ≤ 140737488355328 := by rw [Nat.mul_comm]; omega
    rw [Int.natCast_mul] at h
    omega) (by omega)
  rw [hsize] at hr
  simpa using hr
theorem made_cells {α : Type} (C : Cod α) (y : α) (z : Value) (hz : z.cells.toList = C.f y) (n : Nat) : (madeCells z.cells (n * C.k)).toList = (List.replicate n y).flatMap C.f := by
  have hk : z.cells.size = C.k := by rw [← C.hf y, ← hz]; simp
  apply List.ext_getElem?
  intro m
  by_cases hm : m < n * C.k
  · have hk0 : 0 < C.k := by
      rcases Nat.eq_zero_or_pos C.k with h | h
      · rw [h, Nat.mul_zero] at hm; omega
      · exact h
    have hi : m / C.k < (List.replicate n y).length := by rw [List.length_replicate]; exact (Nat.div_lt_iff_lt_mul hk0).2 hm
    have hj : m % C.k < C.k := Nat.mod_lt _ hk0
    have e := flat_get C.hf hi hj
    rw [show m / C.k * C.k + m % C.k = m by rw [Nat.mul_comm]; exact Nat.div_add_mod m C.k] at e
    rw [e, List.getElem_replicate, ← hz]
    simp only [madeCells, hk, Array.toList_map, Array.toList_range, List.getElem?_map, List.getElem?_range hm, Option.map_some]
    rw [Array.getElem!_eq_getD]
    simp [hk, hj]
  · rw [List.getElem?_eq_none, List.getElem?_eq_none]
    · rw [flat_len C.hf, List.length_replicate]; omega
    · simp [madeCells]; omega
theorem Ow.of_blk {α : Type} {C : Cod α} {E : TypeId} {w : World} {g base : Nat} {cs : Array Value} {xs : List α} (h : Blk w g E cs) (hcs : cs.toList = xs.flatMap C.f) (hb : base ≤ g) (hm : xs.length ≤ maxLen) :
    Ow C E w base (.slice (some ⟨g, 0, none⟩) xs.length xs.length) xs := by
  have hl := flat_len C.hf xs
  refine ⟨hl, .inr ⟨g, xs.length, cs, rfl, hb, h, Nat.le_refl _, hm, by rw [← hl, ← hcs]; simp, ?_⟩⟩
  rw [hcs, ← hl, List.take_length]
theorem Ow.made {α : Type} {C : Cod α} {E : TypeId} {w : World} {g base n : Nat} {y : α} {z : Value} (hz : z.cells.toList = C.f y) (h : Blk w g E (madeCells z.cells (n * C.k))) (hb : base ≤ g) (hm : n ≤ maxLen) :
    Ow C E w base (.slice (some ⟨g, 0, none⟩) n n) (List.replicate n y) := by
  have := Ow.of_blk (C := C) (xs := List.replicate n y) h (made_cells C y z hz n) hb (by simpa using hm)
  simpa using this
def codI : Cod Int := ⟨fun x => [iv x], 1, 8, fun _ => rfl⟩
theorem flat_iv (xs : List Int) : xs.flatMap codI.f = xs.map iv := by
  induction xs with
  | nil => rfl
  | cons x xs ih => rw [List.flatMap_cons, ih]; rfl
theorem OwnI.of_ow {w : World} {base : Nat} {v : Value} {xs : List Int} (h : Ow codI 3 w base v xs) : OwnI w base v xs := by
  unfold OwnI
  rw [← flat_iv]
  exact h
theorem Kp.alt {w w1 : World} {o : Obj} (h : Kp (w.alloc o) w1) : w.heap.size < w1.heap.size := by
  have := h.size
  simp at this
  omega
theorem Ow.base {α : Type} {C : Cod α} {E : TypeId} {w : World} {b b' : Nat} {v : Value} {xs : List α} (h : Ow C E w b v xs) (hb : b' ≤ b) : Ow C E w b' v xs := by
  rcases h with ⟨h1, h2 | ⟨g, cap, cur, r1, r2, r3⟩⟩
  · exact ⟨h1, .inl h2⟩
  · exact ⟨h1, .inr ⟨g, cap, cur, r1, by omega, r3⟩⟩
theorem Ow.ne_ {α β : Type} {C : Cod α} {C' : Cod β} {E E' : TypeId} {w : World} {b b' : Nat} {v v' : Value} {xs : List α} {ys : List β} (h : Ow C E w b v xs) (h' : Ow C' E' w b' v' ys) (hne : E ≠ E') : v.ownBlock = none ∨ v.ownBlock ≠ v'.ownBlock := by
  rcases h.2 with ⟨rfl, _⟩ | ⟨g, cap, cur, rfl, _, hh, _⟩
  · exact .inl rfl
  · rcases h'.2 with ⟨rfl, _⟩ | ⟨g', cap', cur', rfl, _, hh', _⟩
    · exact .inr (by simp [Value.ownBlock])
    · refine .inr fun e => ?_
      simp only [Value.ownBlock, Option.some.injEq] at e
      subst e
      rw [hh] at hh'
      injection hh' with h1
      injection h1 with _ h2
      exact hne h2
theorem Ow.ne_blk {α : Type} {C : Cod α} {E t : TypeId} {w : World} {b g : Nat} {v : Value} {xs : List α} {cs : Array Value} (h : Ow C E w b v xs) (h' : Blk w g t cs) (hne : E ≠ t) : v.ownBlock = none ∨ v.ownBlock ≠ some g := by
  rcases h.2 with ⟨rfl, _⟩ | ⟨g', cap, cur, rfl, _, hh, _⟩
  · exact .inl rfl
  · refine .inr fun e => ?_
    simp only [Value.ownBlock, Option.some.injEq] at e
    subst e
    unfold Blk at h'
    rw [hh] at h'
    injection h' with h1
    injection h1 with _ h2
    exact hne h2
/-- A store of two cells. -/
theorem Ow.set2 {α : Type} [Inhabited α] {C : Cod α} {E : TypeId} {w : World} {base g n c : Nat} {xs : List α} (h : Ow C E w base (.slice (some ⟨g, 0, none⟩) n c) xs) (hk : C.k = 2) {i : Nat} (hi : i < xs.length) (u0 u1 : Value) (y : α) (hy : C.f y = [u0, u1]) :
    Ow C E ((w.setCell ⟨g, i * 2, none⟩ u0).setCell ⟨g, i * 2 + 1, none⟩ u1) base (.slice (some ⟨g, 0, none⟩) n c) (xs.set i y) := by
  obtain rfl := h.n_eq
  have hl : (C.f (ga xs i)).length = 2 := by rw [C.hf, hk]
  have e1 := (World.ownsRow.stored h (i * 2) u0).1
  have e2 := (World.ownsRow.stored e1 (i * 2 + 1) u1).1
  unfold Ow
  rw [List.length_set]
  have hx : ((xs.flatMap C.f).set (i * 2) u0).set (i * 2 + 1) u1 = (xs.set i y).flatMap C.f := by
    apply List.ext_getElem?
    intro m
    have hm2 : m = m / 2 * 2 + m % 2 := by omega
    by_cases hm : m < xs.length * 2
    · have hmi : m / 2 < xs.length := by omega
      have hmj : m % 2 < C.k := by omega
      have g1 := flat_get C.hf hmi hmj
      have g2 := flat_get (xs := xs.set i y) C.hf (i := m / 2) (j := m % 2) (by rw [List.length_set]; exact hmi) hmj
      rw [hk, ← hm2] at g1 g2
      rw [g2, List.getElem?_set, List.getElem?_set, List.length_set, flat_len C.hf, hk, g1]
      by_cases h1 : i = m / 2
      · have e : (xs.set i y)[m / 2]'(by rw [List.length_set]; exact hmi) = y := by subst h1; simp
        rw [e, hy]
        rcases (show m % 2 = 0 ∨ m % 2 = 1 by omega) with h2 | h2
        · rw [if_neg (by omega), if_pos (by omega), if_pos (by omega), h2]; rfl
        · rw [if_pos (by omega), if_pos (by omega), h2]; rfl
      · have e : (xs.set i y)[m / 2]'(by rw [List.length_set]; exact hmi) = xs[m / 2] := by rw [List.getElem_set_ne (by omega)]
        rw [e, if_neg (by omega), if_neg (by omega)]
    · rw [List.getElem?_eq_none (by rw [List.length_set, List.length_set, flat_len C.hf, hk]; omega), List.getElem?_eq_none (by rw [flat_len C.hf, List.length_set, hk]; omega)]
  rw [← hx]
  exact e2
theorem gr_set2 {w : World} {g i j : Nat} (u v : Value) : Gr w ((w.setCell ⟨g, i, none⟩ u).setCell ⟨g, j, none⟩ v) (some g) := gr_setCell (gr_setCell (gr_refl w _) i u) j v
theorem gr_set1 {w : World} {g i : Nat} (u : Value) : Gr w (w.setCell ⟨g, i, none⟩ u) (some g) := gr_setCell (gr_refl w _) i u
theorem Blk.cr {w : World} {g : Nat} {t : TypeId} {a b c d e : Value} (h : Blk w g t #[a, b, c, d, e]) : w.cell? ⟨g, 0, none⟩ = some a ∧ w.cell? ⟨g, 1, none⟩ = some b ∧ w.cell? ⟨g, 2, none⟩ = some c ∧ w.cell? ⟨g, 3, none⟩ = some d ∧ w.cell? ⟨g, 4, none⟩ = some e :=
  ⟨h.cell 0 rfl, h.cell 1 rfl, h.cell 2 rfl, h.cell 3 rfl, h.cell 4 rfl⟩
theorem Blk.four {w : World} {g : Nat} {t : TypeId} {a b c d : Value} (h : Blk w g t #[a, b, c, d]) : w.cell? ⟨g, 0, none⟩ = some a ∧ w.cell? ⟨g, 1, none⟩ = some b ∧ w.cell? ⟨g, 2, none⟩ = some c ∧ w.cell? ⟨g, 3, none⟩ = some d :=
  ⟨h.cell 0 rfl, h.cell 1 rfl, h.cell 2 rfl, h.cell 3 rfl⟩
end Go.Proofs.Ythppkofceancjaa
namespace Go.Proofs.Ythppkofceancjaa
open Go.ChangeShapes Go.WideShapes Go.ChangeAt Go.RowKit
def crArc (x : Cr) (k : Nat) : Int := if k = 0 then x.a else if k = 1 then x.b else if k = 2 then x.c else x.d
def crIn (x : Cr) (k : Nat) : Bool := decide (k = 0 ∨ k = 1 ∧ x.plus = false ∨ k = 3 ∧ x.plus = true)
def arcAt (d : Dg) (c k : Nat) : Int := crArc (ga d.crs c) k
def entryB (d : Dg) (c k : Nat) : Bool := crIn (ga d.crs c) k
def IntPost (n : Int) (w : World) (e : Ending) (w' : World) : Prop := e = .returned (.int .i64 n) ∧ Kp w w'
def BoPost (b : Bool) (w : World) (e : Ending) (w' : World) : Prop := e = .returned (.bool b) ∧ Kp w w'
set_option maxHeartbeats 1000000 in
theorem arcAt_any (v : Value) (d : Dg) (c k : Nat) (w : World) (hd : IsDg w w.heap.size v d) (hc : c < d.crs.length) (hk : k < 4) :
    Calls Try.prog 28 #[v, .agg #[.int .i64 c, .int .i64 k]] w (IntPost (arcAt d c k) w) := by
  obtain ⟨A, cap, rfl, hcap, hr⟩ := hd
  have hrm := hr.room
  obtain ⟨b, off, rfl, hb, c0, c1, c2, c3, c4⟩ := crAt hr hc
  have hkk : k = 0 ∨ k = 1 ∨ k = 2 ∨ k = 3 := by omega
  obtain ⟨l0, l1, l2, l3, l4⟩ := lts hb
  clear hr
  rcases hkk with rfl | rfl | rfl | rfl
  all_goals
    go_enter Try.func28, Try.ntmps28
    go_wp2_with fail
    go_ret
    exact ⟨rfl, (((Kp.refl _).alloc _).alloc _).alloc _⟩
set_option maxHeartbeats 2000000 in
theorem entry_any (v : Value) (d : Dg) (c k : Nat) (w : World) (hd : IsDg w w.heap.size v d) (hc : c < d.crs.length) (hk : k < 4) :
    Calls Try.prog 29 #[v, .agg #[.int .i64 c, .int .i64 k]] w (BoPost (entryB d c k) w) := by
  obtain ⟨A, cap, rfl, hcap, hr⟩ := hd
  have hrm := hr.room
  obtain ⟨b, off, rfl, hb, c0, c1, c2, c3, c4⟩ := crAt hr hc
  obtain ⟨l0, l1, l2, l3, l4⟩ := lts hb
  have hkk : k = 0 ∨ k = 1 ∨ k = 2 ∨ k = 3 := by omega
  clear hr c0 c1 c2 c3
  unfold entryB
  generalize ga d.crs c = x at *
  obtain ⟨xa, xb, xc, xd, xp⟩ := x
  dsimp only at c4
  rcases hkk with rfl | rfl | rfl | rfl
  all_goals
    cases xp
    all_goals
      go_enter Try.func29, Try.ntmps29
      go_wp2_with fail
      go_ret
      exact ⟨rfl, ((Kp.refl _).alloc _).alloc _⟩
/-- Is the place number j where the arc a comes in (or, back, goes out)? -/
def endP (d : Dg) (a : Int) (back : Bool) (j : Nat) : Bool := decide (arcAt d (j / 4) (j % 4) = a) && (entryB d (j / 4) (j % 4) != back)
def endOf (d : Dg) (a : Int) (back : Bool) : Nat × Nat :=
  match (List.range (4 * d.crs.length)).find? (endP d a back) with
  | some j => (j / 4, j % 4)
  | none => (0, 0)
theorem endOf_hit {d : Dg} {a : Int} {back : Bool} {j : Nat} (hj : j < 4 * d.crs.length) (h : endP d a back j = true) (h0 : ∀ i, i < j → endP d a back i = false) : endOf d a back = (j / 4, j % 4) := by
  have : (List.range (4 * d.crs.length)).find? (endP d a back) = some j := by
    rw [List.find?_range_eq_some]
    exact ⟨h, by simpa using hj, fun i hi => by simp [h0 i hi]⟩
  unfold endOf
  rw [this]
theorem endOf_miss {d : Dg} {a : Int} {back : Bool} (h0 : ∀ i, i < 4 * d.crs.length → endP d a back i = false) : endOf d a back = (0, 0) := by
  have : (List.range (4 * d.crs.length)).find? (endP d a back) = none := by
    rw [List.find?_eq_none]
    intro i hi
    simp [h0 i (by simpa using hi)]
  unfold endOf
  rw [this]
theorem endP_at {d : Dg} {a : Int} {back : Bool} {i k : Nat} (hk : k < 4) : endP d a back (4 * i + k) = (decide (arcAt d i k = a) && (entryB d i k != back)) := by
  unfold endP
  rw [show (4 * i + k) / 4 = i by omega, show (4 * i + k) % 4 = k by omega]
end Go.Proofs.Ythppkofceancjaa
namespace Go.Proofs.Ythppkofceancjaa
open Go.ChangeShapes Go.WideShapes Go.ChangeAt Go.RowKit
def cdCr : Cd Cr := ⟨crF, 5, 40, 55, ⟨0, 0, 0, 0, false⟩, fun _ => rfl, by
  intro x u hu
  simp [crF] at hu
  rcases hu with rfl | rfl | rfl | rfl | rfl <;> rfl⟩
end Go.Proofs.Ythppkofceancjaa
namespace Go.Proofs.Ythppkofceancjaa
open Go.ChangeShapes Go.WideShapes Go.ChangeAt Go.RowKit
theorem slCr : SlT Try.prog 22 55 5 40 (.agg #[.int .i64 0, .int .i64 0, .int .i64 0, .int .i64 0, .bool false]) := ⟨Try.underlying22, by kernel_rfl, rfl, by omega, by omega⟩
theorem cr_one (xs : List Cr) : ∀ u ∈ xs.flatMap codCr.f, u.oneCell' = true := by
  intro u hu
  obtain ⟨x, _, hx⟩ := List.mem_flatMap.1 hu
  simp [codCr, crF] at hx
  rcases hx with rfl | rfl | rfl | rfl | rfl <;> rfl
end Go.Proofs.Ythppkofceancjaa
namespace Go.Proofs.Ythppkofceancjaa
open Go.ChangeShapes Go.WideShapes Go.ChangeAt Go.RowKit
/-- How many of the first j places are where the arc a comes in (or, back, goes out). -/
def cntP (d : Dg) (a : Int) (back : Bool) (j : Nat) : Nat := (List.range j).countP (endP d a back)
theorem cntP_succ (d : Dg) (a : Int) (back : Bool) (j : Nat) : cntP d a back (j + 1) = cntP d a back j + if endP d a back j = true then 1 else 0 := by
  unfold cntP
  rw [List.range_succ, List.countP_append, List.countP_singleton]
theorem cntP_le (d : Dg) (a : Int) (back : Bool) (j : Nat) : cntP d a back j ≤ j := by
  unfold cntP
  have := List.countP_le_length (p := endP d a back) (l := List.range j)
  simpa using this
theorem cntP_at {d : Dg} {a : Int} {back : Bool} {i k : Nat} (hk : k < 4) :
    cntP d a back (4 * i + (k + 1)) = cntP d a back (4 * i + k) + if arcAt d i k = a ∧ entryB d i k ≠ back then 1 else 0 := by
  rw [← Nat.add_assoc, cntP_succ, endP_at hk]
  simp
def arcOk (d : Dg) (a : Int) : Bool := cntP d a false (4 * d.crs.length) == 1 && cntP d a true (4 * d.crs.length) == 1
def mayB (d : Dg) : Bool := decide (d.crs.length ≤ 16 ∧ 0 ≤ d.loops ∧ d.loops ≤ 16 ∧ ¬ (d.crs.length = 0 ∧ d.loops = 0)) && (List.range (2 * d.crs.length)).all fun a => arcOk d ((a + 1 : Nat) : Int)
theorem mayB_size {d : Dg} (h : ¬ (d.crs.length ≤ 16 ∧ 0 ≤ d.loops ∧ d.loops ≤ 16 ∧ ¬ (d.crs.length = 0 ∧ d.loops = 0))) : mayB d = false := by
  unfold mayB; rw [decide_eq_false h]; rfl
theorem mayB_arc {d : Dg} {a : Nat} (h0 : 1 ≤ a) (h1 : a ≤ 2 * d.crs.length) (h : arcOk d a = false) : mayB d = false := by
  unfold mayB
  rw [Bool.and_eq_false_iff]
  refine .inr (List.all_eq_false.2 ⟨a - 1, by simp; omega, ?_⟩)
  rw [show a - 1 + 1 = a by omega, h]; simp
theorem mayB_yes {d : Dg} (h : d.crs.length ≤ 16 ∧ 0 ≤ d.loops ∧ d.loops ≤ 16 ∧ ¬ (d.crs.length = 0 ∧ d.loops = 0)) (h2 : ∀ a : Nat, 1 ≤ a → a ≤ 2 * d.crs.length → arcOk d a = true) : mayB d = true := by
  unfold mayB
  rw [decide_eq_true h, Bool.true_and]
  refine List.all_eq_true.2 fun a ha => h2 (a + 1) (by omega) ?_
  simp at ha
  omega
set_option maxHeartbeats 2000000 in
theorem diagramMay_size (v : Value) (d : Dg) (w : World) (hd : IsDg w w.heap.size v d) (h : ¬ (d.crs.length ≤ 16 ∧ 0 ≤ d.loops ∧ d.loops ≤ 16 ∧ ¬ (d.crs.length = 0 ∧ d.loops = 0))) :
    Calls Try.prog 23 #[v] w (BoPost false w) := by
  obtain ⟨A, cap, rfl, hcap, hr⟩ := hd
  have hrm : d.crs.length * 40 ≤ 140737488355328 := hr.room
  clear hr
  obtain ⟨cs, loops⟩ := d
  dsimp only at *
  generalize cs.length = n at *
  by_cases h1 : 16 < n
  · go_enter Try.func23, Try.ntmps23
    go_wp2_with fail
    go_ret
    exact ⟨rfl, (Kp.refl _).alloc _⟩
  · by_cases h2 : loops < 0
    · go_enter Try.func23, Try.ntmps23
      go_wp2_with fail
      go_ret
      exact ⟨rfl, (Kp.refl _).alloc _⟩
    · by_cases h3 : 16 < loops
      · go_enter Try.func23, Try.ntmps23
        go_wp2_with fail
        go_ret
        exact ⟨rfl, (Kp.refl _).alloc _⟩
      · obtain ⟨rfl, rfl⟩ : n = 0 ∧ loops = 0 := by omega
        go_enter Try.func23, Try.ntmps23
        go_wp2_with fail
        go_ret
        exact ⟨rfl, (Kp.refl _).alloc _⟩
set_option maxHeartbeats 4000000 in
theorem diagramMay_arcs (v : Value) (d : Dg) (w : World) (hd : IsDg w w.heap.size v d) (h : d.crs.length ≤ 16 ∧ 0 ≤ d.loops ∧ d.loops ≤ 16 ∧ ¬ (d.crs.length = 0 ∧ d.loops = 0)) :
    Calls Try.prog 23 #[v] w (BoPost (mayB d) w) := by
  obtain ⟨A, cap, rfl, hcap, hr⟩ := hd
  have hd : ∀ w', Kp w w' → IsDg w' w'.heap.size (.agg #[.slice A d.crs.length cap, .int .i64 d.loops]) d := fun w' hk => ⟨A, cap, rfl, hcap, hr.kp hk⟩
  have HD := Lib.hid hd
  clear hd hr
  have Hsz := Lib.hid h
  obtain ⟨h1, h2, h3, h4⟩ := h
  have hq : ¬ (d.crs.length = 0 ∧ d.loops = 0) → (((d.crs.length : Int) == 0 : Bool) = false) ∨ ((((d.crs.length : Int) == 0) : Bool) = true ∧ ((d.loops == 0) : Bool) = false) := by
    intro h
    by_cases h0 : d.crs.length = 0
    · exact .inr ⟨by rw [beq_iff_eq]; omega, by rw [beq_eq_false_iff_ne]; omega⟩
    · exact .inl (by rw [beq_eq_false_iff_ne]; omega)
  have hq' := hq h4
  clear hq h4
  go_enter Try.func23, Try.ntmps23
  go_upto_region 2 with (fail)
  go_cut [33] (fun c wx => c = .bool false ∧ wx = w.alloc (.cells #[.slice A d.crs.length cap, .int .i64 d.loops] 24))
  case first =>
    rcases hq' with hq' | ⟨hq', hq''⟩
    · go_wp2_with fail
      go_meet
      case rel => exact ⟨congrArg Value.bool (by simp; omega), rfl⟩
    · go_wp2_with fail
      go_meet
      case rel => exact ⟨congrArg Value.bool (by simp; omega), rfl⟩
  case rest =>
    obtain ⟨rfl, rfl⟩ := hcut
    clear hq'
    go_wp2_with fail
    go_loopw [4] (fun i wr => ∃ a : Nat, 1 ≤ a ∧ a ≤ 2 * d.crs.length + 1 ∧ i = .int .i64 a ∧ Hid (∀ a' : Nat, 1 ≤ a' → a' < a → arcOk d a' = true) ∧ Kp w wr ∧
      Blk wr w.heap.size 24 #[.slice A d.crs.length cap, .int .i64 d.loops]) (fun i _ => 2 * d.crs.length + 1 - (intOf i).toNat)
    case atStart => exact ⟨1, by omega, by omega, rfl, fun a h1 h2 => by omega, (Kp.refl _).alloc _, Blk.new _ _ _⟩
    case round =>
      obtain ⟨a, ha0, ha1, rfl, hok, hk, hB⟩ := hrel
      by_cases hlt : a ≤ 2 * d.crs.length
      · obtain ⟨wo, rfl⟩ : ∃ wo : World, wo = wr := ⟨_, rfl⟩
        have ta : decide ((a : Int) ≤ 2 * (d.crs.length : Int)) = true := by simp; omega
        go_wp2_with fail
        go_loopw [5, 6, 7] (fun ci co i wr => ∃ n : Nat, n ≤ d.crs.length ∧ i = .int .i64 n ∧ ci = .int .i64 (cntP d a false (4 * n)) ∧ co = .int .i64 (cntP d a true (4 * n)) ∧ Kp w wr ∧
          Blk wr w.heap.size 24 #[.slice A d.crs.length cap, .int .i64 d.loops]) (fun _ _ i _ => d.crs.length - (intOf i).toNat)
        case atStart => exact ⟨0, Nat.zero_le _, rfl, rfl, rfl, hk, hB⟩
        case round =>
          clear hk hB
          obtain ⟨n, hn, rfl, rfl, rfl, hk, hB⟩ := hrel
          by_cases hlt2 : n < d.crs.length
          · clear wo
            obtain ⟨wo, rfl⟩ : ∃ wo : World, wo = wr := ⟨_, rfl⟩
            have cl1 := cntP_le d a false (4 * n)
            have cl2 := cntP_le d a true (4 * n)
            go_wp2_with fail
            go_loopw [5, 6, 8] (fun ci co i wr => ∃ m : Nat, m ≤ 4 ∧ i = .int .i64 m ∧ ci = .int .i64 (cntP d a false (4 * n + m)) ∧ co = .int .i64 (cntP d a true (4 * n + m)) ∧ Kp w wr ∧
              Blk wr w.heap.size 24 #[.slice A d.crs.length cap, .int .i64 d.loops]) (fun _ _ i _ => 4 - (intOf i).toNat)
            case atStart => exact ⟨0, Nat.zero_le _, rfl, rfl, rfl, hk, hB⟩
            case round =>
              clear hk hB cl1 cl2
              obtain ⟨m, hm, rfl, rfl, rfl, hk, hB⟩ := hrel
              obtain ⟨e0, e1, e2, e3⟩ := hB.two
              obtain ⟨s00, s01, s02, s03, s04⟩ := lts hB.lt
              by_cases hm4 : m < 4
              · have c1 := cntP_at (d := d) (a := a) (back := false) (i := n) hm4
                have c2 := cntP_at (d := d) (a := a) (back := true) (i := n) hm4
                have cl1 := cntP_le d a false (4 * n + m)
                have cl2 := cntP_le d a true (4 * n + m)
                by_cases ha : arcAt d n m = (a : Int)
                · have t1 : ((arcAt d n m == (a : Int)) : Bool) = true := by rw [beq_iff_eq]; exact ha
                  have s4 : 4 * n + m < 64 := by omega
                  cases he : entryB d n m
                  · rw [if_neg (by simp [he])] at c1
                    rw [if_pos (by simp [ha, he])] at c2
                    have c1' := Lib.hid c1
                    have c2' := Lib.hid c2
                    have he' := Lib.hid he
                    clear c1 c2 ha he
                    go_wp2_with fail
                    refine (arcAt_any _ d n m _ (HD.out _ (hk.alloc _)) hlt2 hm4).mono ?_; rintro e w1 ⟨rfl, hk1⟩
                    obtain ⟨cc, cf⟩ := hk1.cf (n := wr.heap.size + 1) (by simp)
                    go_wp2_with fail
                    refine (entry_any _ d n m _ (HD.out _ ((hk.alloc _).trans hk1)) hlt2 hm4).mono ?_; rintro e w2 ⟨rfl, hk2⟩
                    obtain ⟨c2, f2⟩ := (hk1.trans hk2).cf (n := wr.heap.size + 1) (by simp)
                    clear cc cf
                    rw [he'.out]
                    go_wp2_with fail
                    refine (arcAt_any _ d n m _ (HD.out _ (((hk.alloc _).trans hk1).trans hk2)) hlt2 hm4).mono ?_; rintro e w3 ⟨rfl, hk3⟩
                    obtain ⟨c3, f3⟩ := ((hk1.trans hk2).trans hk3).cf (n := wr.heap.size + 1) (by simp)
                    clear c2 f2
                    go_wp2_with fail
                    refine (entry_any _ d n m _ (HD.out _ ((((hk.alloc _).trans hk1).trans hk2).trans hk3)) hlt2 hm4).mono ?_; rintro e w4 ⟨rfl, hk4⟩
                    rw [he'.out]
                    go_wp2_with fail
                    go_roundw
                    case rel => exact ⟨m + 1, by omega, by go_num, by rw [c1'.out]; rfl, by rw [c2'.out]; go_num, (((hk.alloc _).trans hk1).trans hk2).trans (hk3.trans hk4), (((hB.alloc _).kp hk1).kp hk2).kp (hk3.trans hk4)⟩
                    case measure => simp [intOf] <;> omega
                  · rw [if_pos (by simp [ha, he])] at c1
                    rw [if_neg (by simp [he])] at c2
                    have c1' := Lib.hid c1
                    have c2' := Lib.hid c2
                    have he' := Lib.hid he
                    clear c1 c2 ha he
                    go_wp2_with fail
                    refine (arcAt_any _ d n m _ (HD.out _ (hk.alloc _)) hlt2 hm4).mono ?_; rintro e w1 ⟨rfl, hk1⟩
                    obtain ⟨cc, cf⟩ := hk1.cf (n := wr.heap.size + 1) (by simp)
                    go_wp2_with fail
                    refine (entry_any _ d n m _ (HD.out _ ((hk.alloc _).trans hk1)) hlt2 hm4).mono ?_; rintro e w2 ⟨rfl, hk2⟩
                    obtain ⟨c2, f2⟩ := (hk1.trans hk2).cf (n := wr.heap.size + 1) (by simp)
                    clear cc cf
                    rw [he'.out]
                    go_wp2_with fail
                    refine (arcAt_any _ d n m _ (HD.out _ (((hk.alloc _).trans hk1).trans hk2)) hlt2 hm4).mono ?_; rintro e w3 ⟨rfl, hk3⟩
                    obtain ⟨c3, f3⟩ := ((hk1.trans hk2).trans hk3).cf (n := wr.heap.size + 1) (by simp)
                    clear c2 f2
                    go_wp2_with fail
                    refine (entry_any _ d n m _ (HD.out _ ((((hk.alloc _).trans hk1).trans hk2).trans hk3)) hlt2 hm4).mono ?_; rintro e w4 ⟨rfl, hk4⟩
                    rw [he'.out]
                    go_wp2_with fail
                    go_roundw
                    case rel => exact ⟨m + 1, by omega, by go_num, by rw [c1'.out]; go_num, by rw [c2'.out]; rfl, (((hk.alloc _).trans hk1).trans hk2).trans (hk3.trans hk4), (((hB.alloc _).kp hk1).kp hk2).kp (hk3.trans hk4)⟩
                    case measure => simp [intOf] <;> omega
                · have t1 : ((arcAt d n m == (a : Int)) : Bool) = false := by rw [beq_eq_false_iff_ne]; exact ha
                  rw [if_neg (by simp [ha])] at c1 c2
                  have c1' := Lib.hid c1
                  have c2' := Lib.hid c2
                  clear c1 c2 ha
                  go_wp2_with fail
                  refine (arcAt_any _ d n m _ (HD.out _ (hk.alloc _)) hlt2 hm4).mono ?_; rintro e w1 ⟨rfl, hk1⟩
                  obtain ⟨cc, cf⟩ := hk1.cf (n := wr.heap.size + 1) (by simp)
                  go_wp2_with fail
                  refine (arcAt_any _ d n m _ (HD.out _ ((hk.alloc _).trans hk1)) hlt2 hm4).mono ?_; rintro e w2 ⟨rfl, hk2⟩
                  go_wp2_with fail
                  go_roundw
                  case rel => exact ⟨m + 1, by omega, by go_num, by rw [c1'.out]; rfl, by rw [c2'.out]; rfl, ((hk.alloc _).trans hk1).trans hk2, ((hB.alloc _).kp hk1).kp hk2⟩
                  case measure => simp [intOf] <;> omega
              · obtain rfl : m = 4 := by omega
                go_wp2_with fail
                go_roundw
                case rel => exact ⟨n + 1, by omega, by go_num, rfl, rfl, hk, hB⟩
                case measure => simp [intOf] <;> omega
          · obtain rfl : n = d.crs.length := by omega
            by_cases hin : cntP d a false (4 * d.crs.length) = 1
            · have i1 : ((((cntP d a false (4 * d.crs.length) : Nat) : Int) != 1) : Bool) = false := by simp only [bne_eq_false_iff_eq]; omega
              by_cases hout : cntP d a true (4 * d.crs.length) = 1
              · have i2 : ((((cntP d a true (4 * d.crs.length) : Nat) : Int) != 1) : Bool) = false := by simp only [bne_eq_false_iff_eq]; omega
                have hao : Hid (arcOk d a = true) := by rw [Hid]; unfold arcOk; rw [hin, hout]; rfl
                clear hin hout
                go_wp2_with fail
                go_roundw
                case rel => exact ⟨a + 1, by omega, by omega, by go_num, fun a' h1 h2 => by
                  rcases Nat.lt_or_ge a' a with h | h
                  · exact hok.out a' h1 h
                  · obtain rfl : a' = a := by omega
                    exact hao.out, hk, hB⟩
                case measure => simp [intOf] <;> omega
              · have i2 : ((((cntP d a true (4 * d.crs.length) : Nat) : Int) != 1) : Bool) = true := by simp only [bne_iff_ne, ne_eq]; omega
                have hao : Hid (mayB d = false) := mayB_arc ha0 hlt (by unfold arcOk; rw [hin]; simp [hout])
                clear hin hout
                go_wp2_with fail
                go_ret
                exact ⟨by rw [hao.out]; rfl, hk⟩
            · have i1 : ((((cntP d a false (4 * d.crs.length) : Nat) : Int) != 1) : Bool) = true := by simp only [bne_iff_ne, ne_eq]; omega
              have hao : Hid (mayB d = false) := mayB_arc ha0 hlt (by unfold arcOk; simp [hin])
              clear hin
              go_wp2_with fail
              go_ret
              exact ⟨by rw [hao.out]; rfl, hk⟩
      · have hao : Hid (mayB d = true) := mayB_yes Hsz.out fun a' h1 h2 => hok.out a' h1 (by omega)
        go_wp2_with fail
        go_ret
        exact ⟨by rw [hao.out]; rfl, hk⟩
theorem diagramMay_any (v : Value) (d : Dg) (w : World) (hd : IsDg w w.heap.size v d) : Calls Try.prog 23 #[v] w (BoPost (mayB d) w) := by
  by_cases h : d.crs.length ≤ 16 ∧ 0 ≤ d.loops ∧ d.loops ≤ 16 ∧ ¬ (d.crs.length = 0 ∧ d.loops = 0)
  · exact diagramMay_arcs v d w hd h
  · rw [mayB_size h]; exact diagramMay_size v d w hd h
end Go.Proofs.Ythppkofceancjaa
namespace Go.Proofs.Ythppkofceancjaa
open Go.ChangeShapes Go.WideShapes Go.ChangeAt Go.RowKit
/-- The last of the first J places where the arc a comes in (or, back, goes out). -/
def lastP (d : Dg) (a : Int) (back : Bool) : Nat → Nat × Nat
  | 0 => (0, 0)
  | J + 1 => if endP d a back J = true then (J / 4, J % 4) else lastP d a back J
theorem cntP_zero {d : Dg} {a : Int} {back : Bool} {J : Nat} (h : cntP d a back J = 0) : ∀ j, j < J → endP d a back j = false := by
  intro j hj
  unfold cntP at h
  rw [List.countP_eq_zero] at h
  have := h j (by simpa using hj)
  simpa using this
theorem cntP_one {d : Dg} {a : Int} {back : Bool} {J : Nat} (h : cntP d a back J = 1) :
    ∃ j, j < J ∧ endP d a back j = true ∧ (∀ i, i < J → endP d a back i = true → i = j) ∧ lastP d a back J = (j / 4, j % 4) := by
  induction J with
  | zero => simp [cntP] at h
  | succ J ih =>
    rw [cntP_succ] at h
    by_cases hJ : endP d a back J = true
    · rw [if_pos hJ] at h
      have h0 := cntP_zero (show cntP d a back J = 0 by omega)
      refine ⟨J, by omega, hJ, fun i hi hi' => ?_, by unfold lastP; rw [if_pos hJ]⟩
      rcases Nat.lt_or_ge i J with h1 | h1
      · rw [h0 i h1] at hi'; cases hi'
      · omega
    · rw [if_neg hJ] at h
      obtain ⟨j, h1, h2, h3, h4⟩ := ih (by omega)
      refine ⟨j, by omega, h2, fun i hi hi' => ?_, by unfold lastP; rw [if_neg hJ]; exact h4⟩
      rcases Nat.lt_or_ge i J with h5 | h5
      · exact h3 i h5 hi'
      · obtain rfl : i = J := by omega
        exact absurd hi' hJ
theorem lastP_end {d : Dg} {a : Int} {back : Bool} (h : cntP d a back (4 * d.crs.length) = 1) : lastP d a back (4 * d.crs.length) = endOf d a back := by
  obtain ⟨j, h1, h2, h3, h4⟩ := cntP_one h
  rw [h4, endOf_hit h1 h2 fun i hi => by
    cases hq : endP d a back i
    · rfl
    · have := h3 i (by omega) hq
      omega]
/-- The arc at place number j. -/
def arcJ (d : Dg) (j : Nat) : Int := arcAt d (j / 4) (j % 4)
/-- How many of the first J places have one of the first m arcs. -/
def hitsM (d : Dg) (m J : Nat) : Nat := (List.range J).countP fun j => decide (1 ≤ arcJ d j ∧ arcJ d j ≤ (m : Int))
theorem hitsM_succ (d : Dg) (m J : Nat) : hitsM d (m + 1) J = hitsM d m J + (cntP d ((m + 1 : Nat) : Int) false J + cntP d ((m + 1 : Nat) : Int) true J) := by
  induction J with
  | zero => simp [hitsM, cntP]
  | succ J ih =>
    have e : ∀ m, hitsM d m (J + 1) = hitsM d m J + if 1 ≤ arcJ d J ∧ arcJ d J ≤ (m : Int) then 1 else 0 := by
      intro m
      unfold hitsM
      rw [List.range_succ, List.countP_append, List.countP_singleton]
      simp
    rw [e, e, ih, cntP_succ, cntP_succ]
    unfold endP
    change _ + (if 1 ≤ arcJ d J ∧ arcJ d J ≤ ((m + 1 : Nat) : Int) then 1 else 0) = _
    have h1 : arcAt d (J / 4) (J % 4) = arcJ d J := rfl
    rw [h1]
    by_cases hm : arcJ d J = ((m + 1 : Nat) : Int)
    · rw [if_pos (by omega), if_neg (by omega)]
      cases entryB d (J / 4) (J % 4) <;> simp [hm] <;> omega
    · have e2 : decide (arcJ d J = ((m + 1 : Nat) : Int)) = false := by simpa using hm
      rw [e2]
      simp only [Bool.false_and, Bool.false_eq_true, if_false]
      by_cases h2 : 1 ≤ arcJ d J ∧ arcJ d J ≤ (m : Int)
      · rw [if_pos (by omega), if_pos h2]; omega
      · rw [if_neg (by omega), if_neg h2]; omega
theorem hitsM_all {d : Dg} {m : Nat} (h : ∀ a : Nat, 1 ≤ a → a ≤ m → cntP d a false (4 * d.crs.length) = 1 ∧ cntP d a true (4 * d.crs.length) = 1) : hitsM d m (4 * d.crs.length) = 2 * m := by
  induction m with
  | zero =>
    unfold hitsM
    rw [List.countP_eq_zero.2 (by intro j _; simp; omega)]
  | succ m ih =>
    rw [hitsM_succ, ih fun a h0 h1 => h a h0 (by omega)]
    have := h (m + 1) (by omega) (by omega)
    omega
/-- Does each arc come in once and go out once? -/
def arcsB (d : Dg) : Bool := (List.range (2 * d.crs.length)).all fun a => arcOk d ((a + 1 : Nat) : Int)
theorem mayB_arcs (d : Dg) : mayB d = (decide (d.crs.length ≤ 16 ∧ 0 ≤ d.loops ∧ d.loops ≤ 16 ∧ ¬ (d.crs.length = 0 ∧ d.loops = 0)) && arcsB d) := rfl
theorem arcsB_out {d : Dg} (h : arcsB d = true) (a : Nat) (h0 : 1 ≤ a) (h1 : a ≤ 2 * d.crs.length) : cntP d a false (4 * d.crs.length) = 1 ∧ cntP d a true (4 * d.crs.length) = 1 := by
  have := List.all_eq_true.1 h (a - 1) (by simp; omega)
  rw [show a - 1 + 1 = a by omega] at this
  unfold arcOk at this
  simpa using this
theorem arcsB_no {d : Dg} {a : Nat} (h0 : 1 ≤ a) (h1 : a ≤ 2 * d.crs.length) (h : arcOk d a = false) : arcsB d = false := by
  refine List.all_eq_false.2 ⟨a - 1, by simp; omega, ?_⟩
  rw [show a - 1 + 1 = a by omega, h]; simp
theorem arcsB_yes {d : Dg} (h2 : ∀ a : Nat, 1 ≤ a → a ≤ 2 * d.crs.length → arcOk d a = true) : arcsB d = true := by
  refine List.all_eq_true.2 fun a ha => h2 (a + 1) (by omega) ?_
  simp at ha
  omega
/-- Where each arc comes in once and goes out once, no place has another arc. -/
theorem arcs_rng {d : Dg} (h : arcsB d = true) {j : Nat} (hj : j < 4 * d.crs.length) : 1 ≤ arcJ d j ∧ arcJ d j ≤ 2 * (d.crs.length : Int) := by
  have h1 := hitsM_all (m := 2 * d.crs.length) (arcsB_out h)
  unfold hitsM at h1
  have h2 : (List.range (4 * d.crs.length)).countP (fun j => decide (1 ≤ arcJ d j ∧ arcJ d j ≤ ((2 * d.crs.length : Nat) : Int))) = (List.range (4 * d.crs.length)).length := by rw [h1]; simp; omega
  rw [List.countP_eq_length] at h2
  have := h2 j (by simpa using hj)
  rw [decide_eq_true_iff] at this
  omega
theorem arcs_not {d : Dg} {j : Nat} (hj : j < 4 * d.crs.length) (h : ¬ (1 ≤ arcJ d j ∧ arcJ d j ≤ 2 * (d.crs.length : Int))) : arcsB d = false := by
  cases hm : arcsB d
  · rfl
  · exact absurd (arcs_rng hm hj) h
set_option maxRecDepth 100000 in
set_option maxHeartbeats 1000000 in
theorem arc_any (x : Cr) (k : Nat) (w : World) (hk : k < 4) : Calls Try.prog 37 #[crV x, .int .i64 k] w (IntPost (crArc x k) w) := by
  have hkk : k = 0 ∨ k = 1 ∨ k = 2 ∨ k = 3 := by omega
  unfold crV
  obtain ⟨a, b, c, d, p⟩ := x
  have i0 : ∀ w, (Instr.index 96 (.agg #[.int .i64 a, .int .i64 b, .int .i64 c, .int .i64 d]) (.int .i64 0)).run Try.prog w = .ok (.int .i64 a) w := fun _ => by kernel_rfl
  have i1 : ∀ w, (Instr.index 96 (.agg #[.int .i64 a, .int .i64 b, .int .i64 c, .int .i64 d]) (.int .i64 1)).run Try.prog w = .ok (.int .i64 b) w := fun _ => by kernel_rfl
  have i2 : ∀ w, (Instr.index 96 (.agg #[.int .i64 a, .int .i64 b, .int .i64 c, .int .i64 d]) (.int .i64 2)).run Try.prog w = .ok (.int .i64 c) w := fun _ => by kernel_rfl
  have i3 : ∀ w, (Instr.index 96 (.agg #[.int .i64 a, .int .i64 b, .int .i64 c, .int .i64 d]) (.int .i64 3)).run Try.prog w = .ok (.int .i64 d) w := fun _ => by kernel_rfl
  rcases hkk with rfl | rfl | rfl | rfl
  all_goals
    go_enter Try.func37, Try.ntmps37
    go_wp2_with fail
    go_ret
    exact ⟨rfl, (Kp.refl _).alloc _⟩
def overIn (x : Cr) : Nat := if x.plus = true then 3 else 1
set_option maxHeartbeats 1000000 in
theorem overIn_any (x : Cr) (w : World) : Calls Try.prog 45 #[crV x] w (IntPost (overIn x) w) := by
  obtain ⟨a, b, c, d, p⟩ := x
  unfold crV overIn
  cases p
  all_goals
    go_enter Try.func45, Try.ntmps45
    go_wp2_with fail
    go_ret
    exact ⟨rfl, (Kp.refl _).alloc _⟩
set_option maxHeartbeats 1000000 in
theorem comes_any (x : Cr) (k : Nat) (w : World) (hk : k < 4) : Calls Try.prog 38 #[crV x, .int .i64 k] w (BoPost (crIn x k) w) := by
  have hkk : k = 0 ∨ k = 1 ∨ k = 2 ∨ k = 3 := by omega
  have ho := Lib.hid fun w' => overIn_any x w'
  obtain ⟨a, b, c, d, p⟩ := x
  unfold crV overIn at *
  rcases hkk with rfl | rfl | rfl | rfl
  · go_enter Try.func38, Try.ntmps38
    go_wp2_with fail
    go_ret
    exact ⟨rfl, (Kp.refl _).alloc _⟩
  all_goals
    cases p
    all_goals
      go_enter Try.func38, Try.ntmps38
      go_wp2_with fail
      refine (ho.out _).mono ?_; rintro e w1 ⟨rfl, hk1⟩
      go_wp2_with fail
      go_ret
      exact ⟨rfl, Kp.trans ((Kp.refl _).alloc _) hk1⟩
end Go.Proofs.Ythppkofceancjaa
namespace Go.Proofs.Ythppkofceancjaa
open Go.ChangeShapes Go.WideShapes Go.ChangeAt Go.RowKit
def CrsPost (base : Nat) (xs : List Cr) (w : World) (e : Ending) (w' : World) : Prop := ∃ A c, e = .returned (.slice A xs.length c) ∧ Ow codCr 55 w' base (.slice A xs.length c) xs ∧ Kp w w'
set_option maxHeartbeats 1000000 in
theorem cloneCrs (A : Option Addr) (c : Nat) (xs : List Cr) (w : World) (hr : Rd codCr w w.heap.size A xs) :
    Calls Try.prog 46 #[.slice A xs.length c] w (CrsPost w.heap.size xs w) := by
  have hnl := fun (w : World) (a : Option Addr) (n c : Nat) => Lib.run_eql_slice_nil (P := Try.prog) w 22 55 a n c 0 0 Try.underlying22
  cases A with
  | none =>
    have h0 : xs.length = 0 := by
      rcases Nat.eq_zero_or_pos xs.length with h | h
      · exact h
      · obtain ⟨b, off, h, _⟩ := Sl.at_ hr h
        cases h
    have hx : xs = [] := List.eq_nil_of_length_eq_zero h0
    subst hx
    go_enter Try.func46, Try.ntmps46
    go_wp2_with fail
    go_ret
    exact ⟨none, 0, rfl, Ow.nil_, Kp.refl _⟩
  | some ad =>
    go_enter Try.func46, Try.ntmps46
    go_wp2_with (at_builtin; refine wp_appendSl slCr rfl _ _ rfl (World.ownsRow_made w #[] 0 (Nat.le_refl _) (by unfold maxLen; omega) rfl) rfl rfl (Rd.kp hr ((Kp.refl _).alloc _)) (cr_one xs) (by rw [Nat.zero_add]; exact hr.room) (by simp) ?_; intro v' w1 ho hg _)
    go_ret
    have ho' : Ow codCr 55 w1 w.heap.size v' xs := by
      unfold Ow
      rw [Nat.zero_add, List.nil_append] at ho
      exact ho
    obtain ⟨A', c', rfl, _⟩ := ho'.sl
    exact ⟨A', c', rfl, ho', ((Kp.refl w).alloc _).grown hg (fun k hk => by simp [Value.ownBlock] at hk; omega)⟩
def plF (x : Nat × Nat) : List Value := [.int .i64 x.1, .int .i64 x.2]
def codPl : Cod (Nat × Nat) := ⟨plF, 2, 16, fun _ => rfl⟩
/-- Of each arc, the last of the first J places where it comes in (or goes out). -/
def tabL (d : Dg) (back : Bool) (J : Nat) : List (Nat × Nat) := (List.range (2 * d.crs.length + 1)).map fun a : Nat => lastP d (a : Int) back J
/-- Of each arc, how often it has come in (or gone out). -/
def cntL (d : Dg) (back : Bool) (J : Nat) : List Int := (List.range (2 * d.crs.length + 1)).map fun a : Nat => ((cntP d (a : Int) back J : Nat) : Int)
theorem lastP_succ (d : Dg) (a : Int) (back : Bool) (J : Nat) : lastP d a back (J + 1) = if endP d a back J = true then (J / 4, J % 4) else lastP d a back J := rfl
theorem tabL_len (d : Dg) (back : Bool) (J : Nat) : (tabL d back J).length = 2 * d.crs.length + 1 := by simp [tabL]
theorem cntL_len (d : Dg) (back : Bool) (J : Nat) : (cntL d back J).length = 2 * d.crs.length + 1 := by simp [cntL]
theorem tabL_get {d : Dg} {back : Bool} {J a : Nat} (h : a < 2 * d.crs.length + 1) : ga (tabL d back J) a = lastP d (a : Int) back J := by
  rw [ga_eq (by rw [tabL_len]; exact h)]; simp [tabL]
theorem cntL_get {d : Dg} {back : Bool} {J a : Nat} (h : a < 2 * d.crs.length + 1) : gi (cntL d back J) a = (cntP d (a : Int) back J : Nat) := by
  rw [gi_eq (by rw [cntL_len]; exact h)]; simp [cntL]
theorem tabL_zero (d : Dg) (back : Bool) : tabL d back 0 = List.replicate (2 * d.crs.length + 1) (0, 0) := by
  simp only [tabL, lastP, List.map_const', List.length_range]
theorem cntL_zero (d : Dg) (back : Bool) : cntL d back 0 = List.replicate (2 * d.crs.length + 1) 0 := by
  simp [cntL, cntP, List.map_const']
theorem endP_arc {d : Dg} {a J : Nat} {back : Bool} (h : arcJ d J = a) (a' : Nat) : endP d (a' : Int) back J = (decide (a' = a) && (entryB d (J / 4) (J % 4) != back)) := by
  unfold endP
  have h1 : arcAt d (J / 4) (J % 4) = (a : Int) := h
  rw [h1]
  congr 1
  simp only [decide_eq_decide]
  omega
theorem tabL_hit {d : Dg} {back : Bool} {J a : Nat} (h : arcJ d J = a) (he : entryB d (J / 4) (J % 4) ≠ back) : tabL d back (J + 1) = (tabL d back J).set a (J / 4, J % 4) := by
  apply ga_ext
  · rw [List.length_set, tabL_len, tabL_len]
  · intro i hi
    rw [tabL_len] at hi
    have e := endP_arc (back := back) h i
    by_cases ha : a < (tabL d back J).length
    · rw [ga_set _ _ _ _ ha, tabL_get hi, tabL_get hi, lastP_succ, e]
      by_cases hi' : a = i
      · subst hi'; simp [he]
      · have : ¬ i = a := fun h => hi' h.symm
        simp [hi', this]
    · rw [List.set_eq_of_length_le (by omega), tabL_get hi, tabL_get hi]
      rw [tabL_len] at ha
      rw [lastP_succ, e]
      have : ¬ i = a := by omega
      simp [this]
theorem tabL_miss {d : Dg} {back : Bool} {J : Nat} (he : entryB d (J / 4) (J % 4) = back) : tabL d back (J + 1) = tabL d back J := by
  apply ga_ext
  · rw [tabL_len, tabL_len]
  · intro i hi
    rw [tabL_len] at hi
    rw [tabL_get hi, tabL_get hi, lastP_succ]
    unfold endP
    simp [he]
theorem cntL_hit {d : Dg} {back : Bool} {J a : Nat} (h : arcJ d J = a) (he : entryB d (J / 4) (J % 4) ≠ back) : cntL d back (J + 1) = (cntL d back J).set a (gi (cntL d back J) a + 1) := by
  apply gi_ext
  · rw [List.length_set, cntL_len, cntL_len]
  · intro i hi
    rw [cntL_len] at hi
    have e := endP_arc (back := back) h i
    by_cases ha : a < (cntL d back J).length
    · rw [gi_set _ _ _ _ ha, cntL_get hi, cntL_get hi, cntP_succ, e]
      by_cases hi' : a = i
      · subst hi'; rw [cntL_get hi]; simp [he]
      · have : ¬ i = a := fun h => hi' h.symm
        simp [hi', this]
    · rw [List.set_eq_of_length_le (by omega), cntL_get hi, cntL_get hi, cntP_succ, e]
      rw [cntL_len] at ha
      have : ¬ i = a := by omega
      simp [this]
theorem cntL_miss {d : Dg} {back : Bool} {J : Nat} (he : entryB d (J / 4) (J % 4) = back) : cntL d back (J + 1) = cntL d back J := by
  apply gi_ext
  · rw [cntL_len, cntL_len]
  · intro i hi
    rw [cntL_len] at hi
    rw [cntL_get hi, cntL_get hi, cntP_succ]
    unfold endP
    simp [he]
end Go.Proofs.Ythppkofceancjaa
namespace Go.Proofs.Ythppkofceancjaa
open Go.ChangeShapes Go.WideShapes Go.ChangeAt Go.RowKit
theorem slPl : SlT Try.prog 59 79 2 16 (.agg #[.int .i64 0, .int .i64 0]) := ⟨Try.underlying59, by kernel_rfl, rfl, by omega, by omega⟩
/-- What the first statements of 'Build' leave: the diagram at work, with empty tables. -/
def Sh (d : Dg) (w0 w : World) (p : Value) (ti tu : List (Nat × Nat)) : Prop :=
  ∃ g A c gi go, p = .pointer (some ⟨g, 0, none⟩) ∧
    Blk w g 61 #[.slice A d.crs.length c, .int .i64 d.loops, .slice (some ⟨gi, 0, none⟩) (2 * d.crs.length + 1) (2 * d.crs.length + 1), .slice (some ⟨go, 0, none⟩) (2 * d.crs.length + 1) (2 * d.crs.length + 1)] ∧
    gi ≠ go ∧ w0.heap.size < g ∧
    Ow codCr 55 w (w0.heap.size + 1) (.slice A d.crs.length c) d.crs ∧
    Ow codPl 79 w (w0.heap.size + 1) (.slice (some ⟨gi, 0, none⟩) (2 * d.crs.length + 1) (2 * d.crs.length + 1)) ti ∧
    Ow codPl 79 w (w0.heap.size + 1) (.slice (some ⟨go, 0, none⟩) (2 * d.crs.length + 1) (2 * d.crs.length + 1)) tu
theorem Sh.kp {d : Dg} {w0 w w' : World} {p : Value} {ti tu : List (Nat × Nat)} (h : Sh d w0 w p ti tu) (hk : Kp w w') : Sh d w0 w' p ti tu := by
  obtain ⟨g, A, c, gi, go, r1, r2, r3, r4, r5, r6, r7⟩ := h
  exact ⟨g, A, c, gi, go, r1, r2.kp hk, r3, r4, r5.kp hk, r6.kp hk, r7.kp hk⟩
/-- The state of 'Build' behind the first J places. -/
def Bs (d : Dg) (w0 w : World) (p ci co : Value) (J : Nat) : Prop :=
  Sh d w0 w p (tabL d false J) (tabL d true J) ∧ ∃ ga gb, ci = .slice (some ⟨ga, 0, none⟩) (2 * d.crs.length + 1) (2 * d.crs.length + 1) ∧ co = .slice (some ⟨gb, 0, none⟩) (2 * d.crs.length + 1) (2 * d.crs.length + 1) ∧ ga ≠ gb ∧
    OwnI w (w0.heap.size + 1) (.slice (some ⟨ga, 0, none⟩) (2 * d.crs.length + 1) (2 * d.crs.length + 1)) (cntL d false J) ∧ OwnI w (w0.heap.size + 1) (.slice (some ⟨gb, 0, none⟩) (2 * d.crs.length + 1) (2 * d.crs.length + 1)) (cntL d true J)
/-- The same, its blocks told. -/
structure Bq (d : Dg) (b0 g : Nat) (A : Option Addr) (c gi go ga gb : Nat) (w : World) (J : Nat) : Prop where
  sh : Blk w g 61 #[.slice A d.crs.length c, .int .i64 d.loops, .slice (some ⟨gi, 0, none⟩) (2 * d.crs.length + 1) (2 * d.crs.length + 1), .slice (some ⟨go, 0, none⟩) (2 * d.crs.length + 1) (2 * d.crs.length + 1)]
  cr : Ow codCr 55 w b0 (.slice A d.crs.length c) d.crs
  ti : Ow codPl 79 w b0 (.slice (some ⟨gi, 0, none⟩) (2 * d.crs.length + 1) (2 * d.crs.length + 1)) (tabL d false J)
  tu : Ow codPl 79 w b0 (.slice (some ⟨go, 0, none⟩) (2 * d.crs.length + 1) (2 * d.crs.length + 1)) (tabL d true J)
  ci : OwnI w b0 (.slice (some ⟨ga, 0, none⟩) (2 * d.crs.length + 1) (2 * d.crs.length + 1)) (cntL d false J)
  co : OwnI w b0 (.slice (some ⟨gb, 0, none⟩) (2 * d.crs.length + 1) (2 * d.crs.length + 1)) (cntL d true J)
  n1 : gi ≠ go
  n2 : ga ≠ gb
  lt : b0 ≤ g
section
variable {d : Dg} {b0 g c gi go ga gb J : Nat} {A : Option Addr} {w w' : World}
theorem Bq.kp (h : Bq d b0 g A c gi go ga gb w J) (hk : Kp w w') : Bq d b0 g A c gi go ga gb w' J :=
  ⟨h.sh.kp hk, h.cr.kp hk, h.ti.kp hk, h.tu.kp hk, h.ci.kp hk, h.co.kp hk, h.n1, h.n2, h.lt⟩
theorem ownI_ow {w : World} {b : Nat} {v : Value} {xs : List Int} (h : OwnI w b v xs) : Ow codI 3 w b v xs := by
  unfold Ow
  rw [flat_iv]
  exact h
theorem OwnI.kept {w w' : World} {b : Nat} {v : Value} {xs : List Int} {row : Option Nat} (h : OwnI w b v xs) (hg : Gr w w' row) (hne : v.ownBlock = none ∨ v.ownBlock ≠ row) : OwnI w' b v xs := World.ownsRow.kept h hg hne
theorem blk_ne {w : World} {α : Type} {C : Cod α} {E t : TypeId} {b g : Nat} {v : Value} {xs : List α} {cs : Array Value} (h : Ow C E w b v xs) (h' : Blk w g t cs) (hne : E ≠ t) : some g ≠ v.ownBlock := by
  rcases h.ne_blk h' hne with h | h
  · rw [h]; simp
  · exact fun e => h e.symm
theorem Bq.hitIn (h : Bq d b0 g A c gi go ga gb w J) {a : Nat} (ha : a < 2 * d.crs.length + 1) (hj : arcJ d J = a) (he : entryB d (J / 4) (J % 4) = true) :
    Bq d b0 g A c gi go ga gb (((w.setCell ⟨gi, a * 2, none⟩ (.int .i64 ((J / 4 : Nat) : Int))).setCell ⟨gi, a * 2 + 1, none⟩ (.int .i64 ((J % 4 : Nat) : Int))).setCell ⟨ga, a, none⟩ (.int .i64 (Go.Proofs.Ythppkofceancjaa.gi (cntL d false J) a + 1))) (J + 1) := by
  have ht : tabL d false (J + 1) = (tabL d false J).set a (J / 4, J % 4) := tabL_hit hj (by simp [he])
  have hu : tabL d true (J + 1) = tabL d true J := tabL_miss he
  have hc : cntL d false (J + 1) = (cntL d false J).set a (Go.Proofs.Ythppkofceancjaa.gi (cntL d false J) a + 1) := cntL_hit hj (by simp [he])
  have ho : cntL d true (J + 1) = cntL d true J := cntL_miss he
  have s1 := h.ti.set2 rfl (i := a) (by rw [tabL_len]; exact ha) (.int .i64 ((J / 4 : Nat) : Int)) (.int .i64 ((J % 4 : Nat) : Int)) (J / 4, J % 4) rfl
  have g1 := gr_set2 (w := w) (g := gi) (i := a * 2) (j := a * 2 + 1) (.int .i64 ((J / 4 : Nat) : Int)) (.int .i64 ((J % 4 : Nat) : Int))
  have c1 := h.ci.kept g1 (ownI_ow h.ci |>.ne_ h.ti (by decide))
  have g2 := gr_set1 (w := (w.setCell ⟨gi, a * 2, none⟩ (.int .i64 ((J / 4 : Nat) : Int))).setCell ⟨gi, a * 2 + 1, none⟩ (.int .i64 ((J % 4 : Nat) : Int))) (g := ga) (i := a) (.int .i64 (Go.Proofs.Ythppkofceancjaa.gi (cntL d false J) a + 1))
  have k1 := h.sh.gr g1 (blk_ne h.ti h.sh (by decide))
  have q1 := h.cr.kept g1 (h.cr.ne_ h.ti (by decide))
  have u1 := h.tu.kept g1 (.inr (by simpa [Value.ownBlock] using h.n1.symm))
  have o1 := h.co.kept g1 (ownI_ow h.co |>.ne_ h.ti (by decide))
  refine ⟨k1.gr g2 (blk_ne (ownI_ow c1) k1 (by decide)), q1.kept g2 (q1.ne_ (ownI_ow c1) (by decide)), ?_, ?_, ?_, ?_, h.n1, h.n2, h.lt⟩
  · rw [ht]; exact s1.kept g2 (s1.ne_ (ownI_ow c1) (by decide))
  · rw [hu]; exact u1.kept g2 (u1.ne_ (ownI_ow c1) (by decide))
  · rw [hc]; exact c1.set_ a _
  · rw [ho]; exact o1.kept g2 (.inr (by simpa [Value.ownBlock] using h.n2.symm))
theorem Bq.hitOut (h : Bq d b0 g A c gi go ga gb w J) {a : Nat} (ha : a < 2 * d.crs.length + 1) (hj : arcJ d J = a) (he : entryB d (J / 4) (J % 4) = false) :
    Bq d b0 g A c gi go ga gb (((w.setCell ⟨go, a * 2, none⟩ (.int .i64 ((J / 4 : Nat) : Int))).setCell ⟨go, a * 2 + 1, none⟩ (.int .i64 ((J % 4 : Nat) : Int))).setCell ⟨gb, a, none⟩ (.int .i64 (Go.Proofs.Ythppkofceancjaa.gi (cntL d true J) a + 1))) (J + 1) := by
  have ht : tabL d true (J + 1) = (tabL d true J).set a (J / 4, J % 4) := tabL_hit hj (by simp [he])
  have hu : tabL d false (J + 1) = tabL d false J := tabL_miss he
  have hc : cntL d true (J + 1) = (cntL d true J).set a (Go.Proofs.Ythppkofceancjaa.gi (cntL d true J) a + 1) := cntL_hit hj (by simp [he])
  have ho : cntL d false (J + 1) = cntL d false J := cntL_miss he
  have s1 := h.tu.set2 rfl (i := a) (by rw [tabL_len]; exact ha) (.int .i64 ((J / 4 : Nat) : Int)) (.int .i64 ((J % 4 : Nat) : Int)) (J / 4, J % 4) rfl
  have g1 := gr_set2 (w := w) (g := go) (i := a * 2) (j := a * 2 + 1) (.int .i64 ((J / 4 : Nat) : Int)) (.int .i64 ((J % 4 : Nat) : Int))
  have c1 := h.co.kept g1 (ownI_ow h.co |>.ne_ h.tu (by decide))
  have g2 := gr_set1 (w := (w.setCell ⟨go, a * 2, none⟩ (.int .i64 ((J / 4 : Nat) : Int))).setCell ⟨go, a * 2 + 1, none⟩ (.int .i64 ((J % 4 : Nat) : Int))) (g := gb) (i := a) (.int .i64 (Go.Proofs.Ythppkofceancjaa.gi (cntL d true J) a + 1))
  have k1 := h.sh.gr g1 (blk_ne h.tu h.sh (by decide))
  have q1 := h.cr.kept g1 (h.cr.ne_ h.tu (by decide))
  have u1 := h.ti.kept g1 (.inr (by simpa [Value.ownBlock] using h.n1))
  have o1 := h.ci.kept g1 (ownI_ow h.ci |>.ne_ h.tu (by decide))
  refine ⟨k1.gr g2 (blk_ne (ownI_ow c1) k1 (by decide)), q1.kept g2 (q1.ne_ (ownI_ow c1) (by decide)), ?_, ?_, ?_, ?_, h.n1, h.n2, h.lt⟩
  · rw [hu]; exact u1.kept g2 (u1.ne_ (ownI_ow c1) (by decide))
  · rw [ht]; exact s1.kept g2 (s1.ne_ (ownI_ow c1) (by decide))
  · rw [ho]; exact o1.kept g2 (.inr (by simpa [Value.ownBlock] using h.n2))
  · rw [hc]; exact c1.set_ a _
theorem Bq.inAt (h : Bq d b0 g A c gi go ga gb w J) {a : Nat} (ha : a < 2 * d.crs.length + 1) : ∃ x y X : Int, w.cell? ⟨gi, a * 2, none⟩ = some (.int .i64 x) ∧ w.cell? ⟨gi, a * 2 + 1, none⟩ = some (.int .i64 y) ∧ w.cell? ⟨ga, a, none⟩ = some (.int .i64 X) ∧
    w.frozen? ⟨gi, a * 2, none⟩ = false ∧ w.frozen? ⟨gi, a * 2 + 1, none⟩ = false ∧ w.frozen? ⟨ga, a, none⟩ = false ∧ gi ≠ ga ∧ ga ≠ gi ∧ Hid (Go.Proofs.Ythppkofceancjaa.gi (cntL d false J) a = X) ∧ 0 ≤ X ∧ X ≤ J := by
  have hl : a < (tabL d false J).length := by rw [tabL_len]; exact ha
  have hne : gi ≠ ga := by
    rcases h.ti.ne_ (ownI_ow h.ci) (by decide) with h | h
    · simp [Value.ownBlock] at h
    · simpa [Value.ownBlock] using h
  have hx := cntP_le d a false J
  exact ⟨_, _, _, h.ti.cell hl (j := 0) (by decide) rfl, h.ti.cell hl (j := 1) (by decide) rfl, h.ci.cell (by rw [cntL_len]; exact ha), h.ti.free _, h.ti.free _, h.ci.free _, hne, hne.symm, rfl,
    by rw [cntL_get ha]; omega, by rw [cntL_get ha]; omega⟩
theorem Bq.outAt (h : Bq d b0 g A c gi go ga gb w J) {a : Nat} (ha : a < 2 * d.crs.length + 1) : ∃ x y X : Int, w.cell? ⟨go, a * 2, none⟩ = some (.int .i64 x) ∧ w.cell? ⟨go, a * 2 + 1, none⟩ = some (.int .i64 y) ∧ w.cell? ⟨gb, a, none⟩ = some (.int .i64 X) ∧
    w.frozen? ⟨go, a * 2, none⟩ = false ∧ w.frozen? ⟨go, a * 2 + 1, none⟩ = false ∧ w.frozen? ⟨gb, a, none⟩ = false ∧ go ≠ gb ∧ gb ≠ go ∧ Hid (Go.Proofs.Ythppkofceancjaa.gi (cntL d true J) a = X) ∧ 0 ≤ X ∧ X ≤ J := by
  have hl : a < (tabL d true J).length := by rw [tabL_len]; exact ha
  have hne : go ≠ gb := by
    rcases h.tu.ne_ (ownI_ow h.co) (by decide) with h | h
    · simp [Value.ownBlock] at h
    · simpa [Value.ownBlock] using h
  have hx := cntP_le d a true J
  exact ⟨_, _, _, h.tu.cell hl (j := 0) (by decide) rfl, h.tu.cell hl (j := 1) (by decide) rfl, h.co.cell (by rw [cntL_len]; exact ha), h.tu.free _, h.tu.free _, h.co.free _, hne, hne.symm, rfl,
    by rw [cntL_get ha]; omega, by rw [cntL_get ha]; omega⟩
end
/-- v is a pointer to the diagram d at work, in blocks from b0 on. -/
def IsSh (w : World) (b0 : Nat) (v : Value) (d : Dg) : Prop :=
  ∃ g A c gi go, v = .pointer (some ⟨g, 0, none⟩) ∧ b0 ≤ g ∧ gi ≠ go ∧
    Blk w g 61 #[.slice A d.crs.length c, .int .i64 d.loops, .slice (some ⟨gi, 0, none⟩) (2 * d.crs.length + 1) (2 * d.crs.length + 1), .slice (some ⟨go, 0, none⟩) (2 * d.crs.length + 1) (2 * d.crs.length + 1)] ∧
    Ow codCr 55 w b0 (.slice A d.crs.length c) d.crs ∧
    Ow codPl 79 w b0 (.slice (some ⟨gi, 0, none⟩) (2 * d.crs.length + 1) (2 * d.crs.length + 1)) (tabL d false (4 * d.crs.length)) ∧
    Ow codPl 79 w b0 (.slice (some ⟨go, 0, none⟩) (2 * d.crs.length + 1) (2 * d.crs.length + 1)) (tabL d true (4 * d.crs.length))
theorem Bq.isSh {d : Dg} {b0 g c gi go ga gb : Nat} {A : Option Addr} {w : World} (h : Bq d b0 g A c gi go ga gb w (4 * d.crs.length)) : IsSh w b0 (.pointer (some ⟨g, 0, none⟩)) d :=
  ⟨g, A, c, gi, go, rfl, h.lt, h.n1, h.sh, h.cr, h.ti, h.tu⟩
def NoShPost (w : World) (e : Ending) (w' : World) : Prop := e = .returned (.tuple #[.pointer none, .bool false]) ∧ Kp w w'
def ShPost (d : Dg) (w : World) (e : Ending) (w' : World) : Prop := ∃ v, e = .returned (.tuple #[v, .bool true]) ∧ Kp w w' ∧ IsSh w' w.heap.size v d
def BuildPost (b : Bool) (d : Dg) (w : World) (e : Ending) (w' : World) : Prop := (b = false ∧ NoShPost w e w') ∨ (b = true ∧ ShPost d w e w')
set_option maxRecDepth 100000 in
set_option maxHeartbeats 4000000 in
theorem build_any (v : Value) (d : Dg) (w : World) (hd : IsDg w w.heap.size v d) (hn : d.crs.length ≤ 16) :
    Calls Try.prog 40 #[v] w (BuildPost (arcsB d) d w) := by
  obtain ⟨A, cap, rfl, hcap, hr⟩ := hd
  have hm := fun W => make_of slPl (2 * d.crs.length + 1) (2 * (d.crs.length : Int) + 1) (by omega) (by omega) W
  have hm2 := fun W => make_of slInt (2 * d.crs.length + 1) (2 * (d.crs.length : Int) + 1) (by omega) (by omega) W
  generalize hZ : madeCells (Value.agg #[.int .i64 0, .int .i64 0]).cells ((2 * d.crs.length + 1) * 2) = Z at *
  generalize hY : madeCells (Value.int .i64 0).cells ((2 * d.crs.length + 1) * 1) = Y at *
  have HZ := Lib.hid hZ
  have HY := Lib.hid hY
  clear hZ hY
  go_enter Try.func40, Try.ntmps40
  have W0 : IntKind.i64.wrap (2 * (d.crs.length : Int)) = 2 * (d.crs.length : Int) := IntWalk.i64_in _ (by omega)
  have W1 : IntKind.i64.wrap (2 * (d.crs.length : Int) + 1) = 2 * (d.crs.length : Int) + 1 := IntWalk.i64_in _ (by omega)
  have E0 : Hid ((w.alloc (.cells #[.slice A d.crs.length cap, .int .i64 d.loops] 24)).cell? ⟨w.heap.size, 0, none⟩ = some (.slice A d.crs.length cap)) := (Blk.new _ _ _).cell 0 rfl
  have E1 : Hid ((w.alloc (.cells #[.slice A d.crs.length cap, .int .i64 d.loops] 24)).cell? ⟨w.heap.size, 1, none⟩ = some (.int .i64 d.loops)) := (Blk.new _ _ _).cell 1 rfl
  go_upto_region 2 with (fail)
  go_cut [5] (fun p wx => Kp (w.alloc (.cells #[.slice A d.crs.length cap, .int .i64 d.loops] 24)) wx ∧ Sh d w wx p (tabL d false 0) (tabL d true 0))
  case first =>
    go_region_held3 (fun W => W.cell? ⟨w.heap.size, 0, none⟩ = some (.slice A d.crs.length cap) ∧ W.cell? ⟨w.heap.size, 1, none⟩ = some (.int .i64 d.loops)) (go_keep) (first
      | (go_at_call 46; refine (cloneCrs A cap d.crs _ (hr.kp (by repeat (with_reducible (first | exact Kp.refl _ | refine Kp.alloc ?_ _ | refine Kp.drew ?_))))).mono ?_; rintro e w1 ⟨A1, c1, rfl, ho1, hk1⟩; have hq : Kp (w.alloc (.cells #[.slice A d.crs.length cap, .int .i64 d.loops] 24)) w1 := Kp.trans (by repeat (with_reducible (first | exact Kp.refl _ | refine Kp.alloc ?_ _ | refine Kp.drew ?_))) hk1; have q0 := hq.c E0.out; have q1 := hq.c E1.out; obtain ⟨l0, l1, l2, l3, l4⟩ := lts hq.alt))
    all_goals
      have lk := hk1.size
      simp at lk
      go_wp2_with fail
      go_meet
      refine ⟨?_, _, A1, c1, _, _, rfl, Blk.new' _ _ _ (by simp), ?_, ?_, ?_, ?_, ?_⟩
      · repeat (with_reducible (first | exact Kp.refl _ | refine Kp.alloc ?_ _ | refine Kp.drew ?_ | refine Kp.trans ?_ hk1))
      · omega
      · omega
      · refine (Ow.base (ho1.kp ?_) (by simp)); repeat (with_reducible (first | exact Kp.refl _ | refine Kp.alloc ?_ _ | refine Kp.drew ?_))
      · rw [tabL_zero]
        refine Ow.made (C := codPl) (z := .agg #[.int .i64 0, .int .i64 0]) rfl ?_ (by first | omega | (simp; done) | (simp; omega)) (by unfold maxLen; omega)
        change Blk _ _ _ (madeCells (Value.agg #[.int .i64 0, .int .i64 0]).cells ((2 * d.crs.length + 1) * 2))
        rw [HZ.out]
        repeat (first | ((with_reducible refine Blk.new' _ _ _ ?_); (simp; done)) | with_reducible refine Blk.alloc ?_ _ | with_reducible refine Blk.drew ?_ | with_reducible refine Blk.kp ?_ hk1)
      · rw [tabL_zero]
        refine Ow.made (C := codPl) (z := .agg #[.int .i64 0, .int .i64 0]) rfl ?_ (by first | omega | (simp; done) | (simp; omega)) (by unfold maxLen; omega)
        change Blk _ _ _ (madeCells (Value.agg #[.int .i64 0, .int .i64 0]).cells ((2 * d.crs.length + 1) * 2))
        rw [HZ.out]
        repeat (first | ((with_reducible refine Blk.new' _ _ _ ?_); (simp; done)) | with_reducible refine Blk.alloc ?_ _ | with_reducible refine Blk.drew ?_ | with_reducible refine Blk.kp ?_ hk1)
  case rest =>
    obtain ⟨hkc, hS⟩ := hcut
    have hr' := Lib.hid hr
    clear hm hr E0 E1
    go_upto_region 3 with (fail)
    go_cut [6, 7] (fun ci co wx => Kp (w.alloc (.cells #[.slice A d.crs.length cap, .int .i64 d.loops] 24)) wx ∧ Bs d w wx u5 ci co 0)
    case first =>
      go_region
      all_goals
        have lk := hkc.size
        simp at lk
        go_wp2_with fail
        go_meet
        refine ⟨?_, ?_, _, _, rfl, rfl, ?_, ?_, ?_⟩
        · repeat (with_reducible (first | exact Kp.refl _ | refine Kp.alloc ?_ _ | refine Kp.drew ?_ | refine Kp.trans ?_ hkc))
        · refine hS.kp ?_
          repeat (with_reducible (first | exact Kp.refl _ | refine Kp.alloc ?_ _ | refine Kp.drew ?_))
        · omega
        · rw [cntL_zero]
          refine OwnI.of_ow (Ow.made (C := codI) (z := .int .i64 0) rfl ?_ (by first | omega | (simp; done) | (simp; omega)) (by unfold maxLen; omega))
          change Blk _ _ _ (madeCells (Value.int .i64 0).cells ((2 * d.crs.length + 1) * 1))
          rw [HY.out]
          repeat (first | ((with_reducible refine Blk.new' _ _ _ ?_); (simp; done)) | with_reducible refine Blk.alloc ?_ _ | with_reducible refine Blk.drew ?_)
        · rw [cntL_zero]
          refine OwnI.of_ow (Ow.made (C := codI) (z := .int .i64 0) rfl ?_ (by first | omega | (simp; done) | (simp; omega)) (by unfold maxLen; omega))
          change Blk _ _ _ (madeCells (Value.int .i64 0).cells ((2 * d.crs.length + 1) * 1))
          rw [HY.out]
          repeat (first | ((with_reducible refine Blk.new' _ _ _ ?_); (simp; done)) | with_reducible refine Blk.alloc ?_ _ | with_reducible refine Blk.drew ?_)
    case rest =>
      clear hkc hS hm2 W0 W1
      obtain ⟨hkc, ⟨g, A1, c1, gi, go, rfl, hb, n1, hl, o1, o2, o3⟩, ga, gb, rfl, rfl, n2, o4, o5⟩ := hcut
      have hQ : Bq d (w.heap.size + 1) g A1 c1 gi go ga gb wc 0 := ⟨hb, o1, o2, o3, o4, o5, n1, n2, by omega⟩
      clear hb n1 n2 o1 o2 o3 o4 o5
      have hkx : Kp w wc := hkc.al
      have hx := (Blk.new w 24 #[.slice A d.crs.length cap, .int .i64 d.loops]).kp hkc
      obtain ⟨e0, e1, e2, e3⟩ := hx.two
      clear HZ HY
      go_wp2_with fail
      go_loopw [43] (fun i wr => ∃ n : Nat, n ≤ d.crs.length ∧ i = .int .i64 n ∧ Kp w wr ∧ Bq d (w.heap.size + 1) g A1 c1 gi go ga gb wr (4 * n) ∧ Hid (∀ j, j < 4 * n → 1 ≤ arcJ d j ∧ arcJ d j ≤ 2 * (d.crs.length : Int))) (fun i _ => d.crs.length - (intOf i).toNat)
      case atStart => exact ⟨0, Nat.zero_le _, rfl, hkx, hQ, fun j hj => by omega⟩
      case round =>
        clear hQ hkx e0 e1 e2 e3 hx hkc
        obtain ⟨n, hn', rfl, hk, hQ, hrg⟩ := hrel
        by_cases hlt : n < d.crs.length
        · obtain ⟨b, off, rfl, hb1, k0, k1, k2, k3, k4⟩ := crAt (hr'.out.kp hk) hlt
          obtain ⟨wo, rfl⟩ : ∃ wo : World, wo = wr := ⟨_, rfl⟩
          obtain ⟨l0, l1, l2, l3, l4⟩ := lts hb1
          have hx := Blk.new wo 55 #[.int .i64 (Go.Proofs.Ythppkofceancjaa.ga d.crs n).a, .int .i64 (Go.Proofs.Ythppkofceancjaa.ga d.crs n).b, .int .i64 (Go.Proofs.Ythppkofceancjaa.ga d.crs n).c, .int .i64 (Go.Proofs.Ythppkofceancjaa.ga d.crs n).d, .bool (Go.Proofs.Ythppkofceancjaa.ga d.crs n).plus]
          have hx0 : ∀ k, k < 4 → arcJ d (4 * n + k) = crArc (Go.Proofs.Ythppkofceancjaa.ga d.crs n) k ∧ entryB d ((4 * n + k) / 4) ((4 * n + k) % 4) = crIn (Go.Proofs.Ythppkofceancjaa.ga d.crs n) k ∧ (4 * n + k) / 4 = n ∧ (4 * n + k) % 4 = k := fun k hk => by
            have h1 : (4 * n + k) / 4 = n := by omega
            have h2 : (4 * n + k) % 4 = k := by omega
            unfold arcJ arcAt entryB
            rw [h1, h2]
            exact ⟨rfl, rfl, rfl, rfl⟩
          have HX := Lib.hid hx0
          clear hx0
          generalize Go.Proofs.Ythppkofceancjaa.ga d.crs n = x at *
          go_wp2_with fail
          go_loopw [48] (fun i wr => ∃ m : Nat, m ≤ 4 ∧ i = .int .i64 m ∧ Kp w wr ∧ Bq d (w.heap.size + 1) g A1 c1 gi go ga gb wr (4 * n + m) ∧ Hid (∀ j, j < 4 * n + m → 1 ≤ arcJ d j ∧ arcJ d j ≤ 2 * (d.crs.length : Int)) ∧
            Blk wr wo.heap.size 55 #[.int .i64 x.a, .int .i64 x.b, .int .i64 x.c, .int .i64 x.d, .bool x.plus]) (fun i _ => 4 - (intOf i).toNat)
          case atStart => exact ⟨0, Nat.zero_le _, rfl, hk.alloc _, hQ.kp ((Kp.refl _).alloc _), hrg.out, hx⟩
          case round =>
            clear hQ hk hrg hx k0 k1 k2 k3 k4 l0 l1 l2 l3 l4 hb1
            obtain ⟨m, hm, rfl, hk, hQ, hrg, hx⟩ := hrel
            by_cases hm4 : m < 4
            · obtain ⟨k0, k1, k2, k3, k4⟩ := hx.cr
              obtain ⟨l0, l1, l2, l3, l4⟩ := lts hx.lt
              obtain ⟨hj, hen, hq1, hq2⟩ := HX.out m hm4
              by_cases hlo : 1 ≤ crArc x m
              · by_cases hhi : crArc x m ≤ 2 * (d.crs.length : Int)
                · obtain ⟨a, ha⟩ := Int.eq_ofNat_of_zero_le (show 0 ≤ crArc x m by omega)
                  rw [ha] at hlo hhi hj
                  have ha' := Lib.hid ha
                  clear ha
                  cases he : crIn x m
                  · rw [he] at hen
                    have he' := Lib.hid he
                    have hN := fun w' (h : Bq d (w.heap.size + 1) g A1 c1 gi go ga gb w' (4 * n + m)) => h.hitOut (a := a) (by omega) hj hen
                    rw [hq1, hq2] at hN
                    have HN := Lib.hid hN
                    have hj' := Lib.hid hj
                    clear hN hj hen hq1 hq2 he
                    go_wp2_with fail
                    refine (arc_any x m _ hm4).mono ?_; rintro e w1 ⟨rfl, hk1⟩
                    rw [ha'.out]
                    obtain ⟨cc, cf⟩ := hk1.cf (n := wr.heap.size) rfl
                    go_wp2_with fail
                    refine (comes_any x m _ hm4).mono ?_; rintro e w2 ⟨rfl, hk2⟩
                    rw [he'.out]
                    clear cc cf
                    have hQ2 := (hQ.kp hk1).kp hk2
                    have hx2 := (hx.kp hk1).kp hk2
                    have b1 : wo.heap.size ≠ go := fun e => blk_ne hQ2.tu hx2 (by decide) (by rw [e]; rfl)
                    have b2 : wo.heap.size ≠ gb := fun e => blk_ne (ownI_ow hQ2.co) hx2 (by decide) (by rw [e]; rfl)
                    have b3 := (hQ2.tu.lt go rfl).1
                    have b4 := (hQ2.co.lt gb rfl).1
                    obtain ⟨s0, s1, s2, s3⟩ := hQ2.sh.four
                    obtain ⟨x0, y0, X, t0, t1, t2, t3, t4, t5, t6, t7, hX, X0, X1⟩ := hQ2.outAt (a := a) (by omega)
                    go_wp2_with fail
                    go_roundw
                    case rel =>
                      have hq := HN.out w2 hQ2
                      rw [hX.out] at hq
                      exact ⟨m + 1, by omega, by go_num, ((((hk.trans hk1).trans hk2).setCell (p := ⟨go, a * 2, none⟩) (by simp; omega) _).setCell (p := ⟨go, a * 2 + 1, none⟩) (by simp; omega) _).setCell (p := ⟨gb, a, none⟩) (by simp; omega) _, hq,
                        fun j h => by
                          rcases Nat.lt_or_ge j (4 * n + m) with h1 | h1
                          · exact hrg.out j h1
                          · obtain rfl : j = 4 * n + m := by omega
                            rw [hj'.out]; omega,
                        ((hx2.far (p := ⟨go, a * 2, none⟩) b1 _).far (p := ⟨go, a * 2 + 1, none⟩) b1 _).far (p := ⟨gb, a, none⟩) b2 _⟩
                    case measure => simp [intOf] <;> omega
                  · rw [he] at hen
                    have he' := Lib.hid he
                    have hN := fun w' (h : Bq d (w.heap.size + 1) g A1 c1 gi go ga gb w' (4 * n + m)) => h.hitIn (a := a) (by omega) hj hen
                    rw [hq1, hq2] at hN
                    have HN := Lib.hid hN
                    have hj' := Lib.hid hj
                    clear hN hj hen hq1 hq2 he
                    go_wp2_with fail
                    refine (arc_any x m _ hm4).mono ?_; rintro e w1 ⟨rfl, hk1⟩
                    rw [ha'.out]
                    obtain ⟨cc, cf⟩ := hk1.cf (n := wr.heap.size) rfl
                    go_wp2_with fail
                    refine (comes_any x m _ hm4).mono ?_; rintro e w2 ⟨rfl, hk2⟩
                    rw [he'.out]
                    clear cc cf
                    have hQ2 := (hQ.kp hk1).kp hk2
                    have hx2 := (hx.kp hk1).kp hk2
                    have b1 : wo.heap.size ≠ gi := fun e => blk_ne hQ2.ti hx2 (by decide) (by rw [e]; rfl)
                    have b2 : wo.heap.size ≠ ga := fun e => blk_ne (ownI_ow hQ2.ci) hx2 (by decide) (by rw [e]; rfl)
                    have b3 := (hQ2.ti.lt gi rfl).1
                    have b4 := (hQ2.ci.lt ga rfl).1
                    obtain ⟨s0, s1, s2, s3⟩ := hQ2.sh.four
                    obtain ⟨x0, y0, X, t0, t1, t2, t3, t4, t5, t6, t7, hX, X0, X1⟩ := hQ2.inAt (a := a) (by omega)
                    go_wp2_with fail
                    go_roundw
                    case rel =>
                      have hq := HN.out w2 hQ2
                      rw [hX.out] at hq
                      exact ⟨m + 1, by omega, by go_num, ((((hk.trans hk1).trans hk2).setCell (p := ⟨gi, a * 2, none⟩) (by simp; omega) _).setCell (p := ⟨gi, a * 2 + 1, none⟩) (by simp; omega) _).setCell (p := ⟨ga, a, none⟩) (by simp; omega) _, hq,
                        fun j h => by
                          rcases Nat.lt_or_ge j (4 * n + m) with h1 | h1
                          · exact hrg.out j h1
                          · obtain rfl : j = 4 * n + m := by omega
                            rw [hj'.out]; omega,
                        ((hx2.far (p := ⟨gi, a * 2, none⟩) b1 _).far (p := ⟨gi, a * 2 + 1, none⟩) b1 _).far (p := ⟨ga, a, none⟩) b2 _⟩
                    case measure => simp [intOf] <;> omega
                · have hno := Lib.hid (arcs_not (d := d) (j := 4 * n + m) (by omega) (by rw [hj]; omega))
                  clear hj hen hq1 hq2
                  go_wp2_with fail
                  refine (arc_any x m _ hm4).mono ?_; rintro e w1 ⟨rfl, hk1⟩
                  go_wp2_with fail
                  go_ret2
                  exact .inl ⟨hno.out, rfl, hk.trans hk1⟩
              · have hno := Lib.hid (arcs_not (d := d) (j := 4 * n + m) (by omega) (by rw [hj]; omega))
                clear hj hen hq1 hq2
                go_wp2_with fail
                refine (arc_any x m _ hm4).mono ?_; rintro e w1 ⟨rfl, hk1⟩
                go_wp2_with fail
                go_ret2
                exact .inl ⟨hno.out, rfl, hk.trans hk1⟩
            · obtain rfl : m = 4 := by omega
              go_wp2_with fail
              go_roundw
              case rel => exact ⟨n + 1, by omega, by go_num, hk, hQ, hrg.out⟩
              case measure => simp [intOf] <;> omega
        · obtain rfl : n = d.crs.length := by omega
          go_wp2_with fail
          obtain ⟨wo, rfl⟩ : ∃ wo : World, wo = wr := ⟨_, rfl⟩
          go_loop [12] (fun i => ∃ a : Nat, 1 ≤ a ∧ a ≤ 2 * d.crs.length + 1 ∧ i = .int .i64 a ∧ Hid (∀ a' : Nat, 1 ≤ a' → a' < a → arcOk d a' = true)) (fun i => 2 * d.crs.length + 1 - (intOf i).toNat)
          case atStart => exact ⟨1, by omega, by omega, rfl, fun a h1 h2 => by omega⟩
          case round =>
            obtain ⟨a, ha0, ha1, rfl, hok⟩ := hrel
            by_cases hlt2 : a ≤ 2 * d.crs.length
            · have ca := hQ.ci.cell (i := a) (by rw [cntL_len]; omega)
              have cb := hQ.co.cell (i := a) (by rw [cntL_len]; omega)
              rw [cntL_get (by omega)] at ca cb
              have hao : arcOk d a = (cntP d a false (4 * d.crs.length) == 1 && cntP d a true (4 * d.crs.length) == 1) := rfl
              generalize cntP d a false (4 * d.crs.length) = X at *
              generalize cntP d a true (4 * d.crs.length) = Y at *
              by_cases hX : X = 1
              · subst hX
                by_cases hY : Y = 1
                · subst hY
                  have hao' : Hid (arcOk d a = true) := hao
                  clear hao
                  go_wp2_with fail
                  go_round
                  case rel => exact ⟨a + 1, by omega, by omega, by go_num, fun a' h1 h2 => by
                    rcases Nat.lt_or_ge a' a with h | h
                    · exact hok.out a' h1 h
                    · obtain rfl : a' = a := by omega
                      exact hao'.out⟩
                  case measure => simp [intOf] <;> omega
                · have hno := Lib.hid (arcsB_no ha0 hlt2 (by rw [hao]; simp [hY]))
                  have t1 : (((Y : Int) != 1) : Bool) = true := by simp only [bne_iff_ne, ne_eq]; omega
                  clear hao hY
                  go_wp2_with fail
                  go_ret2
                  exact .inl ⟨hno.out, rfl, hk⟩
              · have hno := Lib.hid (arcsB_no ha0 hlt2 (by rw [hao]; simp [hX]))
                have t1 : (((X : Int) != 1) : Bool) = true := by simp only [bne_iff_ne, ne_eq]; omega
                clear hao hX
                go_wp2_with fail
                go_ret2
                exact .inl ⟨hno.out, rfl, hk⟩
            · have hyes := Lib.hid (arcsB_yes (d := d) fun a' h1 h2 => hok.out a' h1 (by omega))
              go_wp2_with fail
              go_ret2
              obtain ⟨g', A', c', gi', go', r1, r2, r3⟩ := hQ.isSh
              exact .inr ⟨hyes.out, _, rfl, hk, g', A', c', gi', go', r1, by omega, r3.1, r3.2.1, r3.2.2.1.base (by omega), r3.2.2.2.1.base (by omega), r3.2.2.2.2.base (by omega)⟩
theorem new_size {n : Nat} {loops : Int} (h : ¬ (n ≤ 16 ∧ 0 ≤ loops ∧ loops ≤ 16 ∧ ¬ (n = 0 ∧ loops = 0))) : 16 < n ∨ (n ≤ 16 ∧ loops < 0) ∨ (n ≤ 16 ∧ 16 < loops) ∨ (n = 0 ∧ loops = 0) := by omega
set_option maxRecDepth 100000 in
set_option maxHeartbeats 2000000 in
theorem new_any (v : Value) (d : Dg) (w : World) (hd : IsDg w w.heap.size v d) : Calls Try.prog 30 #[v] w (BuildPost (mayB d) d w) := by
  obtain ⟨A, cap, rfl, hcap, hr⟩ := hd
  have hrm : d.crs.length * 40 ≤ 140737488355328 := hr.room
  by_cases h : d.crs.length ≤ 16 ∧ 0 ≤ d.loops ∧ d.loops ≤ 16 ∧ ¬ (d.crs.length = 0 ∧ d.loops = 0)
  · have hm : mayB d = arcsB d := by rw [mayB_arcs, decide_eq_true h, Bool.true_and]
    rw [hm]
    clear hm
    obtain ⟨h1, h2, h3, h4⟩ := h
    have hb := Lib.hid fun w' (hk : Kp w w') => build_any (.agg #[.slice A d.crs.length cap, .int .i64 d.loops]) d w' ⟨A, cap, rfl, hcap, hr.kp hk⟩ h1
    have t1 : ((((d.crs.length : Int) + d.loops) == 0) : Bool) = false := by rw [beq_eq_false_iff_ne]; omega
    clear h4 hr
    generalize arcsB d = b at *
    go_enter Try.func30, Try.ntmps30
    go_wp2_with fail
    refine (hb.out _ ((Kp.refl _).alloc _)).mono ?_
    rintro e w1 (⟨hb0, rfl, hk⟩ | ⟨hb1, v, rfl, hk, hs⟩)
    · have hb0' := Lib.hid hb0
      clear hb0
      go_wp2_with fail
      go_ret2
      exact .inl ⟨hb0'.out, rfl, hk.al⟩
    · have hb1' := Lib.hid hb1
      clear hb1
      go_wp2_with fail
      go_ret2
      obtain ⟨g', A', c', gi', go', r1, r2, r3⟩ := hs
      simp at r2
      exact .inr ⟨hb1'.out, v, rfl, hk.al, g', A', c', gi', go', r1, by omega, r3.1, r3.2.1, r3.2.2.1.base (by simp), r3.2.2.2.1.base (by simp), r3.2.2.2.2.base (by simp)⟩
  · rw [mayB_size h]
    have hc := new_size h
    clear h hr
    obtain ⟨cs, loops⟩ := d
    dsimp only at *
    generalize cs.length = n at *
    rcases hc with hc | ⟨hc, hc'⟩ | ⟨hc, hc'⟩ | ⟨rfl, rfl⟩
    all_goals
      go_enter Try.func30, Try.ntmps30
      go_wp2_with fail
      go_ret2
      exact .inl ⟨rfl, rfl, (Kp.refl _).alloc _⟩
end Go.Proofs.Ythppkofceancjaa
namespace Go.Proofs.Ythppkofceancjaa
open Go.ChangeShapes Go.WideShapes Go.ChangeAt Go.RowKit
theorem Ow.rd {α : Type} {C : Cod α} {E : TypeId} {w : World} {b n c : Nat} {A : Option Addr} {xs : List α} (h : Ow C E w b (.slice A n c) xs) (hr : xs.length * C.u8 ≤ 140737488355328) : Rd C w w.heap.size A xs := by
  obtain rfl := h.n_eq
  exact Sl.of_own h hr
/-- What is read of a diagram at work. -/
theorem IsSh.look {w : World} {b0 : Nat} {v : Value} {d : Dg} (h : IsSh w b0 v d) (hn : d.crs.length ≤ 16) : ∃ g A c gi go, v = .pointer (some ⟨g, 0, none⟩) ∧ g < w.heap.size ∧ gi < w.heap.size ∧ go < w.heap.size ∧
    w.cell? ⟨g, 0, none⟩ = some (.slice A d.crs.length c) ∧ w.cell? ⟨g, 1, none⟩ = some (.int .i64 d.loops) ∧
    w.cell? ⟨g, 2, none⟩ = some (.slice (some ⟨gi, 0, none⟩) (2 * d.crs.length + 1) (2 * d.crs.length + 1)) ∧ w.cell? ⟨g, 3, none⟩ = some (.slice (some ⟨go, 0, none⟩) (2 * d.crs.length + 1) (2 * d.crs.length + 1)) ∧
    Rd codCr w w.heap.size A d.crs ∧
    Hid (∀ a, a < 2 * d.crs.length + 1 → w.cell? ⟨gi, a * 2, none⟩ = some (.int .i64 (lastP d a false (4 * d.crs.length)).1) ∧ w.cell? ⟨gi, a * 2 + 1, none⟩ = some (.int .i64 (lastP d a false (4 * d.crs.length)).2)) ∧
    Hid (∀ a, a < 2 * d.crs.length + 1 → w.cell? ⟨go, a * 2, none⟩ = some (.int .i64 (lastP d a true (4 * d.crs.length)).1) ∧ w.cell? ⟨go, a * 2 + 1, none⟩ = some (.int .i64 (lastP d a true (4 * d.crs.length)).2)) := by
  obtain ⟨g, A, c, gi, go, rfl, r2, r3, r4, r5, r6, r7⟩ := h
  obtain ⟨s0, s1, s2, s3⟩ := r4.four
  refine ⟨g, A, c, gi, go, rfl, r4.lt, (r6.lt gi rfl).2, (r7.lt go rfl).2, s0, s1, s2, s3, r5.rd (by show d.crs.length * 40 ≤ _; omega), fun a ha => ?_, fun a ha => ?_⟩
  · have h0 := r6.cell (i := a) (by rw [tabL_len]; exact ha) (j := 0) (by decide) rfl
    have h1 := r6.cell (i := a) (by rw [tabL_len]; exact ha) (j := 1) (by decide) rfl
    rw [tabL_get ha] at h0 h1
    exact ⟨h0, h1⟩
  · have h0 := r7.cell (i := a) (by rw [tabL_len]; exact ha) (j := 0) (by decide) rfl
    have h1 := r7.cell (i := a) (by rw [tabL_len]; exact ha) (j := 1) (by decide) rfl
    rw [tabL_get ha] at h0 h1
    exact ⟨h0, h1⟩
theorem endOf_lt {d : Dg} (h : arcsB d = true) {a : Nat} (h0 : 1 ≤ a) (h1 : a ≤ 2 * d.crs.length) (back : Bool) :
    (endOf d a back).1 < d.crs.length ∧ (endOf d a back).2 < 4 ∧ lastP d a back (4 * d.crs.length) = endOf d a back ∧ arcAt d (endOf d a back).1 (endOf d a back).2 = a ∧ entryB d (endOf d a back).1 (endOf d a back).2 = !back := by
  have hc : cntP d a back (4 * d.crs.length) = 1 := by cases back <;> simp [arcsB_out h a h0 h1]
  obtain ⟨j, j1, j2, j3, j4⟩ := cntP_one hc
  have e := lastP_end hc
  rw [j4] at e
  rw [← e]
  dsimp only
  unfold endP at j2
  rw [Bool.and_eq_true, decide_eq_true_iff] at j2
  refine ⟨by omega, by omega, by rw [j4], j2.1, ?_⟩
  have := j2.2
  cases back <;> cases hq : entryB d (j / 4) (j % 4) <;> simp_all
end Go.Proofs.Ythppkofceancjaa
namespace Go.Proofs.Ythppkofceancjaa
open Go.ChangeShapes Go.WideShapes Go.ChangeAt Go.RowKit
def cdPl : Cd (Nat × Nat) := ⟨plF, 2, 16, 79, (0, 0), fun _ => rfl, by
  intro x u hu
  simp [plF] at hu
  rcases hu with rfl | rfl <;> rfl⟩
section
variable {w w' : World} {M : Hp} {X : Fr} {H H' : List Rs}
theorem Kp.like (h : Kp w w') : Like w w' := ⟨h.os, h.tape, h.output, h.size⟩
theorem SH.old (S : SH w M X H) (h : Kp w w') : SH w' M X H := S.kp h.like fun b hb => h.block b hb
theorem SH.adopt {r : Rs} (S : SH w M X []) (S' : SH w' M X H') (hr : r.ok (hp w')) (hb : ∀ b ∈ r.bl, w.heap.size ≤ b ∧ b < w'.heap.size) (hdis : ∀ s ∈ H', ∀ b ∈ r.bl, b ∉ s.bl) : SH w' M X (r :: H') := by
  have fresh : ∀ b, w.heap.size ≤ b → M b = none ∧ X.h b = none := fun b hge => by
    constructor
    · cases hm : M b with
      | none => rfl
      | some o => have := hp_lt (S.m b o hm); omega
    · cases hm : X.h b with
      | none => rfl
      | some o => have := hp_lt (S.x b o hm); omega
  refine ⟨S'.m, S'.x, S'.mx, fun s hs => ?_, fun s hs b hbs => ?_, fun j k s t hjk hs ht b hbs => ?_, S'.like⟩
  · rcases List.mem_cons.1 hs with rfl | hs
    · exact hr
    · exact S'.ok s hs
  · rcases List.mem_cons.1 hs with rfl | hs
    · exact ⟨(hb b hbs).2, fresh b (hb b hbs).1⟩
    · exact S'.bl s hs b hbs
  · cases j with
    | zero =>
      cases k with
      | zero => exact absurd rfl hjk
      | succ k =>
        simp only [List.getElem?_cons_zero, Option.some.injEq, List.getElem?_cons_succ] at hs ht
        subst hs
        exact hdis t (List.mem_of_getElem? ht) b hbs
    | succ j =>
      cases k with
      | zero =>
        simp only [List.getElem?_cons_zero, Option.some.injEq, List.getElem?_cons_succ] at hs ht
        subst ht
        exact fun hbt => hdis s (List.mem_of_getElem? hs) b hbt hbs
      | succ k =>
        simp only [List.getElem?_cons_succ] at hs ht
        exact S'.ap j k s t (by omega) hs ht b hbs
/-- A diagram, as the old texts read it. -/
theorem RdA.dg {N : Hp} {A : Option Addr} {c : Nat} {d : Dg} (h : RdA cdCr N A c d.crs) (hN : N.le (hp w)) : IsDg w w.heap.size (.agg [.slice A d.crs.length c, .int .i64 d.loops].toArray) d := by
  refine ⟨A, c, rfl, h.1, ⟨flat_len codCr.hf _, h.2.1, fun h0 => ?_⟩⟩
  have hlen : 0 < d.crs.length := by simpa using h0
  obtain ⟨e, cs, T, fz, hc, _⟩ := h.2.2 hlen
  refine ⟨adB A, adO A, e, hp_lt (hN _ _ hc), fun j u hu => ?_⟩
  exact h.cells hN j u hu
theorem cq_bool {f : FuncId} {vs : List Value} {b : Bool} (S : SH w M X []) (h : Calls Try.prog f vs.toArray w (BoPost b w)) : Cq Try.prog f vs w M X (fun u => u = .bool b) :=
  h.mono fun e w' ⟨he, hk⟩ => ⟨_, he, S.old hk, rfl⟩
theorem DiagramMay_q (d : Dg) {A : Option Addr} {c : Nat} (h : RdA cdCr (M.un X.h) A c d.crs) (S : SH w M X []) : Cq Try.prog 23 [.agg [.slice A d.crs.length c, .int .i64 d.loops].toArray] w M X (fun u => u = .bool (mayB d)) :=
  cq_bool S (diagramMay_any _ d w (h.dg S.um))
end
def ShV (d : Dg) (vi vo : Value) : Prop := ∃ gi go, vi = .slice (some ⟨gi, 0, none⟩) (2 * d.crs.length + 1) (2 * d.crs.length + 1) ∧ vo = .slice (some ⟨go, 0, none⟩) (2 * d.crs.length + 1) (2 * d.crs.length + 1) ∧ gi ≠ go
def NewR (d : Dg) (v : Value) (N : List Rs) : Prop :=
  (mayB d = false ∧ v = .tuple [.pointer none, .bool false].toArray ∧ N = []) ∨
  (mayB d = true ∧ ∃ g vc vi vo, v = .tuple [.pointer (some ⟨g, 0, none⟩), .bool true].toArray ∧
    N = [Rs.box g 61 [vc, .int .i64 d.loops, vi, vo], Rs.row cdCr vc d.crs, Rs.row cdPl vi (tabL d false (4 * d.crs.length)), Rs.row cdPl vo (tabL d true (4 * d.crs.length))] ∧ ShV d vi vo)
theorem bl_row {α : Type} {C : Cd α} {v : Value} {xs : List α} {b : Nat} (h : b ∈ (Rs.row C v xs).bl) : v.ownBlock = some b := by simpa [Rs.row] using h
theorem New_o {w : World} {M : Hp} {X : Fr} (d : Dg) {A : Option Addr} {c : Nat} (h : RdA cdCr (M.un X.h) A c d.crs) (S : SH w M X []) : Co Try.prog 30 [.agg [.slice A d.crs.length c, .int .i64 d.loops].toArray] w M X (NewR d) := by
  refine (new_any _ d w (h.dg S.um)).mono ?_
  rintro e w' (⟨hm, rfl, hk⟩ | ⟨hm, v, rfl, hk, g, B, cp, gi, go, rfl, hg, hne, hb, hc, hi, ho⟩)
  · exact ⟨_, rfl, [], S.old hk, .inl ⟨hm, rfl, rfl⟩⟩
  · have hci := hc.ne_ hi (by decide)
    have hco := hc.ne_ ho (by decide)
    have hcb := hc.ne_blk hb (by decide)
    have hib := hi.ne_blk hb (by decide)
    have hob := ho.ne_blk hb (by decide)
    have S0 := S.old hk
    have S1 : SH w' M X [Rs.row cdPl (.slice (some ⟨go, 0, none⟩) (2 * d.crs.length + 1) (2 * d.crs.length + 1)) (tabL d true (4 * d.crs.length))] :=
      S.adopt S0 (RowOk.of_owns (C := cdPl) (ho.base (Nat.zero_le _))) (fun b hb => ho.lt b (bl_row hb)) (by simp)
    have S2 := S.adopt S1 (r := Rs.row cdPl (.slice (some ⟨gi, 0, none⟩) (2 * d.crs.length + 1) (2 * d.crs.length + 1)) (tabL d false (4 * d.crs.length)))
      (RowOk.of_owns (C := cdPl) (hi.base (Nat.zero_le _))) (fun b hb => hi.lt b (bl_row hb)) (fun s hs b hb hbs => by
        rw [List.mem_singleton] at hs
        subst hs
        have h1 := bl_row hb
        have h2 := bl_row hbs
        simp only [Value.ownBlock, Option.some.injEq] at h1 h2
        omega)
    have S3 := S.adopt S2 (r := Rs.row cdCr (.slice B d.crs.length cp) d.crs) (RowOk.of_owns (C := cdCr) (hc.base (Nat.zero_le _))) (fun b hb => hc.lt b (bl_row hb)) (fun s hs b hb hbs => by
        have h1 := bl_row hb
        rcases List.mem_cons.1 hs with rfl | hs
        · rcases hci with h | h
          · rw [h] at h1; cases h1
          · exact h (h1.trans (bl_row hbs).symm)
        · rw [List.mem_singleton] at hs
          subst hs
          rcases hco with h | h
          · rw [h] at h1; cases h1
          · exact h (h1.trans (bl_row hbs).symm))
    have S4 := S.adopt S3 (r := Rs.box g 61 [.slice B d.crs.length cp, .int .i64 d.loops, .slice (some ⟨gi, 0, none⟩) (2 * d.crs.length + 1) (2 * d.crs.length + 1), .slice (some ⟨go, 0, none⟩) (2 * d.crs.length + 1) (2 * d.crs.length + 1)])
      hb (fun b hb' => by simp [Rs.box] at hb'; subst hb'; exact ⟨hg, hb.lt⟩) (fun s hs b hb' hbs => by
        simp [Rs.box] at hb'
        subst hb'
        rcases List.mem_cons.1 hs with rfl | hs
        · rcases hcb with h | h
          · have := bl_row hbs; rw [h] at this; cases this
          · exact h (bl_row hbs)
        · rcases List.mem_cons.1 hs with rfl | hs
          · rcases hib with h | h
            · have := bl_row hbs; rw [h] at this; cases this
            · exact h (bl_row hbs)
          · rw [List.mem_singleton] at hs
            subst hs
            rcases hob with h | h
            · have := bl_row hbs; rw [h] at this; cases this
            · exact h (bl_row hbs))
    exact ⟨_, rfl, _, S4, .inr ⟨hm, g, _, _, _, rfl, rfl, gi, go, rfl, rfl, hne⟩⟩
end Go.Proofs.Ythppkofceancjaa
namespace Go.Proofs.Ythppkofceancjaa
open Go.ChangeShapes Go.WideShapes Go.ChangeAt Go.RowKit
section
variable {P : Program} {o : Oper} {L : List (Nat × Value)} {w w' : World} {x y z : Operand} {t t' T E : TypeId} {a b : Int} {v u : Value} {n d : Nat} {Kt : List (Nat × Value) → World → Prop} {M M' : Hp} {X : Fr} {H H' : List Rs} {i g off : Nat} {l : List Value}
theorem run_makeFunc {f : FuncId} {ys : List Operand} {vs : List Value} {fa ca : Array Operand} (hop : o.op = .makeFunc (.func f) fa ca) (hf : fa = #[]) (hc : ca = ys.toArray) (hv : oevs L ys = some vs) : Run P o L w (.func (.func f) #[] vs.toArray) w := by
  intro n c he
  unfold execOp
  subst hf
  simp only [hop, hc, List.map_toArray, he.evals hv, Instr.makeFunc, Sem.run_bind, Sem.run_pure, Result.andThen_ok]
  rfl
end
section
variable {α : Type} {C : Cd α} {N : Hp} {vs : List SlV} {xss : List (List α)}
end
end Go.Proofs.Ythppkofceancjaa
namespace Go.Proofs.Ythppkofceancjaa
open Go.ChangeShapes Go.WideShapes Go.ChangeAt Go.RowKit
section
variable {P : Program} {f : FuncId} {vs vs' : List Value} {w : World} {M : Hp} {X : Fr}
/-- The facts of a lent table's rows, at the call's memory. -/
theorem Rd2.at_ {α : Type} {C : Cd α} {ss : List SlV} {xss : List (List α)} {H : List Rs} (_ : SH w M X H) (h : Rd2 C (M.un (XH w X H).h) ss xss) : Rd2 C (M.un (XH w X H).h) ss xss := h
end
end Go.Proofs.Ythppkofceancjaa
namespace Go.Proofs.Ythppkofceancjaa
open Go.ChangeShapes Go.WideShapes Go.ChangeAt Go.RowKit
def SlV.v (s : SlV) : Value := .slice s.A s.n s.c
def tabBl (vs : List SlV) : List Nat := vs.flatMap (fun s => s.v.ownBlock.toList)
def TabOk {α : Type} (C : Cd α) (vs : List SlV) (xss : List (List α)) (h : Hp) : Prop :=
  vs.length = xss.length ∧ (∀ i, i < xss.length → RowOk C (ga vs i).v (ga xss i) h) ∧ ∀ i j, i < vs.length → j < vs.length → i ≠ j → ∀ b ∈ (ga vs i).v.ownBlock.toList, b ∉ (ga vs j).v.ownBlock.toList
theorem tab_mem {vs : List SlV} {b : Nat} : b ∈ tabBl vs ↔ ∃ i, i < vs.length ∧ b ∈ (ga vs i).v.ownBlock.toList := by
  unfold tabBl
  rw [List.mem_flatMap]
  constructor
  · rintro ⟨s, hs, hb⟩
    obtain ⟨i, hi, rfl⟩ := List.mem_iff_getElem.1 hs
    exact ⟨i, hi, by rw [ga_eq hi]; exact hb⟩
  · rintro ⟨i, hi, hb⟩
    exact ⟨ga vs i, ga_mem hi, hb⟩
/-- The inner rows. -/
def Rs.tab {α : Type} (C : Cd α) (vs : List SlV) (xss : List (List α)) : Rs :=
  ⟨tabBl vs, TabOk C vs xss, fun h h' hb hk => ⟨hk.1, fun i hi => (Rs.row C (ga vs i).v (ga xss i)).loc h h' (fun b hm => hb b (tab_mem.2 ⟨i, by rw [hk.1]; exact hi, hm⟩)) (hk.2.1 i hi), hk.2.2⟩⟩
section
variable {α : Type} {C : Cd α} {xs zs : List α} {v : Value} {w w' : World} {M : Hp} {X : Fr} {H H' : List Rs} {i q g k : Nat} {T : TypeId} {l : List Value} {vs : List SlV} {xss : List (List α)} {r s t : Rs}
theorem SH.newtab (S : SH w M X H) (C : Cd α) (n : Nat) : SH w M X (Rs.tab C (List.replicate n ⟨none, 0, 0⟩) (List.replicate n []) :: H) := by
  have hb : tabBl (List.replicate n ⟨none, 0, 0⟩) = [] := by
    unfold tabBl
    rw [List.flatMap_eq_nil_iff]
    intro x hx
    rw [List.eq_of_mem_replicate hx]
    rfl
  refine S.add ⟨by simp, fun i hi => ?_, fun i j hi hj _ b hb' => ?_⟩ hb
  · rw [List.length_replicate] at hi
    rw [ga_rep _ _ _ hi, ga_rep _ _ _ hi]
    exact .inl ⟨rfl, rfl⟩
  · rw [List.length_replicate] at hi
    rw [ga_rep _ _ _ hi] at hb'
    cases hb'
theorem SH.newtab0 (S : SH w M X H) (C : Cd α) : SH w M X (Rs.tab C [] [] :: H) := S.newtab C 0
/-- Two things become one. -/
theorem SH.merge (S : SH w M X H) (hi : nth H i = some r) (hq : nth H q = some s) (hiq : i ≠ q) (hok : t.ok (hp w)) (hbl : ∀ b ∈ t.bl, b ∈ r.bl ∨ b ∈ s.bl) (hH : (H.set i t).set q Rs.emp = H') : SH w M X H' := by
  subst hH
  rw [nth_eq] at hi hq
  have hget : ∀ j u, ((H.set i t).set q Rs.emp)[j]? = some u → (j = q ∧ u = Rs.emp) ∨ (j ≠ q ∧ j = i ∧ u = t) ∨ (j ≠ q ∧ j ≠ i ∧ H[j]? = some u) := fun j u hu => by
    rw [List.getElem?_set] at hu
    by_cases h1 : q = j
    · subst h1
      rw [if_pos rfl] at hu
      split at hu
      · injection hu with hu; exact .inl ⟨rfl, hu.symm⟩
      · cases hu
    · rw [if_neg h1, List.getElem?_set] at hu
      by_cases h2 : i = j
      · subst h2
        rw [if_pos rfl] at hu
        split at hu
        · injection hu with hu; exact .inr (.inl ⟨fun e => h1 e.symm, rfl, hu.symm⟩)
        · cases hu
      · rw [if_neg h2] at hu
        exact .inr (.inr ⟨fun e => h1 e.symm, fun e => h2 e.symm, hu⟩)
  refine ⟨S.m, S.x, S.mx, fun u hu => ?_, fun u hu b hb => ?_, fun j m u y hjm hu hy b hb => ?_, S.like⟩
  · obtain ⟨j, hj⟩ := List.mem_iff_getElem?.1 hu
    rcases hget j u hj with ⟨_, rfl⟩ | ⟨_, _, rfl⟩ | ⟨_, _, h⟩
    · trivial
    · exact hok
    · exact S.ok u (List.mem_of_getElem? h)
  · obtain ⟨j, hj⟩ := List.mem_iff_getElem?.1 hu
    rcases hget j u hj with ⟨_, rfl⟩ | ⟨_, _, rfl⟩ | ⟨_, _, h⟩
    · cases hb
    · rcases hbl b hb with h | h
      · exact S.bl r (List.mem_of_getElem? hi) b h
      · exact S.bl s (List.mem_of_getElem? hq) b h
    · exact S.bl u (List.mem_of_getElem? h) b hb
  · rcases hget j u hu with ⟨_, rfl⟩ | ⟨h1, rfl, rfl⟩ | ⟨h1, h2, h⟩
    · cases hb
    · rcases hget m y hy with ⟨_, rfl⟩ | ⟨_, rfl, _⟩ | ⟨h3, h4, h⟩
      · intro hc; cases hc
      · exact absurd rfl hjm
      · rcases hbl b hb with hb | hb
        · exact S.ap j m r y hjm hi h b hb
        · exact S.ap q m s y (fun e => h3 e.symm) hq h b hb
    · rcases hget m y hy with ⟨_, rfl⟩ | ⟨h3, rfl, rfl⟩ | ⟨_, _, h'⟩
      · intro hc; cases hc
      · intro hc
        rcases hbl b hc with hc | hc
        · exact S.ap j m u r hjm h hi b hb hc
        · exact S.ap j q u s h1 h hq b hb hc
      · exact S.ap j m u y hjm h h' b hb
theorem ga_set_ne {β : Type} [Inhabited β] (xs : List β) (i j : Nat) (y : β) (h : i ≠ j) : ga (xs.set i y) j = ga xs j := by
  unfold ga
  rw [List.getD_eq_getElem?_getD, List.getD_eq_getElem?_getD, List.getElem?_set, if_neg h]
/-- A row goes into the table. -/
theorem SH.tabput {A : Option Addr} {c : Nat} (S : SH w M X H) (k : Nat) (hi : nth H i = some (Rs.tab C vs xss)) (hq : nth H q = some (Rs.row C (.slice A zs.length c) zs)) (hiq : i ≠ q) (hk : k < xss.length) (hH : (H.set i (Rs.tab C (vs.set k ⟨A, zs.length, c⟩) (xss.set k zs))).set q Rs.emp = H') : SH w M X H' := by
  have ht : TabOk C vs xss (hp w) := S.get hi
  have hr : RowOk C (.slice A zs.length c) zs (hp w) := S.get hq
  have hkv : k < vs.length := by rw [ht.1]; exact hk
  have hap : ∀ j, j < vs.length → ∀ b ∈ (ga vs j).v.ownBlock.toList, b ∉ (Value.slice A zs.length c).ownBlock.toList := fun j hj b hb => by
    rw [nth_eq] at hi hq
    exact S.ap i q _ _ hiq hi hq b (tab_mem.2 ⟨j, hj, hb⟩)
  refine S.merge (t := Rs.tab C (vs.set k ⟨A, zs.length, c⟩) (xss.set k zs)) hi hq hiq ⟨by simp [ht.1], fun j hj => ?_, fun j m hj hm hjm b hb => ?_⟩ (fun b hb => ?_) hH
  · rw [List.length_set] at hj
    rw [ga_set _ _ _ _ hkv, ga_set _ _ _ _ hk]
    by_cases h : k = j
    · rw [if_pos h, if_pos h]; exact hr
    · rw [if_neg h, if_neg h]; exact ht.2.1 j hj
  · rw [List.length_set] at hj hm
    rw [ga_set _ _ _ _ hkv] at hb ⊢
    by_cases h1 : k = j
    · rw [if_pos h1] at hb
      rw [if_neg (by omega)]
      exact fun hc => hap m hm b hc hb
    · rw [if_neg h1] at hb
      by_cases h2 : k = m
      · rw [if_pos h2]; exact hap j hj b hb
      · rw [if_neg h2]; exact ht.2.2 j m hj hm hjm b hb
  · obtain ⟨j, hj, hb⟩ := tab_mem.1 hb
    rw [List.length_set] at hj
    rw [ga_set _ _ _ _ hkv] at hb
    by_cases h : k = j
    · rw [if_pos h] at hb; exact .inr hb
    · rw [if_neg h] at hb; exact .inl (tab_mem.2 ⟨j, hj, hb⟩)
/-- A row goes behind the table's last one. -/
theorem SH.tabsnoc {A : Option Addr} {c : Nat} (S : SH w M X H) (hi : nth H i = some (Rs.tab C vs xss)) (hq : nth H q = some (Rs.row C (.slice A zs.length c) zs)) (hiq : i ≠ q) (hH : (H.set i (Rs.tab C (vs ++ [⟨A, zs.length, c⟩]) (xss ++ [zs]))).set q Rs.emp = H') : SH w M X H' := by
  have ht : TabOk C vs xss (hp w) := S.get hi
  have hr : RowOk C (.slice A zs.length c) zs (hp w) := S.get hq
  have hap : ∀ j, j < vs.length → ∀ b ∈ (ga vs j).v.ownBlock.toList, b ∉ (Value.slice A zs.length c).ownBlock.toList := fun j hj b hb => by
    rw [nth_eq] at hi hq
    exact S.ap i q _ _ hiq hi hq b (tab_mem.2 ⟨j, hj, hb⟩)
  have hga : ∀ j, j < vs.length + 1 → ga (vs ++ [(⟨A, zs.length, c⟩ : SlV)]) j = if j < vs.length then ga vs j else ⟨A, zs.length, c⟩ := fun j hj => by
    split
    · rename_i h; exact ga_append_left _ _ _ h
    · rw [ga_append_right _ _ _ (by omega), show j - vs.length = 0 by omega]; rfl
  refine S.merge (t := Rs.tab C (vs ++ [⟨A, zs.length, c⟩]) (xss ++ [zs])) hi hq hiq ⟨by simp [ht.1], fun j hj => ?_, fun j m hj hm hjm b hb => ?_⟩ (fun b hb => ?_) hH
  · rw [List.length_append, List.length_singleton] at hj
    rw [hga j (by rw [ht.1]; exact hj)]
    by_cases h : j < vs.length
    · rw [if_pos h, ga_append_left _ _ _ (by rw [← ht.1]; exact h)]; exact ht.2.1 j (by rw [← ht.1]; exact h)
    · rw [if_neg h, ga_append_right _ _ _ (by rw [← ht.1]; omega), show j - xss.length = 0 by rw [← ht.1]; rw [← ht.1] at hj; omega]; exact hr
  · rw [List.length_append, List.length_singleton] at hj hm
    rw [hga j hj] at hb
    rw [hga m hm]
    by_cases h1 : j < vs.length
    · rw [if_pos h1] at hb
      by_cases h2 : m < vs.length
      · rw [if_pos h2]; exact ht.2.2 j m h1 h2 hjm b hb
      · rw [if_neg h2]; exact hap j h1 b hb
    · rw [if_neg h1] at hb
      rw [if_pos (by omega)]
      exact fun hc => hap m (by omega) b hc hb
  · obtain ⟨j, hj, hb⟩ := tab_mem.1 hb
    rw [List.length_append, List.length_singleton] at hj
    rw [hga j hj] at hb
    by_cases h : j < vs.length
    · rw [if_pos h] at hb; exact .inl (tab_mem.2 ⟨j, h, hb⟩)
    · rw [if_neg h] at hb; exact .inr hb
/-- A box is a row. -/
theorem SH.boxrow (S : SH w M X H) (zs : List α) (hi : nth H i = some (Rs.box g C.E l)) (hl : l = zs.flatMap C.f) (hm : zs.length ≤ 16777216) (hH : H.set i (Rs.row C (.slice (some ⟨g, 0, none⟩) zs.length zs.length) zs) = H') : SH w M X H' := by
  have hb : hp w g = some (.cells l.toArray C.E (0, 0)) := S.get hi
  refine S.step hi hH (Like.refl w) (fun _ _ _ => rfl) (.inr ⟨g, zs.length, l.toArray, rfl, hb, Nat.le_refl _, by unfold maxLen; omega, by rw [hl]; simpa using flat_len C.hf zs, ?_⟩) (fun b hb' => ⟨.inl ?_, ?_⟩)
  · rw [hl, List.take_of_length_le (by rw [List.toList_toArray, flat_len C.hf]; exact Nat.le_refl _)]
  · simpa [Rs.row, Value.ownBlock, Rs.box] using hb'
  · simp [Rs.row, Value.ownBlock] at hb'
    subst hb'
    exact hp_lt hb
/-- What is known of an inner row. -/
theorem SH.tabrow (S : SH w M X H) (hi : nth H i = some (Rs.tab C vs xss)) (hk : k < xss.length) : (ga vs k).n = (ga xss k).length ∧ (0 < (ga xss k).length → (ga vs k).A = some ⟨adB (ga vs k).A, 0, none⟩) ∧ (ga xss k).length ≤ (ga vs k).c := by
  rcases (S.get hi : TabOk C vs xss (hp w)).2.1 k hk with ⟨h1, h2⟩ | ⟨g, cap, cur, h1, h2, h3, _⟩
  · injection h1 with h1 h1' h1''
    rw [h2]
    exact ⟨h1', fun h => absurd h (by simp), by simp⟩
  · injection h1 with h1 h1' h1''
    exact ⟨h1', fun _ => by rw [h1]; rfl, by rw [h1'']; exact h3⟩
theorem rb_v (s : SlV) : rb s.v = adB s.A := by
  obtain ⟨A, n, c⟩ := s
  cases A <;> rfl
theorem RowOk.cell [Inhabited α] (h : RowOk C v xs (hp w)) {e j : Nat} {u : Value} (he : e < xs.length) (hj : Nat.blt j C.k = true) (hu : nth (C.f (ga xs e)) j = some u) : w.cell? ⟨rb v, e * C.k + j, none⟩ = some u := by
  rcases h with ⟨_, h2⟩ | ⟨g, cap, cur, rfl, h2, h3, h4, h5, h6⟩
  · rw [h2] at he; simp at he
  · have hj' : j < C.k := by simpa using hj
    show w.cell? ⟨g, e * C.k + j, none⟩ = some u
    rw [cell_of_row w g _ cur C.E (0, 0) h2]
    have hlt : e * C.k + j < xs.length * C.k := by
      have := Nat.mul_le_mul_right C.k (show e + 1 ≤ xs.length by omega)
      rw [Nat.succ_mul] at this
      omega
    have h7 := flat_get C.hf (xs := xs) he hj'
    rw [← h6, List.getElem?_take, if_pos hlt, ← ga_eq he, ← nth_eq (C.f (ga xs e)), hu] at h7
    simpa using h7
theorem SH.tabc [Inhabited α] (S : SH w M X H) (hi : nth H i = some (Rs.tab C vs xss)) (hk : k < xss.length) {e j : Nat} {u : Value} (he : e < (ga xss k).length) (hj : Nat.blt j C.k = true) (hu : nth (C.f (ga (ga xss k) e)) j = some u) : w.cell? ⟨adB (ga vs k).A, e * C.k + j, none⟩ = some u := by
  have := ((S.get hi : TabOk C vs xss (hp w)).2.1 k hk).cell he hj hu
  rwa [rb_v] at this
theorem RowOk.rds (h : RowOk C v xs (hp w)) (hr : xs.length * C.u8 ≤ 140737488355328) {N : Hp} (hN : ∀ b ∈ v.ownBlock.toList, N b = hp w b) : Rds C N v xs := by
  rcases h with ⟨h1, h2⟩ | ⟨g, cap, cur, h1, h2, h3, h4, h5, h6⟩
  · subst h1; subst h2
    exact Rds.nil_
  · subst h1
    refine ⟨_, cap, rfl, h3, hr, fun _ => ⟨rfl, cur, C.E, (0, 0), ?_, fun j u hu => ?_⟩⟩
    · show N g = _
      rw [hN g (by simp [Value.ownBlock])]
      exact h2
    · show cur[0 + j]? = some u
      rw [Nat.zero_add]
      rw [← h6, List.getElem?_take] at hu
      split at hu
      · simpa using hu
      · cases hu
theorem SH.tabRd (S : SH w M X H) (hi : nth H i = some (Rs.tab C vs xss)) (hr : ∀ i, i < xss.length → (ga xss i).length * C.u8 ≤ 140737488355328) {N : Hp} (hN : ∀ b ∈ tabBl vs, N b = hp w b) : Rd2 C N vs xss := by
  have ht : TabOk C vs xss (hp w) := S.get hi
  refine ⟨ht.1, fun j hj => ?_⟩
  obtain ⟨A, c, e, h⟩ := (ht.2.1 j hj).rds (hr j hj) (fun b hb => hN b (tab_mem.2 ⟨j, by rw [ht.1]; exact hj, hb⟩))
  injection e with e1 e2 e3
  rw [e1, e2, e3]
  exact ⟨rfl, h⟩
/-- A table is laid down for good. -/
theorem SH.pubtab (S : SH w M X H) (hi : nth H i = some (Rs.tab C vs xss)) (hH : H.set i Rs.emp = H') (hr : ∀ i, i < xss.length → (ga xss i).length * C.u8 ≤ 140737488355328) : ∃ M', M.le M' ∧ SH w M' X H' ∧ Rd2 C M' vs xss := by
  obtain ⟨h1, h2, h3⟩ := S.pub hi hH
  exact ⟨_, h1, h2, S.tabRd hi hr h3⟩
end
section
variable {P : Program} {o : Oper} {L : List (Nat × Value)} {w w' : World} {x y z : Operand} {t t' T E : TypeId} {a b : Int} {v u : Value} {n d : Nat} {Kt : List (Nat × Value) → World → Prop} {M M' : Hp} {X : Fr} {H H' : List Rs} {i k g off : Nat} {l : List Value}
theorem run_indexT {α : Type} {C : Cd α} {vs : List SlV} {xss : List (List α)} {m : Nat} (k e : Nat) (hop : o.op = .indexAddr T x y) (hx : oev L x = some (.slice (ga vs k).A m (ga vs k).c)) (hm : m = (ga vs k).n) (hy : oev L y = some (.int .i64 a)) (hT : SlOf P T C) (S : SH w M X H) (hi : nth H i = some (Rs.tab C vs xss)) (hk : k < xss.length)
    (ha : a = (e : Int)) (he : e < (ga xss k).length) : Run P o L w (.pointer (some ⟨adB (ga vs k).A, e * C.k, none⟩)) w := by
  obtain ⟨h0, h1, _⟩ := S.tabrow hi hk
  obtain ⟨z, hu, h2, _⟩ := hT
  obtain ⟨inf, hinf, _, hs, _⟩ := info_parts h2
  have := run_indexAddr (P := P) (w := w) hop hx hy hu (k := C.k) (by rw [hinf]; simp [hs]) ha (by rw [hm, h0]; exact he) (h1 (by omega))
  rwa [Nat.zero_add] at this
theorem row_stored {α : Type} [Inhabited α] {C : Cd α} {ys : List α} {us : List Value} {rv : Value} {e j : Nat} (y' : α) (hok : RowOk C rv ys (hp w)) (he : e < ys.length) (hfit' : j + us.length ≤ C.k) (hl' : spl (C.f (ga ys e)) j us = C.f y') :
    ∃ cur : Array Value, hp w (rb rv) = some (.cells cur C.E (0, 0)) ∧ rb rv ∈ rv.ownBlock.toList ∧ (∀ b ∈ rv.ownBlock.toList, b = rb rv) ∧ e * C.k + j + us.length ≤ cur.size ∧ RowOk C rv (ys.set e y') (hp (w.setRow (rb rv) (cur.toList.take (e * C.k + j) ++ us ++ cur.toList.drop (e * C.k + j + us.length)).toArray)) := by
  rw [ga_eq he] at hl'
  rcases hok with ⟨_, h2⟩ | ⟨g, cap, cur, rfl, h2, h3, h4, h5, h6⟩
  · subst h2; simp at he
  · have hcur : e * C.k + j + us.length ≤ cur.size := by
      have h7 : e * C.k + C.k ≤ cap * C.k := by rw [← Nat.succ_mul]; exact Nat.mul_le_mul_right _ (by omega)
      omega
    refine ⟨cur, h2, by simp [rb, Value.ownBlock], fun b hb => by simpa [rb, Value.ownBlock] using hb, hcur, ?_⟩
    have hcur' : e * C.k + j + us.length ≤ cur.toList.length := by simpa using hcur
    rw [← spl_eq us cur.toList (e * C.k + j) hcur']
    have hs := setRow_heap w g cur (spl cur.toList (e * C.k + j) us).toArray C.E (0, 0) h2
    refine .inr ⟨g, cap, (spl cur.toList (e * C.k + j) us).toArray, by rw [List.length_set], hs, by rw [List.length_set]; exact h3, h4, by simp [spl_len, h5], ?_⟩
    rw [List.length_set, ← flat_spl ys e j us y' he hfit' hl', ← h6]
    apply List.ext_getElem?
    intro m
    have hle : e * C.k + C.k ≤ ys.length * C.k := by rw [← Nat.succ_mul]; exact Nat.mul_le_mul_right _ he
    have hys : ys.length * C.k ≤ cur.size := by rw [h5]; exact Nat.mul_le_mul_right _ h3
    rw [List.getElem?_take, spl_get us _ _ _ hcur', spl_get us _ _ _ (by simp; omega), List.getElem?_take]
    by_cases hm : m < ys.length * C.k
    · rw [if_pos hm, if_pos hm]
    · rw [if_neg hm, if_neg hm, if_neg (by omega)]
theorem wo_storeT {α : Type} [Inhabited α] {C : Cd α} {vs : List SlV} {xss : List (List α)} {us : List Value} {k e j : Nat} (y' : α) (hop : o.op = .store T x y) (hd : o.dst = none) (S : SH w M X H) (hi : nth H i = some (Rs.tab C vs xss)) (hkk : k < xss.length) (he : e < (ga xss k).length) (hx : oev L x = some (.pointer (some ⟨adB (ga vs k).A, e * C.k + j, none⟩))) (hy : oev L y = some v) (hl : v.cells.toList = us) (hk : (P.info? T).map (·.size) = some us.length)
    (hfit : Nat.ble (j + us.length) C.k = true) (h1 : ones us = true) (hl' : spl (C.f (ga (ga xss k) e)) j us = C.f y') (hH : H.set i (Rs.tab C vs (xss.set k ((ga xss k).set e y'))) = H') (h : ∀ w', SH w' M X H' → Kt L w') : WO P n o L w Kt := by
  have hfit' : j + us.length ≤ C.k := by simpa using hfit
  have ht : TabOk C vs xss (hp w) := S.get hi
  have hkv : k < vs.length := by rw [ht.1]; exact hkk
  obtain ⟨cur, h2, h3, h4, h5, h6⟩ := row_stored (w := w) y' (ht.2.1 k hkk) he hfit' hl'
  rw [← rb_v] at hx
  refine wo_runS hd (run_storeAt hop hx hy hl hk h2 h5 (ones_spec h1)) (h _ ?_)
  have hmem : rb (ga vs k).v ∈ tabBl vs := tab_mem.2 ⟨k, hkv, h3⟩
  refine S.step hi hH (like_setRow _ _ _) (fun b _ hb => keep_setRow _ _ _ b (fun e => hb (by rw [e]; exact hmem))) ⟨by simp [ht.1], fun m hm => ?_, ht.2.2⟩ (fun b hb => ⟨.inl hb, ?_⟩)
  · rw [List.length_set] at hm
    rw [ga_set _ _ _ _ hkk]
    by_cases hkm : k = m
    · subst hkm
      rw [if_pos rfl]; exact h6
    · rw [if_neg hkm]
      refine (Rs.row C (ga vs m).v (ga xss m)).loc _ _ (fun b hb => keep_setRow _ _ _ b (fun e => ?_)) (ht.2.1 m hm)
      subst e
      exact ht.2.2 k m hkv (by rw [ht.1]; exact hm) hkm _ h3 hb
  · have hm : Rs.tab C vs xss ∈ H := by rw [nth_eq] at hi; exact List.mem_of_getElem? hi
    have := S.bl _ hm b hb
    simpa using this.1
end
end Go.Proofs.Ythppkofceancjaa
namespace Go.Proofs.Ythppkofceancjaa
open Go.ChangeShapes Go.WideShapes Go.ChangeAt Go.RowKit
/-- A field of one cell, compared: its offset; is it a Bool? -/
def FE (P : Program) (f : Field) (p : Nat × Bool) : Prop :=
  (f.name == "_") = false ∧ f.offset = p.1 ∧ (match p.2 with | true => P.underlying f.type = some .bool | false => ∃ k, P.underlying f.type = some (.int k))
def EqIs (xs ys : List Value) : List (Nat × Bool) → Prop → Prop
  | [], Q => Q = True
  | [(o, false)], Q => ∃ k x y, nth xs o = some (.int k x) ∧ nth ys o = some (.int k y) ∧ Q = (x = y)
  | [(o, true)], Q => ∃ x y, nth xs o = some (.bool x) ∧ nth ys o = some (.bool y) ∧ Q = (x = y)
  | (o, false) :: r, Q => ∃ k x y Q', nth xs o = some (.int k x) ∧ nth ys o = some (.int k y) ∧ EqIs xs ys r Q' ∧ Q = (x = y ∧ Q')
  | (o, true) :: r, Q => ∃ x y Q', nth xs o = some (.bool x) ∧ nth ys o = some (.bool y) ∧ EqIs xs ys r Q' ∧ Q = (x = y ∧ Q')
def StEq (P : Program) (T : TypeId) (pl : List (Nat × Bool)) : Prop :=
  ∃ fs : List Field, P.underlying T = some (.struct fs.toArray) ∧ Al2 (FE P) fs pl ∧ P.stoodInHeld T = false ∧ P.eqGuardType P.depth T = false
section
variable {P : Program}
theorem eqIs_go {xs ys : List Value} {o : Nat} {b : Bool} : ∀ {r : List (Nat × Bool)} {Q : Prop}, EqIs xs ys ((o, b) :: r) Q → ∃ Q1 Q2, (match b with | false => ∃ k x y, nth xs o = some (.int k x) ∧ nth ys o = some (.int k y) ∧ Q1 = (x = y) | true => ∃ x y, nth xs o = some (.bool x) ∧ nth ys o = some (.bool y) ∧ Q1 = (x = y)) ∧ EqIs xs ys r Q2 ∧ (Q ↔ Q1 ∧ Q2)
  | [], Q, h => by
    cases b with
    | false => obtain ⟨k, x, y, h1, h2, rfl⟩ := h; exact ⟨_, True, ⟨k, x, y, h1, h2, rfl⟩, rfl, by simp⟩
    | true => obtain ⟨x, y, h1, h2, rfl⟩ := h; exact ⟨_, True, ⟨x, y, h1, h2, rfl⟩, rfl, by simp⟩
  | (_ :: _), Q, h => by
    cases b with
    | false => obtain ⟨k, x, y, Q', h1, h2, h3, rfl⟩ := h; exact ⟨_, Q', ⟨k, x, y, h1, h2, rfl⟩, h3, Iff.rfl⟩
    | true => obtain ⟨x, y, Q', h1, h2, h3, rfl⟩ := h; exact ⟨_, Q', ⟨x, y, h1, h2, rfl⟩, h3, Iff.rfl⟩
theorem part1 {T : TypeId} {dd : TypeDesc} {cs : List Value} {o : Nat} {v : Value} {w : World} (hu : P.underlying T = some dd) (hd : flatD dd = true) (hv : nth cs o = some v) : (part T cs.toArray o).run P w = .ok v w := by
  rw [nth_eq] at hv
  simp only [part, Sem.run_bind, run_isAgg hu, hd, Result.andThen_ok, Bool.not_true, Bool.false_eq_true, if_false, List.getElem?_toArray, hv, Sem.run_pure]
theorem run_eqFields {xs ys : List Value} {w : World} : ∀ {fs : List Field} {pl : List (Nat × Bool)} {Q : Prop}, Al2 (FE P) fs pl → EqIs xs ys pl Q → ∃ r : Bool, (Op.eqFields 9999 xs.toArray ys.toArray fs).run P w = .ok r w ∧ (r = true ↔ Q)
  | [], [], Q, _, h => ⟨true, rfl, by rw [show Q = True from h]; simp⟩
  | f :: fs, (o, b) :: pl, Q, ha, h => by
    obtain ⟨⟨hn, ho, hu⟩, ha⟩ := ha
    obtain ⟨Q1, Q2, h1, h2, hiff⟩ := eqIs_go h
    obtain ⟨r2, hr2, hi2⟩ := run_eqFields (w := w) ha h2
    have hne : f.name ≠ "_" := by simpa using hn
    simp only at ho
    have key : ∃ r1 : Bool, ∃ u v, (part f.type xs.toArray f.offset).run P w = .ok u w ∧ (part f.type ys.toArray f.offset).run P w = .ok v w ∧ (Op.equalIn 9999 f.type u v).run P w = .ok r1 w ∧ (r1 = true ↔ Q1) := by
      cases b with
      | false =>
        obtain ⟨k, x, y, g1, g2, rfl⟩ := h1
        obtain ⟨k', hu⟩ := hu
        exact ⟨_, _, _, part1 hu rfl (by rw [ho]; exact g1), part1 hu rfl (by rw [ho]; exact g2), run_equalIn_int w 9998 _ _ _ _ _ hu, by simp⟩
      | true =>
        obtain ⟨x, y, g1, g2, rfl⟩ := h1
        exact ⟨_, _, _, part1 hu rfl (by rw [ho]; exact g1), part1 hu rfl (by rw [ho]; exact g2), run_equalIn_bool' w 9998 _ _ _ hu, by simp⟩
    obtain ⟨r1, u, v, k1, k2, k3, k4⟩ := key
    refine ⟨r1 && r2, ?_, by rw [hiff, ← k4, ← hi2]; simp⟩
    rw [Op.eqFields, if_pos hne]
    simp only [Sem.run_bind, k1, k2, k3, Result.andThen_ok]
    cases r1 <;> simp [hr2]
  | [], _ :: _, _, ha, _ => False.elim ha
  | _ :: _, [], _, ha, _ => False.elim ha
variable {o : Oper} {L : List (Nat × Value)} {w : World} {x y : Operand} {t t' : TypeId}
theorem run_equalSt {xs ys : List Value} {pl : List (Nat × Bool)} {Q : Prop} [Decidable Q] (hT : StEq P t pl) (he : EqIs xs ys pl Q) : (Op.equalIn 10000 t (.agg xs.toArray) (.agg ys.toArray)).run P w = .ok (decide Q) w := by
  obtain ⟨fs, hu, ha, hs, _⟩ := hT
  have hfs : P.fieldsOf t = fs.toArray := by simp [Program.fieldsOf, hu]
  obtain ⟨r, hr, hi⟩ := run_eqFields (w := w) ha he
  rw [run_equalIn_struct w 9999 t _ _ (by rw [hfs]; exact hu) hs, hfs]
  have : r = decide Q := by
    by_cases h : Q
    · rw [decide_eq_true h]; exact hi.2 h
    · rw [decide_eq_false h]
      cases r with
      | false => rfl
      | true => exact absurd (hi.1 rfl) h
  rw [← this]
  exact hr
theorem run_eqSt {xs ys : List Value} {pl : List (Nat × Bool)} {Q : Prop} [Decidable Q] (hop : o.op = .binOp .eql t x y t') (hx : oev L x = some (.agg xs.toArray)) (hy : oev L y = some (.agg ys.toArray)) (hT : StEq P t pl) (he : EqIs xs ys pl Q) : Run P o L w (.bool (decide Q)) w := by
  intro n c' he'
  have hg := run_eqGuard_agg (P := P) w .eql t x y xs.toArray ys.toArray hT.choose_spec.2.2.2
  unfold execOp
  simp only [hop, he'.eval hx, he'.eval hy, hg, Sem.run_bind, Sem.run_pure, Result.andThen_ok, run_eql_struct, run_equalSt hT he]
end
end Go.Proofs.Ythppkofceancjaa
namespace Go.Proofs.Ythppkofceancjaa
open Go.ChangeShapes Go.WideShapes Go.ChangeAt Go.RowKit
theorem nth_bv (xs : List Bool) (e : Nat) (h : e < xs.length) : nth (xs.map Value.bool) e = some (.bool (ga xs e)) := by
  rw [nth_eq, List.getElem?_map, ga_get? h]; rfl
def wr (x : Int) : Int := IntKind.i64.wrap x
section
variable {P : Program} {o : Oper} {L : List (Nat × Value)} {w : World} {x y : Operand} {t t' E : TypeId} {a b : Int}
theorem run_addW (ho : o.op = .binOp .add t x y t') (hx : oev L x = some (.int .i64 a)) (hy : oev L y = some (.int .i64 b)) : Run P o L w (.int .i64 (wr (a + b))) w :=
  run_bin ho hx hy fun w => by simp [binOp, Op.intArith, wr]
theorem run_subW (ho : o.op = .binOp .sub t x y t') (hx : oev L x = some (.int .i64 a)) (hy : oev L y = some (.int .i64 b)) : Run P o L w (.int .i64 (wr (a - b))) w :=
  run_bin ho hx hy fun w => by simp [binOp, Op.intArith, wr]
end
end Go.Proofs.Ythppkofceancjaa
