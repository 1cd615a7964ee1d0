/- Slices of structs and of slices: what they read as. Nothing of one program stands here but the numbers of types. -/
import Derived.Test.YtlbpgnimpcflaaaMem
import Derived.Test.YtlbpgnimpcflaaaL0
import Derived.Deep.RegionWith
import Derived.Deep.RegionHeld3
import Derived.WalkSpells
namespace Go.Proofs.Ytlbpgnimpcflaaa
open Go.ChangeShapes Go.WideShapes Go.ChangeAt Go.RowKit

theorem flat_set {α : Type} {f : α → List Value} {k : Nat} (hf : ∀ x, (f x).length = k) (xs : List α) (i j : Nat) (y : α) (u : Value) (hi : i < xs.length) (hy : f y = (f xs[i]).set j u) (hj : j < k) :
    (xs.flatMap f).set (i * k + j) u = (xs.set i y).flatMap f := by
  induction xs generalizing i with
  | nil => simp at hi
  | cons x xs ih =>
    cases i with
    | zero =>
      rw [Nat.zero_mul, Nat.zero_add, List.set_cons_zero, List.flatMap_cons, List.flatMap_cons, List.set_append_left _ _ (by rw [hf]; exact hj)]
      rw [hy]; rfl
    | succ i =>
      rw [List.set_cons_succ, List.flatMap_cons, List.flatMap_cons, List.set_append_right _ _ (by rw [hf, Nat.succ_mul]; omega), hf, show (i + 1) * k + j - k = i * k + j by rw [Nat.succ_mul]; omega]
      rw [ih i (by simpa using hi) (by simpa using hy)]

/-- A type of elements: its cells. -/
structure Cod (α : Type) where
  f : α → List Value
  k : Nat
  u8 : Nat
  hf : ∀ x, (f x).length = k

/-- The slice at A reads as xs, below block B. -/
def Rd {α : Type} (C : Cod α) (w : World) (B : Nat) (A : Option Addr) (xs : List α) : Prop := Sl w B C.k C.u8 A xs.length (xs.flatMap C.f)
/-- The value v reads as xs, below block B. -/
def Rv {α : Type} (C : Cod α) (w : World) (B : Nat) (v : Value) (xs : List α) : Prop := ∃ A c, v = .slice A xs.length c ∧ xs.length ≤ c ∧ Rd C w B A xs
/-- v is a row of the call's own, of elements of type E, that reads as xs. -/
def Ow {α : Type} (C : Cod α) (E : TypeId) (w : World) (base : Nat) (v : Value) (xs : List α) : Prop := w.ownsRow base E C.k v xs.length (xs.flatMap C.f)

section
variable {α : Type} {C : Cod α} {w w' : World} {B B' : Nat} {A : Option Addr} {v : Value} {xs : List α} {E : TypeId} {base : Nat}
theorem Rd.mono (h : Rd C w B A xs) (hB : B ≤ B') : Rd C w B' A xs := Sl.mono h hB
theorem Rd.below (h : Rd C w B A xs) (hb : Below B w w') : Rd C w' B A xs := Sl.below h hb
theorem Rd.kp (h : Rd C w w.heap.size A xs) (k : Kp w w') : Rd C w' w'.heap.size A xs := (h.below k.below).mono k.size
theorem Rd.room (h : Rd C w B A xs) : xs.length * C.u8 ≤ 140737488355328 := h.2.1
theorem Rd.nil_ : Rd C w B A [] := Sl.nil_
theorem Rd.at_ [Inhabited α] (h : Rd C w B A xs) {i : Nat} (hi : i < xs.length) : ∃ b off, A = some ⟨b, off, none⟩ ∧ b < B ∧ ∀ j u, j < C.k → (C.f (ga xs i))[j]? = some u → w.cell? ⟨b, off + (i * C.k + j), none⟩ = some u := by
  obtain ⟨b, off, e, hb, hc⟩ := Sl.at_ h (by omega)
  exact ⟨b, off, e, hb, fun j u hj hu => hc _ u (by rw [flat_get C.hf hi hj, ← ga_eq hi]; exact hu)⟩
theorem Rv.mono (h : Rv C w B v xs) (hB : B ≤ B') : Rv C w B' v xs := by
  obtain ⟨A, c, e, hc, h⟩ := h
  exact ⟨A, c, e, hc, h.mono hB⟩
theorem Rv.below (h : Rv C w B v xs) (hb : Below B w w') : Rv C w' B v xs := by
  obtain ⟨A, c, e, hc, h⟩ := h
  exact ⟨A, c, e, hc, h.below hb⟩
theorem Rv.kp (h : Rv C w w.heap.size v xs) (k : Kp w w') : Rv C w' w'.heap.size v xs := (h.below k.below).mono k.size
theorem Rv.drewN (h : Rv C w B v xs) (n : Nat) : Rv C (w.drewN n) B v xs := h
theorem Ow.nil_ : Ow C E w base (.slice none 0 0) [] := own_nil w base E C.k
theorem Ow.kp (h : Ow C E w base v xs) (hk : Kp w w') : Ow C E w' base v xs := own_kp h hk
theorem Ow.drewN (h : Ow C E w base v xs) (n : Nat) : Ow C E (w.drewN n) base v xs := h
theorem Ow.lt (h : Ow C E w base v xs) : ∀ k, v.ownBlock = some k → base ≤ k ∧ k < w.heap.size := World.ownsRow.lt h
theorem Ow.kept {row : Option Nat} (h : Ow C E w base v xs) (hg : Gr w w' row) (hne : v.ownBlock = none ∨ v.ownBlock ≠ row) : Ow C E w' base v xs := World.ownsRow.kept h hg hne
theorem Ow.sl (h : Ow C E w base v xs) : ∃ A c, v = .slice A xs.length c ∧ xs.length ≤ c := by
  rcases h.2 with ⟨rfl, h1⟩ | ⟨g, cap, cur, rfl, hg, _, hle, _⟩
  · exact ⟨none, 0, by rw [h1], by omega⟩
  · exact ⟨_, cap, rfl, hle⟩
theorem Ow.form (h : Ow C E w base v xs) (h0 : 0 < xs.length) : ∃ g cap, v = .slice (some ⟨g, 0, none⟩) xs.length cap ∧ base ≤ g ∧ g < w.heap.size ∧ xs.length ≤ cap := by
  have h' := h
  rcases h.2 with ⟨_, h1⟩ | ⟨g, cap, cur, rfl, hg, _, hle, _⟩
  · omega
  · exact ⟨g, cap, rfl, hg, (h'.lt g rfl).2, hle⟩
theorem Ow.n_eq {n c : Nat} (h : Ow C E w base (.slice A n c) xs) : n = xs.length := by
  rcases h.2 with ⟨h1, h2⟩ | ⟨g, c, cur, h1, _⟩
  · injection h1 with _ h3; omega
  · injection h1
theorem Ow.cell [Inhabited α] {g n c : Nat} (h : Ow C E w base (.slice (some ⟨g, 0, none⟩) n c) xs) {i : Nat} (hi : i < xs.length) {j : Nat} {u : Value} (hj : j < C.k) (hu : (C.f (ga xs i))[j]? = some u) : w.cell? ⟨g, i * C.k + j, none⟩ = some u := by
  obtain rfl := h.n_eq
  have hlt : i * C.k + j < xs.length * C.k := by
    have := Nat.mul_le_mul_right C.k (show i + 1 ≤ xs.length by omega)
    rw [Nat.succ_mul] at this
    omega
  rw [World.ownsRow.cellAt h _ hlt, flat_get C.hf hi hj, ← ga_eq hi, hu]
theorem Ow.free {g n c : Nat} (h : Ow C E w base (.slice (some ⟨g, 0, none⟩) n c) xs) (i : Nat) : w.frozen? ⟨g, i, none⟩ = false := by
  obtain rfl := h.n_eq
  exact World.ownsRow.frozenAt h i
theorem Ow.set_ [Inhabited α] {g n c : Nat} (h : Ow C E w base (.slice (some ⟨g, 0, none⟩) n c) xs) {i : Nat} (hi : i < xs.length) {j : Nat} (hj : j < C.k) (u : Value) (y : α) (hy : C.f y = (C.f (ga xs i)).set j u) :
    Ow C E (w.setCell ⟨g, i * C.k + j, none⟩ u) base (.slice (some ⟨g, 0, none⟩) n c) (xs.set i y) := by
  obtain rfl := h.n_eq
  unfold Ow
  rw [List.length_set, ← flat_set C.hf xs i j y u hi (by rw [hy, ga_eq hi]) hj]
  exact (World.ownsRow.stored h _ u).1
theorem Ow.rv (h : Ow C E w base v xs) (hr : xs.length * C.u8 ≤ 140737488355328) : Rv C w w.heap.size v xs := by
  obtain ⟨A, c, rfl, hc⟩ := h.sl
  exact ⟨A, c, rfl, hc, Sl.of_own h hr⟩
theorem Kp.ow {a b c : World} (h : Kp a b) (ho : Ow C E b base v xs) (hg : Gr b c v.ownBlock) (hb : a.heap.size ≤ base) : Kp a c := h.own ho hg hb
end

/-- 'out = append(out, x)'. -/
theorem push_of {α : Type} {C : Cod α} {P : Program} {w : World} {ops : Array Oper} {rest : List Oper} {o : Oper} {a : Act} {Q : Exit → Act → World → Prop} {T E : TypeId} {z : Value} (hT : SlT P T E C.k C.u8 z)
    (hgd : o.guard = none) (s x : Operand) (ho : o.op = .call { callee := .builtin .append, args := #[s, x], argTypes := #[T, T] })
    {base : Nat} {v : Value} {N : Nat} {xs : List α} {y : α} {cs : Array Value} (hown : Ow C E w base v xs) (hs : a.eval s = v) (hx : a.eval x = .slice (some ⟨N, 0, none⟩) 1 1) (hN : w.heap.size = N)
    (hcs : cs.toList = C.f y) (h1 : ∀ u ∈ C.f y, u.oneCell' = true) (hr : (xs.length + 1) * C.u8 ≤ 140737488355328) (hbase : base ≤ w.heap.size)
    (h : ∀ v' w', Ow C E w' base v' (xs ++ [y]) → Gr w w' v.ownBlock → (v'.ownBlock = v.ownBlock ∨ v'.ownBlock = some (w.heap.size + 1)) → wpList P ops Q rest (a.put o.dst v') w') :
    wpList P ops Q (o :: rest) a (w.alloc (.cells cs E)) := by
  refine wp_push hT hgd s x ho hown hs hx hN (by rw [← C.hf y, ← hcs]; simp) (by rw [hcs]; exact h1) hr hbase fun v' w' r1 r2 r3 => h v' w' ?_ r2 r3
  unfold Ow
  rw [List.length_append, List.flatMap_append, List.flatMap_cons, List.flatMap_nil, List.append_nil, ← hcs]
  exact r1

/-! ### The types -/

structure Cr where
  a : Int
  b : Int
  c : Int
  d : Int
  plus : Bool
instance : Inhabited Cr := ⟨⟨0, 0, 0, 0, false⟩⟩
def crF (x : Cr) : List Value := [.int .i64 x.a, .int .i64 x.b, .int .i64 x.c, .int .i64 x.d, .bool x.plus]
def codCr : Cod Cr := ⟨crF, 5, 40, fun _ => rfl⟩
def crV (x : Cr) : Value := .agg #[.int .i64 x.a, .int .i64 x.b, .int .i64 x.c, .int .i64 x.d, .bool x.plus]

theorem crAt {w : World} {B : Nat} {A : Option Addr} {xs : List Cr} (h : Rd codCr w B A xs) {i : Nat} (hi : i < xs.length) : ∃ b off, A = some ⟨b, off, none⟩ ∧ b < B ∧
    w.cell? ⟨b, off + i * 5, none⟩ = some (.int .i64 (ga xs i).a) ∧ w.cell? ⟨b, off + i * 5 + 1, none⟩ = some (.int .i64 (ga xs i).b) ∧
    w.cell? ⟨b, off + i * 5 + 2, none⟩ = some (.int .i64 (ga xs i).c) ∧ w.cell? ⟨b, off + i * 5 + 3, none⟩ = some (.int .i64 (ga xs i).d) ∧
    w.cell? ⟨b, off + i * 5 + 4, none⟩ = some (.bool (ga xs i).plus) := by
  obtain ⟨b, off, e, hb, hc⟩ := h.at_ hi
  exact ⟨b, off, e, hb, hc 0 _ (by decide) rfl, hc 1 _ (by decide) rfl, hc 2 _ (by decide) rfl, hc 3 _ (by decide) rfl, hc 4 _ (by decide) rfl⟩

/-- A diagram. -/
structure Dg where
  crs : List Cr
  loops : Int
/-- v, below block B, reads as the diagram d. -/
def IsDg (w : World) (B : Nat) (v : Value) (d : Dg) : Prop := ∃ A c, v = .agg #[.slice A d.crs.length c, .int .i64 d.loops] ∧ d.crs.length ≤ c ∧ Rd codCr w B A d.crs
theorem IsDg.kp {w w' : World} {v : Value} {d : Dg} (h : IsDg w w.heap.size v d) (k : Kp w w') : IsDg w' w'.heap.size v d := by
  obtain ⟨A, c, e, hc, h⟩ := h
  exact ⟨A, c, e, hc, h.kp k⟩

/-- An old block lies below the new ones: as the walk asks it. -/
theorem lts {b n : Nat} (h : b < n) : b < n ∧ b < n + 1 ∧ b < n + 2 ∧ b < n + 3 ∧ b < n + 4 := by omega

/-! ### A block that is known whole -/

def Blk (w : World) (g : Nat) (t : TypeId) (cs : Array Value) : Prop := w.heap[g]? = some (.cells cs t (0, 0))
section
variable {w w' : World} {g : Nat} {t : TypeId} {cs : Array Value}
theorem Blk.lt (h : Blk w g t cs) : g < w.heap.size := by
  rcases Nat.lt_or_ge g w.heap.size with hlt | hge
  · exact hlt
  · unfold Blk at h; rw [Array.getElem?_eq_none hge] at h; cases h
theorem Blk.cell (h : Blk w g t cs) (i : Nat) {u : Value} (hu : cs[i]? = some u) : w.cell? ⟨g, i, none⟩ = some u := by rw [cell_of_row w g i cs t (0, 0) h, hu]
theorem Blk.free (h : Blk w g t cs) (i : Nat) : w.frozen? ⟨g, i, none⟩ = false := frozen_of_row w g i cs t h
theorem Blk.new (w : World) (t : TypeId) (cs : Array Value) : Blk (w.alloc (.cells cs t)) w.heap.size t cs := heap_alloc_new w _
theorem Blk.new' (w : World) (t : TypeId) (cs : Array Value) {n : Nat} (hn : w.heap.size = n) : Blk (w.alloc (.cells cs t)) n t cs := by subst hn; exact heap_alloc_new w _
theorem Blk.drewN (h : Blk w g t cs) (n : Nat) : Blk (w.drewN n) g t cs := h
theorem Blk.drew (h : Blk w g t cs) : Blk w.drew g t cs := h
theorem Blk.alloc (h : Blk w g t cs) (o : Obj) : Blk (w.alloc o) g t cs := (Below.heap_alloc w o g h.lt).trans h
theorem Blk.set_ (h : Blk w g t cs) (i : Nat) (u : Value) : Blk (w.setCell ⟨g, i, none⟩ u) g t (cs.setIfInBounds i u) := heap_setCell_same w g i cs t u h
theorem Blk.far (h : Blk w g t cs) {p : Addr} (hp : g ≠ p.block) (u : Value) : Blk (w.setCell p u) g t cs := (Below.heap_setCell w p u g hp).trans h
theorem Blk.kp (h : Blk w g t cs) (hk : Kp w w') : Blk w' g t cs := (hk.block g h.lt).trans h
theorem Blk.gr {row : Option Nat} (h : Blk w g t cs) (hg : Gr w w' row) (hne : some g ≠ row) : Blk w' g t cs := (hg.block g h.lt hne).trans h
end

theorem Blk.one {w : World} {g : Nat} {t : TypeId} {x : Value} (h : Blk w g t #[x]) : w.cell? ⟨g, 0, none⟩ = some x ∧ w.frozen? ⟨g, 0, none⟩ = false := ⟨h.cell 0 rfl, h.free 0⟩
theorem Blk.two {w : World} {g : Nat} {t : TypeId} {x y : Value} (h : Blk w g t #[x, y]) : w.cell? ⟨g, 0, none⟩ = some x ∧ w.cell? ⟨g, 1, none⟩ = some y ∧ w.frozen? ⟨g, 0, none⟩ = false ∧ w.frozen? ⟨g, 1, none⟩ = false :=
  ⟨h.cell 0 rfl, h.cell 1 rfl, h.free 0, h.free 1⟩

/-- 'append([]T(nil), xs...)': a copy. -/
theorem copy_of {α : Type} {C : Cod α} {P : Program} {w : World} {ops : Array Oper} {rest : List Oper} {o : Oper} {a : Act} {Q : Exit → Act → World → Prop} {T E : TypeId} {z : Value} (hT : SlT P T E C.k C.u8 z)
    (hgd : o.guard = none) (s x : Operand) (ho : o.op = .call { callee := .builtin .append, args := #[s, x], argTypes := #[T, T] })
    {B : Nat} {A : Option Addr} {c : Nat} {xs : List α} (hsl : Rd C w B A xs) (hs : a.eval s = .slice none 0 0) (hx : a.eval x = .slice A xs.length c) (h1 : ∀ u ∈ xs.flatMap C.f, u.oneCell' = true)
    (h : ∀ A' c' w', Ow C E w' w.heap.size (.slice A' xs.length c') xs → Kp w w' → wpList P ops Q rest (a.put o.dst (.slice A' xs.length c')) w') :
    wpList P ops Q (o :: rest) a w := by
  refine wp_appendSl hT hgd s x ho (own_nil w w.heap.size E C.k) hs hx hsl h1 (by rw [Nat.zero_add]; exact hsl.room) (Nat.le_refl _) fun v' w' r1 r2 _ => ?_
  have ho' : Ow C E w' w.heap.size v' xs := by
    unfold Ow
    rw [Nat.zero_add, List.nil_append] at r1
    exact r1
  obtain ⟨A', c', rfl, _⟩ := ho'.sl
  exact h A' c' w' ho' (kp_of_gr r2)

theorem Ow.setLow {α : Type} {C : Cod α} {E : TypeId} {w : World} {base : Nat} {v : Value} {xs : List α} (h : Ow C E w base v xs) {p : Addr} (hp : p.block < base) (u : Value) : Ow C E (w.setCell p u) base v xs := ownsRow_setCell_below h hp u
theorem IsDg.of_rv {w : World} {B : Nat} {v : Value} {d : Dg} (h : Rv codCr w B v d.crs) : IsDg w B (.agg #[v, .int .i64 d.loops]) d := by
  obtain ⟨A, c, rfl, hc, h⟩ := h
  exact ⟨A, c, rfl, hc, h⟩

/-! ### make -/

theorem make_of {P : Program} {T E : TypeId} {k u8 : Nat} {z : Value} (hT : SlT P T E k u8 z) (n : Nat) (x : Int) (hx : x = (n : Int)) (hb : n * u8 ≤ 140737488355328) (w : World) :
    (Instr.makeSlice T (.int .i64 x) (.int .i64 x)).run P w = .ok (.slice (some ⟨w.heap.size, 0, none⟩) n n) (w.alloc (.cells (madeCells z.cells (n * k)) E)) := by
  subst hx
  obtain ⟨ht, hinfo, hzs, hsz, h8⟩ := hT
  obtain ⟨i, hi, hz, hsize, hby⟩ := info_parts hinfo
  have h1 : n * 1 ≤ n * u8 := Nat.mul_le_mul_left n h8
  have hr := run_make (P := P) w T E i z ht hi hz .i64 .i64 (n : Int) (n : Int) (by omega) (by omega) (by
    rw [hby]
    have h : ((u8 * n : Nat) : Int) ≤ 140737488355328 := by rw [Nat.mul_comm]; omega
    rw [Int.natCast_mul] at h
    omega) (by omega)
  rw [hsize] at hr
  simpa using hr

theorem made_cells {α : Type} (C : Cod α) (y : α) (z : Value) (hz : z.cells.toList = C.f y) (n : Nat) : (madeCells z.cells (n * C.k)).toList = (List.replicate n y).flatMap C.f := by
  have hk : z.cells.size = C.k := by rw [← C.hf y, ← hz]; simp
  apply List.ext_getElem?
  intro m
  by_cases hm : m < n * C.k
  · have hk0 : 0 < C.k := by
      rcases Nat.eq_zero_or_pos C.k with h | h
      · rw [h, Nat.mul_zero] at hm; omega
      · exact h
    have hi : m / C.k < (List.replicate n y).length := by rw [List.length_replicate]; exact (Nat.div_lt_iff_lt_mul hk0).2 hm
    have hj : m % C.k < C.k := Nat.mod_lt _ hk0
    have e := flat_get C.hf hi hj
    rw [show m / C.k * C.k + m % C.k = m by rw [Nat.mul_comm]; exact Nat.div_add_mod m C.k] at e
    rw [e, List.getElem_replicate, ← hz]
    simp only [madeCells, hk, Array.toList_map, Array.toList_range, List.getElem?_map, List.getElem?_range hm, Option.map_some]
    rw [Array.getElem!_eq_getD]
    simp [hk, hj]
  · rw [List.getElem?_eq_none, List.getElem?_eq_none]
    · rw [flat_len C.hf, List.length_replicate]; omega
    · simp [madeCells]; omega

theorem Ow.of_blk {α : Type} {C : Cod α} {E : TypeId} {w : World} {g base : Nat} {cs : Array Value} {xs : List α} (h : Blk w g E cs) (hcs : cs.toList = xs.flatMap C.f) (hb : base ≤ g) (hm : xs.length ≤ maxLen) :
    Ow C E w base (.slice (some ⟨g, 0, none⟩) xs.length xs.length) xs := by
  have hl := flat_len C.hf xs
  refine ⟨hl, .inr ⟨g, xs.length, cs, rfl, hb, h, Nat.le_refl _, hm, by rw [← hl, ← hcs]; simp, ?_⟩⟩
  rw [hcs, ← hl, List.take_length]
theorem Ow.made {α : Type} {C : Cod α} {E : TypeId} {w : World} {g base n : Nat} {y : α} {z : Value} (hz : z.cells.toList = C.f y) (h : Blk w g E (madeCells z.cells (n * C.k))) (hb : base ≤ g) (hm : n ≤ maxLen) :
    Ow C E w base (.slice (some ⟨g, 0, none⟩) n n) (List.replicate n y) := by
  have := Ow.of_blk (C := C) (xs := List.replicate n y) h (made_cells C y z hz n) hb (by simpa using hm)
  simpa using this
def codI : Cod Int := ⟨fun x => [iv x], 1, 8, fun _ => rfl⟩
theorem flat_iv (xs : List Int) : xs.flatMap codI.f = xs.map iv := by
  induction xs with
  | nil => rfl
  | cons x xs ih => rw [List.flatMap_cons, ih]; rfl
theorem OwnI.of_ow {w : World} {base : Nat} {v : Value} {xs : List Int} (h : Ow codI 3 w base v xs) : OwnI w base v xs := by
  unfold OwnI
  rw [← flat_iv]
  exact h

theorem Kp.alt {w w1 : World} {o : Obj} (h : Kp (w.alloc o) w1) : w.heap.size < w1.heap.size := by
  have := h.size
  simp at this
  omega

theorem Ow.base {α : Type} {C : Cod α} {E : TypeId} {w : World} {b b' : Nat} {v : Value} {xs : List α} (h : Ow C E w b v xs) (hb : b' ≤ b) : Ow C E w b' v xs := by
  rcases h with ⟨h1, h2 | ⟨g, cap, cur, r1, r2, r3⟩⟩
  · exact ⟨h1, .inl h2⟩
  · exact ⟨h1, .inr ⟨g, cap, cur, r1, by omega, r3⟩⟩
theorem Ow.ne_ {α β : Type} {C : Cod α} {C' : Cod β} {E E' : TypeId} {w : World} {b b' : Nat} {v v' : Value} {xs : List α} {ys : List β} (h : Ow C E w b v xs) (h' : Ow C' E' w b' v' ys) (hne : E ≠ E') : v.ownBlock = none ∨ v.ownBlock ≠ v'.ownBlock := by
  rcases h.2 with ⟨rfl, _⟩ | ⟨g, cap, cur, rfl, _, hh, _⟩
  · exact .inl rfl
  · rcases h'.2 with ⟨rfl, _⟩ | ⟨g', cap', cur', rfl, _, hh', _⟩
    · exact .inr (by simp [Value.ownBlock])
    · refine .inr fun e => ?_
      simp only [Value.ownBlock, Option.some.injEq] at e
      subst e
      rw [hh] at hh'
      injection hh' with h1
      injection h1 with _ h2
      exact hne h2
theorem Ow.ne_blk {α : Type} {C : Cod α} {E t : TypeId} {w : World} {b g : Nat} {v : Value} {xs : List α} {cs : Array Value} (h : Ow C E w b v xs) (h' : Blk w g t cs) (hne : E ≠ t) : v.ownBlock = none ∨ v.ownBlock ≠ some g := by
  rcases h.2 with ⟨rfl, _⟩ | ⟨g', cap, cur, rfl, _, hh, _⟩
  · exact .inl rfl
  · refine .inr fun e => ?_
    simp only [Value.ownBlock, Option.some.injEq] at e
    subst e
    unfold Blk at h'
    rw [hh] at h'
    injection h' with h1
    injection h1 with _ h2
    exact hne h2
/-- A store of two cells. -/
theorem Ow.set2 {α : Type} [Inhabited α] {C : Cod α} {E : TypeId} {w : World} {base g n c : Nat} {xs : List α} (h : Ow C E w base (.slice (some ⟨g, 0, none⟩) n c) xs) (hk : C.k = 2) {i : Nat} (hi : i < xs.length) (u0 u1 : Value) (y : α) (hy : C.f y = [u0, u1]) :
    Ow C E ((w.setCell ⟨g, i * 2, none⟩ u0).setCell ⟨g, i * 2 + 1, none⟩ u1) base (.slice (some ⟨g, 0, none⟩) n c) (xs.set i y) := by
  obtain rfl := h.n_eq
  have hl : (C.f (ga xs i)).length = 2 := by rw [C.hf, hk]
  have e1 := (World.ownsRow.stored h (i * 2) u0).1
  have e2 := (World.ownsRow.stored e1 (i * 2 + 1) u1).1
  unfold Ow
  rw [List.length_set]
  have hx : ((xs.flatMap C.f).set (i * 2) u0).set (i * 2 + 1) u1 = (xs.set i y).flatMap C.f := by
    apply List.ext_getElem?
    intro m
    have hm2 : m = m / 2 * 2 + m % 2 := by omega
    by_cases hm : m < xs.length * 2
    · have hmi : m / 2 < xs.length := by omega
      have hmj : m % 2 < C.k := by omega
      have g1 := flat_get C.hf hmi hmj
      have g2 := flat_get (xs := xs.set i y) C.hf (i := m / 2) (j := m % 2) (by rw [List.length_set]; exact hmi) hmj
      rw [hk, ← hm2] at g1 g2
      rw [g2, List.getElem?_set, List.getElem?_set, List.length_set, flat_len C.hf, hk, g1]
      by_cases h1 : i = m / 2
      · have e : (xs.set i y)[m / 2]'(by rw [List.length_set]; exact hmi) = y := by subst h1; simp
        rw [e, hy]
        rcases (show m % 2 = 0 ∨ m % 2 = 1 by omega) with h2 | h2
        · rw [if_neg (by omega), if_pos (by omega), if_pos (by omega), h2]; rfl
        · rw [if_pos (by omega), if_pos (by omega), h2]; rfl
      · have e : (xs.set i y)[m / 2]'(by rw [List.length_set]; exact hmi) = xs[m / 2] := by rw [List.getElem_set_ne (by omega)]
        rw [e, if_neg (by omega), if_neg (by omega)]
    · rw [List.getElem?_eq_none (by rw [List.length_set, List.length_set, flat_len C.hf, hk]; omega), List.getElem?_eq_none (by rw [flat_len C.hf, List.length_set, hk]; omega)]
  rw [← hx]
  exact e2
theorem gr_set2 {w : World} {g i j : Nat} (u v : Value) : Gr w ((w.setCell ⟨g, i, none⟩ u).setCell ⟨g, j, none⟩ v) (some g) := gr_setCell (gr_setCell (gr_refl w _) i u) j v
theorem gr_set1 {w : World} {g i : Nat} (u : Value) : Gr w (w.setCell ⟨g, i, none⟩ u) (some g) := gr_setCell (gr_refl w _) i u

theorem Blk.cr {w : World} {g : Nat} {t : TypeId} {a b c d e : Value} (h : Blk w g t #[a, b, c, d, e]) : w.cell? ⟨g, 0, none⟩ = some a ∧ w.cell? ⟨g, 1, none⟩ = some b ∧ w.cell? ⟨g, 2, none⟩ = some c ∧ w.cell? ⟨g, 3, none⟩ = some d ∧ w.cell? ⟨g, 4, none⟩ = some e :=
  ⟨h.cell 0 rfl, h.cell 1 rfl, h.cell 2 rfl, h.cell 3 rfl, h.cell 4 rfl⟩
theorem Blk.four {w : World} {g : Nat} {t : TypeId} {a b c d : Value} (h : Blk w g t #[a, b, c, d]) : w.cell? ⟨g, 0, none⟩ = some a ∧ w.cell? ⟨g, 1, none⟩ = some b ∧ w.cell? ⟨g, 2, none⟩ = some c ∧ w.cell? ⟨g, 3, none⟩ = some d :=
  ⟨h.cell 0 rfl, h.cell 1 rfl, h.cell 2 rfl, h.cell 3 rfl⟩
end Go.Proofs.Ytlbpgnimpcflaaa
