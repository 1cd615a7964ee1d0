/- Words for memory: what a slice reads as, and what keeps it so. Nothing of one program stands here. -/
import Derived.Test.YtlbpgnimpcflaaaRows
import Derived.WalkKit
import Derived.ProofKit
import Derived.OpenShut
import Derived.Outline
import Derived.BigQuiet
import Derived.Deep.QuietTactic
import Derived.Deep.Draws
import Derived.IntWalk
import Derived.Lib.Hide
import Derived.SizedLaws
import Derived.Maps.AppendAt
import Derived.Deep.AppendLies
import Derived.Deep.DeepCutAuto
import Derived.Deep.CutBlock
namespace Go.Proofs.Ytlbpgnimpcflaaa
open Go.ChangeShapes Go.WideShapes Go.ChangeAt Go.RowKit

theorem ret_int {k : IntKind} {a b : Int} (h : a = b) : Ending.returned (.int k a) = .returned (.int k b) := by rw [h]
theorem ret_bool {a b : Bool} (h : a = b) : Ending.returned (.bool a) = .returned (.bool b) := by rw [h]

/-! ### The world's old blocks -/

/-- All that was there is as it was. -/
def Kp (w w' : World) : Prop := Below w.heap.size w w'
theorem Kp.refl (w : World) : Kp w w := Below.refl _ _
theorem Kp.trans {a b c : World} (h : Kp a b) (k : Kp b c) : Kp a c := Below.trans h (Below.mono k (Below.size h))
theorem Kp.size {a b : World} (h : Kp a b) : a.heap.size ≤ b.heap.size := Below.size h
theorem Kp.below {a b : World} (h : Kp a b) : Below a.heap.size a b := h
theorem below_drewN {B : Nat} {a w : World} (h : Below B a w) (n : Nat) : Below B a (w.drewN n) := h.trans ⟨rfl, rfl, rfl, Nat.le_refl _, fun _ _ => rfl⟩
theorem Kp.drewN {a w : World} (h : Kp a w) (n : Nat) : Kp a (w.drewN n) := below_drewN h n
theorem Kp.drew {a w : World} (h : Kp a w) : Kp a w.drew := Below.drew h
theorem Kp.alloc {a w : World} (h : Kp a w) (o : Obj) : Kp a (w.alloc o) := Below.alloc h (Below.size h) o
theorem Kp.setCell {a w : World} (h : Kp a w) {p : Addr} (hp : a.heap.size ≤ p.block) (u : Value) : Kp a (w.setCell p u) := Below.setCell h hp u
theorem Kp.grown {a w w' : World} {row : Option Nat} (h : Kp a w) (hg : w.grownBy w' row) (hr : ∀ k, row = some k → a.heap.size ≤ k) : Kp a w' := Below.grown h hg (Below.size h) hr

/-! ### A slice that reads as cells -/

/-- The slice at A of n elements (k cells, u8 bytes each) holds the cells xs, below block B. -/
def Sl (w : World) (B k u8 : Nat) (A : Option Addr) (n : Nat) (xs : List Value) : Prop :=
  xs.length = n * k ∧ n * u8 ≤ 140737488355328 ∧ (0 < n → ∃ b off, A = some ⟨b, off, none⟩ ∧ b < B ∧ ∀ j u, xs[j]? = some u → w.cell? ⟨b, off + j, none⟩ = some u)

section
variable {w w' : World} {B B' k u8 n : Nat} {A : Option Addr} {xs : List Value}

theorem Sl.len (h : Sl w B k u8 A n xs) : xs.length = n * k := h.1
theorem Sl.room (h : Sl w B k u8 A n xs) : n * u8 ≤ 140737488355328 := h.2.1
theorem Sl.nil_ : Sl w B k u8 A 0 [] := ⟨by simp, by simp, fun h => absurd h (by omega)⟩
theorem Sl.at_ (h : Sl w B k u8 A n xs) (hn : 0 < n) : ∃ b off, A = some ⟨b, off, none⟩ ∧ b < B ∧ ∀ j u, xs[j]? = some u → w.cell? ⟨b, off + j, none⟩ = some u := h.2.2 hn
theorem Sl.keep (h : Sl w B k u8 A n xs) (hk : ∀ p : Addr, p.block < B → w'.cell? p = w.cell? p) : Sl w' B k u8 A n xs :=
  ⟨h.1, h.2.1, fun hn => by
    obtain ⟨b, off, e, hb, hc⟩ := h.2.2 hn
    exact ⟨b, off, e, hb, fun j u hu => (hk _ hb).trans (hc j u hu)⟩⟩
theorem Sl.mono (h : Sl w B k u8 A n xs) (hB : B ≤ B') : Sl w B' k u8 A n xs :=
  ⟨h.1, h.2.1, fun hn => by
    obtain ⟨b, off, e, hb, hc⟩ := h.2.2 hn
    exact ⟨b, off, e, by omega, hc⟩⟩
theorem Sl.below (h : Sl w B k u8 A n xs) (hb : Below B w w') : Sl w' B k u8 A n xs := h.keep fun _ hp => hb.cell hp
theorem Sl.of_own {base : Nat} {e : TypeId} {c : Nat} (h : w.ownsRow base e k (.slice A n c) n xs) (hr : n * u8 ≤ 140737488355328) : Sl w w.heap.size k u8 A n xs := by
  refine ⟨h.1, hr, fun hn => ?_⟩
  rcases h.2 with ⟨_, h0⟩ | ⟨g, cap, cur, hv, _, hh, _⟩
  · omega
  · injection hv with hA
    subst hA
    have hlt := (h.lt g rfl).2
    refine ⟨g, 0, rfl, hlt, fun j u hu => ?_⟩
    have := h.cells (g := g) rfl j u hu
    rwa [Addr.add_lit] at this
end

/-! ### []int -/

def gi (xs : List Int) (i : Nat) : Int := xs.getD i 0
theorem gi_eq {xs : List Int} {i : Nat} (h : i < xs.length) : gi xs i = xs[i] := by simp [gi, h]
theorem gi_get? {xs : List Int} {i : Nat} (h : i < xs.length) : xs[i]? = some (gi xs i) := by simp [gi, h]
def iv (x : Int) : Value := .int .i64 x
def IntsA (w : World) (B : Nat) (A : Option Addr) (xs : List Int) : Prop := Sl w B 1 8 A xs.length (xs.map iv)
/-- v, below block B, reads as the list xs. -/
def Ints (w : World) (B : Nat) (v : Value) (xs : List Int) : Prop := ∃ A c, v = .slice A xs.length c ∧ xs.length ≤ c ∧ IntsA w B A xs

section
variable {w w' : World} {B B' : Nat} {A : Option Addr} {v : Value} {xs : List Int}
theorem IntsA.mono (h : IntsA w B A xs) (hB : B ≤ B') : IntsA w B' A xs := Sl.mono h hB
theorem IntsA.below (h : IntsA w B A xs) (hb : Below B w w') : IntsA w' B A xs := Sl.below h hb
theorem IntsA.room (h : IntsA w B A xs) : xs.length * 8 ≤ 140737488355328 := h.2.1
theorem IntsA.at_ (h : IntsA w B A xs) {i : Nat} (hi : i < xs.length) : ∃ b off, A = some ⟨b, off, none⟩ ∧ b < B ∧ w.cell? ⟨b, off + i, none⟩ = some (.int .i64 (gi xs i)) := by
  obtain ⟨b, off, e, hb, hc⟩ := Sl.at_ h (by omega)
  exact ⟨b, off, e, hb, hc i _ (by rw [List.getElem?_map, gi_get? hi]; rfl)⟩
theorem IntsA.all (h : IntsA w B A xs) (h0 : 0 < xs.length) : ∃ b off, A = some ⟨b, off, none⟩ ∧ b < B ∧ ∀ i, i < xs.length → w.cell? ⟨b, off + i, none⟩ = some (.int .i64 (gi xs i)) := by
  obtain ⟨b, off, e, hb, hc⟩ := Sl.at_ h h0
  exact ⟨b, off, e, hb, fun i hi => hc i _ (by rw [List.getElem?_map, gi_get? hi]; rfl)⟩
theorem IntsA.nil_ : IntsA w B A [] := Sl.nil_
theorem Ints.mono (h : Ints w B v xs) (hB : B ≤ B') : Ints w B' v xs := by
  obtain ⟨A, c, e, hc, h⟩ := h
  exact ⟨A, c, e, hc, h.mono hB⟩
theorem Ints.below (h : Ints w B v xs) (hb : Below B w w') : Ints w' B v xs := by
  obtain ⟨A, c, e, hc, h⟩ := h
  exact ⟨A, c, e, hc, h.below hb⟩
theorem Ints.of_own {base : Nat} {e : TypeId} (h : w.ownsRow base e 1 v xs.length (xs.map iv)) (hr : xs.length * 8 ≤ 140737488355328) : Ints w w.heap.size v xs := by
  have h' := h
  rcases h.2 with ⟨rfl, h0⟩ | ⟨g, cap, cur, rfl, _, _, hle, _⟩
  · refine ⟨none, 0, by rw [h0], by omega, ?_⟩
    unfold IntsA
    rw [h0]
    obtain rfl : xs = [] := List.eq_nil_of_length_eq_zero h0
    exact Sl.nil_
  · exact ⟨_, cap, rfl, hle, Sl.of_own h' hr⟩
end

section
variable {H : Type} {enc : TypeId × Value → H} {P : Program} {w : World}
/-- An argument of type []int. -/
theorem open_Ints {t e : TypeId} {v : Value} {d : DataW H} {p : List MemPlace} (ht : P.underlying t = some (.slice e)) (he : P.underlying e = some (.int .i64)) (hc : P.cellsOf e = 1) (hby : P.bytesOf e = 8)
    {b0 : Nat} (hv : Value.okWide P w .any b0 t v) (h : DataW.Trod enc P w 0 (fun _ => true) true t v d p) (hlt : ∀ x ∈ p, x.block < w.heap.size)
    {ts : List TypeId} {ds : List (DataW H)} (hsz : (DataW.weightsEach P ts ds).all (· ≤ reachBytes) = true) {j : Nat} (hj : ts[j]? = some t) (hd : ds[j]? = some d) :
    ∃ xs : List Int, Ints w w.heap.size v xs ∧ ∀ x ∈ xs, (Lit.int .i64 x).wf = true := by
  obtain ⟨a0, len, cap, rfl⟩ := okWide_slice ht hv
  obtain ⟨fuel, hf⟩ := h
  rcases open_ints ht he hc hf with ⟨hcs, hx⟩ | ⟨a, len', cap', zs, hcs, _, hl, hm, hz, hx, hcell, hwz⟩
  · simp [Value.cells] at hcs
    obtain ⟨rfl, rfl, rfl⟩ := hcs
    exact ⟨[], ⟨none, 0, rfl, Nat.le_refl _, IntsA.nil_⟩, by simp⟩
  · simp [Value.cells] at hcs
    obtain ⟨rfl, rfl, rfl⟩ := hcs
    simp only [Prod.mk.injEq] at hx
    obtain ⟨rfl, rfl⟩ := hx
    simp only [if_true] at hz
    have hs := sized_slice hsz hj hd ht
    rw [hby] at hs
    simp only [lits, List.length_map, List.length_take, List.length_drop, reachBytes] at hs
    have hlen : (zs.take len).length = len := by rw [List.length_take]; omega
    refine ⟨zs.take len, ⟨some a, cap, by rw [hlen], by omega, ?_⟩, fun x hx => hwz x (List.mem_of_mem_take hx)⟩
    refine ⟨by simp, by rw [hlen]; omega, fun h0 => ?_⟩
    rw [hlen] at h0
    obtain ⟨b, off, spot⟩ := a
    have hspot : spot = none := by simpa [Addr.add] using World.cell?_spot (hcell 0 (by omega))
    subst hspot
    refine ⟨b, off, rfl, hlt (.cell b off) (MemPlace.mem_row.2 ⟨0, by omega, by simp⟩), fun i u hu => ?_⟩
    rw [List.getElem?_map] at hu
    by_cases hi : i < len
    · rw [List.getElem?_take_of_lt hi, List.getElem?_eq_getElem (by omega : i < zs.length)] at hu
      have := hcell i (by omega)
      rw [Addr.add_lit] at this
      rw [this]
      rw [← hu]
      simp [iv, List.getD, List.getElem?_eq_getElem (by omega : i < zs.length)]
    · rw [List.getElem?_eq_none (by rw [hlen]; omega)] at hu
      cases hu
end

/-! ### Slices of the call's own: append -/

/-- T is a slice type whose elements E have k cells, u8 bytes and the zero z. -/
def SlT (P : Program) (T E : TypeId) (k u8 : Nat) (z : Value) : Prop :=
  P.underlying T = some (.slice E) ∧ (P.info? E).map (fun i => (i.zero, i.size, i.bytes)) = some (some z, k, u8) ∧ z.cells.size = k ∧ 0 < k ∧ 0 < u8

/-- Only block row (if any), and new ones, have turned. -/
abbrev Gr (w w' : World) (row : Option Nat) : Prop := w.grownBy w' row
theorem gr_refl (w : World) (row : Option Nat) : Gr w w row := ⟨rfl, rfl, rfl, Nat.le_refl _, fun _ _ _ => rfl⟩
theorem gr_trans {a b c : World} {row : Option Nat} (h : Gr a b row) (k : Gr b c row) : Gr a c row :=
  ⟨k.os.trans h.os, k.tape.trans h.tape, k.output.trans h.output, Nat.le_trans h.size k.size, fun i hi hn => (k.block i (Nat.lt_of_lt_of_le hi h.size) hn).trans (h.block i hi hn)⟩
theorem gr_of_kp {a b : World} (h : Kp a b) (row : Option Nat) : Gr a b row := ⟨h.os, h.tape, h.output, h.size, fun i hi _ => h.block i hi⟩
theorem kp_of_gr {a b : World} (h : Gr a b none) : Kp a b := ⟨h.os, h.tape, h.output, h.size, fun i hi => h.block i hi (by simp)⟩
theorem gr_alloc (w : World) (o : Obj) (row : Option Nat) : Gr w (w.alloc o) row := gr_of_kp ((Kp.refl w).alloc o) row
theorem gr_weak {a b : World} {row : Option Nat} (h : Gr a b none) : Gr a b row := ⟨h.os, h.tape, h.output, h.size, fun i hi _ => h.block i hi (by simp)⟩

theorem own_kp {w w' : World} {base : Nat} {e : TypeId} {k n : Nat} {v : Value} {xs : List Value} (h : w.ownsRow base e k v n xs) (hk : Kp w w') : w'.ownsRow base e k v n xs :=
  h.kept (gr_of_kp hk none) (by cases hb : v.ownBlock <;> simp)
theorem own_drewN {w : World} {base : Nat} {e : TypeId} {k n : Nat} {v : Value} {xs : List Value} (h : w.ownsRow base e k v n xs) (m : Nat) : (w.drewN m).ownsRow base e k v n xs := h

theorem max_of_room {n u8 : Nat} (h0 : 0 < u8) (h : n * u8 ≤ 140737488355328) : n ≤ maxLen := by
  have : n * 1 ≤ n * u8 := Nat.mul_le_mul_left n h0
  unfold maxLen
  omega

/-- 'out = append(out, x)': x has been laid into a new block. -/
theorem wp_push {P : Program} {w : World} {ops : Array Oper} {rest : List Oper} {o : Oper} {a : Act} {Q : Exit → Act → World → Prop} {T E : TypeId} {k u8 : Nat} {z : Value} (hT : SlT P T E k u8 z)
    (hgd : o.guard = none) (s x : Operand) (ho : o.op = .call { callee := .builtin .append, args := #[s, x], argTypes := #[T, T] })
    {base : Nat} {v : Value} {n N : Nat} {xs : List Value} {cs : Array Value} (hown : w.ownsRow base E k v n xs) (hs : a.eval s = v) (hx : a.eval x = .slice (some ⟨N, 0, none⟩) 1 1) (hN : w.heap.size = N)
    (hcs : cs.size = k) (h1 : ∀ u ∈ cs.toList, u.oneCell' = true) (hr : (n + 1) * u8 ≤ 140737488355328) (hbase : base ≤ w.heap.size)
    (h : ∀ v' w', w'.ownsRow base E k v' (n + 1) (xs ++ cs.toList) → Gr w w' v.ownBlock → (v'.ownBlock = v.ownBlock ∨ v'.ownBlock = some (w.heap.size + 1)) → wpList P ops Q rest (a.put o.dst v') w') :
    wpList P ops Q (o :: rest) a (w.alloc (.cells cs E)) := by
  subst hN
  obtain ⟨ht, hinfo, hzs, hsz, h8⟩ := hT
  obtain ⟨i, hi, hz, hsize, hby⟩ := info_parts hinfo
  have hal : (w.alloc (.cells cs E)).heap.size = w.heap.size + 1 := by simp
  obtain ⟨v', w', hrun, r1, r2, _, r3⟩ := run_append_own_at (P := P) (w.alloc (.cells cs E)) base T o.type E i z k u8 ht hi hz hsize hby hzs hsz v n xs (hown.alloc _) ⟨w.heap.size, 0, none⟩ 1 1 cs.toList
    (by simp [hcs]) (fun j u hu => by
      rw [Addr.add_lit]
      simp only [World.cell?, heap_alloc_new]
      simpa using hu) h1 (max_of_room h8 hr) hr (by rw [hal]; omega)
  refine wpList_plain hgd fun _ hK => ?_
  unfold Oper.wp execOp
  simp only [ho, resolve, invoke, builtin, Sem.run_bind, Sem.run_pure, Result.andThen_ok, List.map_toArray, List.map_cons, List.map_nil, hs, hx, hrun]
  exact hK _ _ (h v' w' r1 (gr_trans (gr_alloc _ _ _) r2) (by rw [hal] at r3; exact r3))

/-- append onto nil or what is the call's own: of a slice that reads as cells. -/
theorem wp_appendSl {P : Program} {w : World} {ops : Array Oper} {rest : List Oper} {o : Oper} {a : Act} {Q : Exit → Act → World → Prop} {T E : TypeId} {k u8 : Nat} {z : Value} (hT : SlT P T E k u8 z)
    (hgd : o.guard = none) (s x : Operand) (ho : o.op = .call { callee := .builtin .append, args := #[s, x], argTypes := #[T, T] })
    {base : Nat} {v : Value} {n : Nat} {xs : List Value} (hown : w.ownsRow base E k v n xs) (hs : a.eval s = v) {B : Nat} {A : Option Addr} {m c : Nat} {news : List Value} (hx : a.eval x = .slice A m c)
    (hsl : Sl w B k u8 A m news) (h1 : ∀ u ∈ news, u.oneCell' = true) (hr : (n + m) * u8 ≤ 140737488355328) (hbase : base ≤ w.heap.size)
    (h : ∀ v' w', w'.ownsRow base E k v' (n + m) (xs ++ news) → Gr w w' v.ownBlock → (v'.ownBlock = v.ownBlock ∨ v'.ownBlock = some w.heap.size) → wpList P ops Q rest (a.put o.dst v') w') :
    wpList P ops Q (o :: rest) a w := by
  obtain ⟨ht, hinfo, hzs, hsz, h8⟩ := hT
  obtain ⟨i, hi, hz, hsize, hby⟩ := info_parts hinfo
  have key : ∃ v' w', (Builtin.append_ #[T, T] o.type #[v, .slice A m c]).run P w = .ok v' w' ∧ w'.ownsRow base E k v' (n + m) (xs ++ news) ∧ Gr w w' v.ownBlock ∧ (v'.ownBlock = v.ownBlock ∨ v'.ownBlock = some w.heap.size) := by
    rcases A with _ | ad
    · have hm : m = 0 := by
        rcases Nat.eq_zero_or_pos m with h0 | h0
        · exact h0
        · obtain ⟨b, off, h, _⟩ := hsl.at_ h0
          cases h
      subst hm
      have hn : news = [] := List.eq_nil_of_length_eq_zero (by simpa using hsl.len)
      subst hn
      refine ⟨v, w, ?_, by simpa using hown, gr_refl _ _, .inl rfl⟩
      rcases hown.2 with ⟨rfl, rfl⟩ | ⟨g, cap, cur, rfl, _, _, hnc, _⟩
      · simp [Builtin.append_, run_underlying ht, sizeOf, typeInfo, hi, Builtin.lenOf, Builtin.firstCells]
      · simp [Builtin.append_, run_underlying ht, sizeOf, typeInfo, hi, Builtin.lenOf, Builtin.firstCells, hnc, storeCells]
    · have hcells : ∀ j u, news[j]? = some u → w.cell? (ad.add j) = some u := by
        intro j u hu
        rcases Nat.eq_zero_or_pos m with h0 | h0
        · subst h0
          have hn : news = [] := List.eq_nil_of_length_eq_zero (by simpa using hsl.len)
          subst hn
          simp at hu
        · obtain ⟨b, off, h, _, hc⟩ := hsl.at_ h0
          injection h with h
          subst h
          rw [Addr.add_lit]
          exact hc j u hu
      obtain ⟨v', w', hrun, r1, r2, _, r3⟩ := run_append_own_at (P := P) w base T o.type E i z k u8 ht hi hz hsize hby hzs hsz v n xs hown ad m c news hsl.len hcells h1 (max_of_room h8 hr) hr hbase
      exact ⟨v', w', hrun, r1, r2, r3⟩
  obtain ⟨v', w', hrun, r1, r2, r3⟩ := key
  refine wpList_plain hgd fun _ hK => ?_
  unfold Oper.wp execOp
  simp only [ho, resolve, invoke, builtin, Sem.run_bind, Sem.run_pure, Result.andThen_ok, List.map_toArray, List.map_cons, List.map_nil, hs, hx, hrun]
  exact hK _ _ (h v' w' r1 r2 r3)

theorem own_nil (w : World) (base : Nat) (e : TypeId) (k : Nat) : w.ownsRow base e k (.slice none 0 0) 0 [] := World.ownsRow_nil w base e k
theorem iv_one (xs : List Int) : ∀ u ∈ xs.map iv, u.oneCell' = true := by
  intro u hu
  obtain ⟨x, _, rfl⟩ := List.mem_map.1 hu
  rfl

/-! ### A []int of the call's own -/

def OwnI (w : World) (base : Nat) (v : Value) (xs : List Int) : Prop := w.ownsRow base 3 1 v xs.length (xs.map iv)
section
variable {w w' : World} {base : Nat} {v : Value} {xs : List Int} {g cap : Nat}
theorem OwnI.nil_ : OwnI w base (.slice none 0 0) [] := own_nil w base _ 1
theorem OwnI.form (h : OwnI w base v xs) (h0 : 0 < xs.length) : ∃ g cap, v = .slice (some ⟨g, 0, none⟩) xs.length cap ∧ base ≤ g ∧ g < w.heap.size ∧ xs.length ≤ cap := by
  have h' := h
  rcases h.2 with ⟨_, h1⟩ | ⟨g, cap, cur, rfl, hg, _, hle, _⟩
  · omega
  · exact ⟨g, cap, rfl, hg, (h'.lt g rfl).2, hle⟩
theorem OwnI.sl (h : OwnI w base v xs) : ∃ A c, v = .slice A xs.length c ∧ xs.length ≤ c := by
  rcases h.2 with ⟨rfl, h1⟩ | ⟨g, cap, cur, rfl, hg, _, hle, _⟩
  · exact ⟨none, 0, by rw [h1], by omega⟩
  · exact ⟨_, cap, rfl, hle⟩
theorem OwnI.n_eq {A : Option Addr} {n : Nat} (h : OwnI w base (.slice A n cap) xs) : n = xs.length := by
  rcases h.2 with ⟨h1, h2⟩ | ⟨g, c, cur, h1, _⟩
  · injection h1 with _ h3; omega
  · injection h1
theorem OwnI.cell {n : Nat} (h : OwnI w base (.slice (some ⟨g, 0, none⟩) n cap) xs) {i : Nat} (hi : i < xs.length) : w.cell? ⟨g, i, none⟩ = some (.int .i64 (gi xs i)) := by
  obtain rfl := h.n_eq
  rw [World.ownsRow.cellAt h i (by omega), List.getElem?_map, gi_get? hi]; rfl
theorem OwnI.free {n : Nat} (h : OwnI w base (.slice (some ⟨g, 0, none⟩) n cap) xs) (i : Nat) : w.frozen? ⟨g, i, none⟩ = false := by
  obtain rfl := h.n_eq
  exact World.ownsRow.frozenAt h i
theorem OwnI.set_ {n : Nat} (h : OwnI w base (.slice (some ⟨g, 0, none⟩) n cap) xs) (i : Nat) (y : Int) :
    OwnI (w.setCell ⟨g, i, none⟩ (.int .i64 y)) base (.slice (some ⟨g, 0, none⟩) n cap) (xs.set i y) := by
  obtain rfl := h.n_eq
  unfold OwnI
  rw [List.length_set, List.map_set]
  exact (World.ownsRow.stored h i (iv y)).1
theorem OwnI.kp (h : OwnI w base v xs) (hk : Kp w w') : OwnI w' base v xs := own_kp h hk
theorem OwnI.drewN (h : OwnI w base v xs) (n : Nat) : OwnI (w.drewN n) base v xs := h
theorem OwnI.ints (h : OwnI w base v xs) (hr : xs.length * 8 ≤ 140737488355328) : Ints w w.heap.size v xs := Ints.of_own h hr
theorem OwnI.lt (h : OwnI w base v xs) : ∀ k, v.ownBlock = some k → base ≤ k ∧ k < w.heap.size := World.ownsRow.lt h
end

theorem slInt : SlT Try.prog 44 3 1 8 (.int .i64 0) := ⟨Try.underlying44, by kernel_rfl, rfl, by omega, by omega⟩

/-- 'out = append(out, x)', x an int. -/
theorem push_int {w : World} {ops : Array Oper} {rest : List Oper} {o : Oper} {a : Act} {Q : Exit → Act → World → Prop}
    (hgd : o.guard = none) (s x : Operand) (ho : o.op = .call { callee := .builtin .append, args := #[s, x], argTypes := #[44, 44] })
    {base N : Nat} {v : Value} {xs : List Int} {y : Int} (hown : OwnI w base v xs) (hs : a.eval s = v) (hx : a.eval x = .slice (some ⟨N, 0, none⟩) 1 1) (hN : w.heap.size = N)
    (hr : xs.length * 8 + 8 ≤ 140737488355328) (hbase : base ≤ w.heap.size)
    (h : ∀ v' w', OwnI w' base v' (xs ++ [y]) → Gr w w' v.ownBlock → (v'.ownBlock = v.ownBlock ∨ v'.ownBlock = some (w.heap.size + 1)) → wpList Try.prog ops Q rest (a.put o.dst v') w') :
    wpList Try.prog ops Q (o :: rest) a (w.alloc (.cells #[.int .i64 y] 3)) := by
  refine wp_push slInt hgd s x ho hown hs hx hN rfl (by intro u hu; simp at hu; subst hu; rfl) (by omega) hbase fun v' w' h1 h2 h3 => h v' w' ?_ h2 h3
  unfold OwnI
  rw [List.length_append, List.map_append]
  exact h1

theorem gi_set (xs : List Int) (i j : Nat) (y : Int) (h : i < xs.length) : gi (xs.set i y) j = if i = j then y else gi xs j := by
  unfold gi
  rw [List.getD_eq_getElem?_getD, List.getD_eq_getElem?_getD, List.getElem?_set]
  by_cases hij : i = j
  · subst hij; simp [h]
  · simp [hij]
theorem gi_rev (xs : List Int) (j : Nat) (h : j < xs.length) : gi xs.reverse j = gi xs (xs.length - 1 - j) := by
  unfold gi
  rw [List.getD_eq_getElem?_getD, List.getD_eq_getElem?_getD, List.getElem?_reverse h]
theorem gi_ext {xs ys : List Int} (hl : xs.length = ys.length) (h : ∀ i, i < xs.length → gi xs i = gi ys i) : xs = ys := by
  apply List.ext_getElem hl
  intro i h1 h2
  have := h i h1
  rwa [gi_eq h1, gi_eq h2] at this
theorem gi_append_left (xs ys : List Int) (i : Nat) (h : i < xs.length) : gi (xs ++ ys) i = gi xs i := by
  unfold gi; simp [List.getElem?_append_left h]
theorem gi_append_right (xs ys : List Int) (i : Nat) (h : xs.length ≤ i) : gi (xs ++ ys) i = gi ys (i - xs.length) := by
  unfold gi; simp [List.getElem?_append_right h]
theorem gi_take (xs : List Int) (k i : Nat) (h : i < k) : gi (xs.take k) i = gi xs i := by
  unfold gi; simp [List.getElem?_take_of_lt h]
theorem take_gi (xs : List Int) (k : Nat) (h : k < xs.length) : xs.take (k + 1) = xs.take k ++ [gi xs k] := by
  rw [List.take_succ_eq_append_getElem h, gi_eq h]

theorem gr_drewN {a b : World} {row : Option Nat} (h : Gr a b row) (n : Nat) : Gr a (b.drewN n) row := ⟨h.os, h.tape, h.output, h.size, h.block⟩
theorem gr_drew {a b : World} {row : Option Nat} (h : Gr a b row) : Gr a b.drew row := ⟨h.os, h.tape, h.output, h.size, h.block⟩
theorem gr_setCell {a b : World} {g : Nat} (h : Gr a b (some g)) (i : Nat) (u : Value) : Gr a (b.setCell ⟨g, i, none⟩ u) (some g) :=
  ⟨h.os, h.tape, h.output, by simpa [World.setCell] using h.size, fun k hk hn => (Below.heap_setCell b ⟨g, i, none⟩ u k (fun e => hn (by rw [e]))).trans (h.block k hk hn)⟩
theorem kp_gr {a b c : World} {row : Option Nat} (h : Kp a b) (k : Gr b c row) (hr : ∀ g, row = some g → a.heap.size ≤ g) : Kp a c := h.grown k hr

theorem Kp.own {a b c : World} {base : Nat} {e : TypeId} {k n : Nat} {v : Value} {xs : List Value} (h : Kp a b) (ho : b.ownsRow base e k v n xs) (hg : Gr b c v.ownBlock) (hb : a.heap.size ≤ base) : Kp a c :=
  h.grown hg fun g hg' => Nat.le_trans hb (ho.lt g hg').1
theorem Kp.ownI {a b c : World} {base : Nat} {v : Value} {xs : List Int} (h : Kp a b) (ho : OwnI b base v xs) (hg : Gr b c v.ownBlock) (hb : a.heap.size ≤ base) : Kp a c := h.own ho hg hb

theorem ints_kp {w w' : World} {v : Value} {l : List Int} (h : Ints w w.heap.size v l) (k : Kp w w') : Ints w' w'.heap.size v l := (h.below k.below).mono k.size

theorem cell_lt {w : World} {g i : Nat} {u : Value} (h : w.cell? ⟨g, i, none⟩ = some u) : g < w.heap.size := World.block_lt_of_cell? w ⟨g, i, none⟩ h
/-- What a cell held it holds still. -/
theorem Kp.c {a b : World} (h : Kp a b) {g i : Nat} {u : Value} (hc : a.cell? ⟨g, i, none⟩ = some u) : b.cell? ⟨g, i, none⟩ = some u := (h.below.cell (p := ⟨g, i, none⟩) (cell_lt hc)).trans hc
theorem Kp.fz {a b : World} (h : Kp a b) {g i : Nat} {f : Bool} (hg : g < a.heap.size) (hc : a.frozen? ⟨g, i, none⟩ = f) : b.frozen? ⟨g, i, none⟩ = f := (h.below.frozen (p := ⟨g, i, none⟩) hg).trans hc
theorem Kp.al {a b : World} {o : Obj} (h : Kp (a.alloc o) b) : Kp a b := ((Kp.refl a).alloc o).trans h
theorem Kp.dr {a b : World} {n : Nat} (h : Kp (a.drewN n) b) : Kp a b := ((Kp.refl a).drewN n).trans h
theorem Kp.lt {a b : World} (h : Kp a b) {g : Nat} (hg : g < a.heap.size) : g < b.heap.size := Nat.lt_of_lt_of_le hg h.size

/-- Behind a call: all old cells and marks read as before (two rules for the walk). -/
theorem Kp.cf {a b : World} (h : Kp a b) {n : Nat} (hn : a.heap.size = n) : (∀ g i, g < n → b.cell? ⟨g, i, none⟩ = a.cell? ⟨g, i, none⟩) ∧ (∀ g i, g < n → b.frozen? ⟨g, i, none⟩ = a.frozen? ⟨g, i, none⟩) := by
  subst hn
  exact ⟨fun g i hg => h.below.cell (p := ⟨g, i, none⟩) hg, fun g i hg => h.below.frozen (p := ⟨g, i, none⟩) hg⟩
end Go.Proofs.Ytlbpgnimpcflaaa
