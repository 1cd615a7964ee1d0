/- What an argument says of memory: slices of whatever elements. Nothing of one program stands here. -/
import Derived.Test.YtkcighnochjlgaaE11
import Derived.Test.YtkcighnochjlgaaLaw
import Derived.Lib.SmallJoins
import Derived.Deep.Slices
import Derived.Deep.Fields
import Derived.ChangeSame
namespace Go.Proofs.Ytkcighnochjlgaa
open Go.ChangeShapes Go.WideShapes Go.ChangeAt Go.RowKit Go.Joins Go.Deep

theorem weightsAll_mem {H : Type} {P : Program} {e : TypeId} {d : DataW H} {n : Nat} : ∀ {ds : List (DataW H)}, d ∈ ds → n ∈ d.weights P e → n ∈ DataW.weightsAll P e ds
  | d0 :: ds, hd, hn => by
    simp only [DataW.weightsAll, List.mem_append]
    rcases List.mem_cons.1 hd with rfl | hd
    · exact .inl hn
    · exact .inr (weightsAll_mem hd hn)
def Light {H : Type} (P : Program) (T : TypeId) (d : DataW H) : Prop := ∀ n ∈ d.weights P T, n ≤ reachBytes
/-- What is read of type T is one x of C, of which ok is true. -/
def Rdr {H : Type} (P : Program) (w : World) (enc : TypeId × Value → H) (T : TypeId) {α : Type} (C : Cd α) (ok : α → Prop) : Prop :=
  ∀ n cs d pl, DataW.trod enc P w 0 (fun _ => true) true n T cs = some (d, pl) → Light P T d → ∃ x, (∀ j u, j < C.k → (C.f x)[j]? = some u → cs[j]? = some u) ∧ ok x
def wfI (x : Int) : Prop := -9223372036854775808 ≤ x ∧ x ≤ 9223372036854775807
theorem wfI_of {x : Int} (h : (Lit.int .i64 x).wf = true) : wfI x := by
  simpa [Lit.wf, IntKind.min, IntKind.max, IntKind.signed, IntKind.bits, wfI] using h
def SlOk {α : Type} (C : Cd α) (w : World) (ok : α → Prop) (s : SlV) : Prop := ∃ ys : List α, s.n = ys.length ∧ RdA C (hp w) s.A s.c ys ∧ ∀ y ∈ ys, ok y
theorem drop_take1 {l : List Value} {j : Nat} {u : Value} (h : (l.drop j).take 1 = [u]) : l[j]? = some u := by
  have := congrArg (fun z => z[0]?) h
  simpa [List.getElem?_take, List.getElem?_drop] using this

section
variable {H : Type} {enc : TypeId × Value → H} {P : Program} {w : World} {T : TypeId}
theorem rdr_int (hu : P.underlying T = some (.int .i64)) : Rdr P w enc T cdInt wfI := fun n cs d pl h _ => by
  obtain ⟨a, rfl, _, hw⟩ := DataW.trod_int hu h
  exact ⟨a, fun j u _ hu => hu, wfI_of hw⟩
theorem rdr_bool (hu : P.underlying T = some .bool) : Rdr P w enc T cdBool (fun _ => True) := fun n cs d pl h _ => by
  obtain ⟨a, rfl, _⟩ := DataW.trod_bool hu h
  exact ⟨a, fun j u _ hu => hu, trivial⟩
/-- A field that is a number, or a Bool. -/
theorem fld_int {n j : Nat} {cs : List Value} {y : DataW H × List MemPlace} (hu : P.underlying T = some (.int .i64)) (hc : P.cellsOf T = 1) (h : DataW.trod enc P w 0 (fun _ => true) true n T ((cs.drop j).take (P.cellsOf T)) = some y) : ∃ a, cs[j]? = some (.int .i64 a) ∧ wfI a := by
  obtain ⟨a, e, _, hw⟩ := DataW.trod_int hu h
  rw [hc] at e
  exact ⟨a, drop_take1 e, wfI_of hw⟩
theorem fld_bool {n j : Nat} {cs : List Value} {y : DataW H × List MemPlace} (hu : P.underlying T = some .bool) (hc : P.cellsOf T = 1) (h : DataW.trod enc P w 0 (fun _ => true) true n T ((cs.drop j).take (P.cellsOf T)) = some y) : ∃ a, cs[j]? = some (.bool a) := by
  obtain ⟨a, e, _⟩ := DataW.trod_bool hu h
  rw [hc] at e
  exact ⟨a, drop_take1 e⟩
theorem rdr_slice {α : Type} [Inhabited α] {C : Cd α} {ok : α → Prop} (hu : P.underlying T = some (.slice C.E)) (hk : P.cellsOf C.E = C.k) (hb : P.bytesOf C.E = C.u8) (hk0 : 0 < C.k) (hr : Rdr P w enc C.E C ok) : Rdr P w enc T (cdV T) (SlOk C w ok) := fun n cs d pl h hl => by
  rcases open_slice hu h with ⟨rfl, hx⟩ | ⟨a, len, cap, m, n', D, Pl, rfl, _, hle, hm, hmm, hx, hi⟩
  · exact ⟨⟨none, 0, 0⟩, fun j u _ hu => hu, [], rfl, RdA.nil_, fun y hy => by cases hy⟩
  · simp only [if_true] at hmm
    subst hmm
    simp only [Prod.mk.injEq] at hx
    obtain ⟨rfl, _⟩ := hx
    have hwt : ∀ n ∈ (len + (m - len)) * P.bytesOf C.E :: (DataW.weightsAll P C.E ((List.range len).map D) ++ DataW.weightsAll P C.E ((List.range (m - len)).map fun j => D (len + j))), n ≤ reachBytes := by
      have := hl
      unfold Light at this
      simp only [DataW.weights, hu, List.length_map, List.length_range] at this
      exact this
    have hsz := hwt _ (List.mem_cons_self ..)
    rw [hb] at hsz
    simp only [reachBytes] at hsz
    have hL : len * C.u8 ≤ 140737488355328 := Nat.le_trans (Nat.mul_le_mul_right _ (show len ≤ len + (m - len) by omega)) (by omega)
    obtain ⟨F, hF⟩ := choose_lt (α := α) (n := len) (p := fun i x => (∀ j u, j < C.k → (C.f x)[j]? = some u → w.cell? (a.add (i * C.k + j)) = some u) ∧ ok x) (fun i hil => by
      obtain ⟨cs', hc, ht⟩ := hi i (by omega)
      rw [hk] at hc
      obtain ⟨x, hx, hok⟩ := hr n' cs' (D i) (Pl i) ht (fun q hq => hwt q (List.mem_cons_of_mem _ (List.mem_append_left _ (weightsAll_mem (List.mem_map.2 ⟨i, List.mem_range.2 hil, rfl⟩) hq))))
      obtain ⟨_, hcl, hat⟩ := World.cells?_some hc
      refine ⟨x, fun j u hj hu => ?_, hok⟩
      rw [← Go.Deep.add_add, hat j hj]
      exact hx j u hj hu)
    have hlen : ((List.range len).map F).length = len := by simp
    refine ⟨⟨some a, len, m⟩, fun j u _ hu => hu, (List.range len).map F, by rw [hlen], ⟨by rw [hlen]; exact hle, by rw [hlen]; exact hL, fun h0 => ?_⟩, fun y hy => ?_⟩
    · rw [hlen] at h0
      have hcell : ∀ j u, (((List.range len).map F).flatMap C.f)[j]? = some u → w.cell? (a.add j) = some u := fun j u hju => by
        have hjl : j < len * C.k := by
          have := (List.getElem?_eq_some_iff.1 hju).1
          rwa [flat_len C.hf, hlen] at this
        have h1 : j / C.k < len := (Nat.div_lt_iff_lt_mul hk0).2 hjl
        have h2 : j % C.k < C.k := Nat.mod_lt _ hk0
        have em : j / C.k * C.k + j % C.k = j := by rw [Nat.mul_comm]; exact Nat.div_add_mod j C.k
        have g1 := flat_get C.hf (xs := (List.range len).map F) (i := j / C.k) (by rw [hlen]; exact h1) h2
        rw [em, hju] at g1
        have := (hF (j / C.k) h1).1 (j % C.k) u h2 (by rw [g1]; simp)
        rwa [em] at this
      have hlen0 : 0 < (((List.range len).map F).flatMap C.f).length := by rw [flat_len C.hf, hlen]; exact Nat.mul_pos h0 hk0
      have hc0 := hcell 0 _ (List.getElem?_eq_getElem hlen0)
      obtain ⟨b, off, spot⟩ := a
      have hspot : spot = none := by simpa [Addr.add] using World.cell?_spot hc0
      subst hspot
      refine ⟨rfl, ?_⟩
      have hadd : ∀ j, (⟨b, off, none⟩ : Addr).add j = ⟨b, off + j, none⟩ := fun j => by
        unfold Addr.add
        split
        · rename_i e; rw [e]; rfl
        · rfl
      rw [hadd] at hc0
      unfold World.cell? at hc0
      split at hc0
      · rename_i cs T' fz hb'
        refine ⟨cs, T', fz, hb', fun j u hju => ?_⟩
        have := hcell j u hju
        rw [hadd, cell_of_row w b _ cs T' fz hb'] at this
        exact this
      · cases hc0
    · obtain ⟨i, hi', rfl⟩ := List.mem_map.1 hy
      exact (hF i (List.mem_range.1 hi')).2
/-- A table of slices, as lists. -/
theorem slok2 {α : Type} {C : Cd α} {ok : α → Prop} : ∀ {vs : List SlV}, (∀ s ∈ vs, SlOk C w ok s) → ∃ xss : List (List α), Rd2 C (hp w) vs xss ∧ ∀ xs ∈ xss, ∀ y ∈ xs, ok y
  | [], _ => ⟨[], Rd2.nil_, fun xs hxs => by cases hxs⟩
  | s :: vs, h => by
    obtain ⟨xss, h1, h2⟩ := slok2 (vs := vs) (fun s hs => h s (List.mem_cons_of_mem _ hs))
    obtain ⟨ys, hn, hr, hy⟩ := h s (List.mem_cons_self ..)
    refine ⟨ys :: xss, ⟨by simp [h1.1], fun i hi => ?_⟩, fun xs hxs => ?_⟩
    · cases i with
      | zero => exact ⟨hn, hr⟩
      | succ i => exact h1.2 i (by simpa using hi)
    · rcases List.mem_cons.1 hxs with rfl | hxs
      · exact hy
      · exact h2 xs hxs
theorem open_sl {α : Type} [Inhabited α] {C : Cd α} {ok : α → Prop} {v : Value} {d : DataW H} {p : List MemPlace} (hu : P.underlying T = some (.slice C.E)) (hk : P.cellsOf C.E = C.k) (hb : P.bytesOf C.E = C.u8) (hk0 : 0 < C.k) (hr : Rdr P w enc C.E C ok)
    {b0 : Nat} (hv : Value.okWide P w .any b0 T v) (h : DataW.Trod enc P w 0 (fun _ => true) true T v d p) {ts : List TypeId} {ds : List (DataW H)} (hsz : (DataW.weightsEach P ts ds).all (· ≤ reachBytes) = true) {j : Nat} (hj : ts[j]? = some T) (hd : ds[j]? = some d) :
    ∃ A c xs, v = .slice A xs.length c ∧ RdA C (hp w) A c xs ∧ ∀ x ∈ xs, ok x := by
  obtain ⟨a0, len, cap, rfl⟩ := okWide_slice hu hv
  obtain ⟨fuel, hf⟩ := h
  have hl : Light P T d := fun n hn => by simpa using List.all_eq_true.1 hsz n (DataW.weights_mem_each hj hd n hn)
  obtain ⟨s, hs, ys, hn, hr, hy⟩ := rdr_slice hu hk hb hk0 hr fuel _ d p hf hl
  have := hs 0 _ Nat.one_pos rfl
  simp only [Value.cells] at this
  have e : (Value.slice a0 len cap) = .slice s.A s.n s.c := by simpa using this
  exact ⟨s.A, s.c, ys, by rw [e, hn], hr, hy⟩
end
end Go.Proofs.Ytkcighnochjlgaa
