/- Walks printed by eng.py. -/
import Derived.Test.YtkcighnochjlgaaM9
set_option linter.unusedSimpArgs false
set_option linter.unusedVariables false
namespace Go.Proofs.Ytkcighnochjlgaa
open Go.ChangeShapes Go.WideShapes Go.ChangeAt Go.RowKit
theorem RDet_t : ∀ (n : Nat) (B : Nat) (_ : n ≤ 10) (_ : 10 * B ≤ 1099511627776) (w : World) (M : Hp) (X : Fr) (nn : List (List (List Tm))) (A : Option Addr) (c : Nat) (v : List SlV) (s : List (List SlV)), RdA (cdV 43) M A c v → Rd2 (cdV 22) M v s → RdD cdTm M s nn → SqT nn n B → SH w M X [] → Ct Try.prog 32 [.slice A v.length c] w M X (PT (n * B) (dT n (mkM nn))) := by
  intro n
  induction n using Nat.strongRecOn with
  | _ n ih =>
    intro B hn hB w M X nn A c v s h1 h2 h3 h4 S
    exact RDet_step nn h1 h2 h3 n B (fun n' hlt w M X nn A c v s h1 h2 h3 h4 S => ih n' hlt B (by omega) hB w M X nn A c v s h1 h2 h3 h4 S) h4 hn hB S
def mmP (nn : List (List (List Tm))) (i k : Nat) : Pol := mk (pr (ga (ga nn i) k))
theorem dT_mkM {nn : List (List (List Tm))} {n B : Nat} (h : SqT nn n B) : dT n (mkM nn) = detP (mmP nn) n := by
  obtain ⟨h1, h2, _⟩ := h
  rw [← dT_detP]
  refine congrArg _ (ga_ext (by simp [mkM, h1]) fun i hi => ?_)
  have hi' : i < n := by simpa [mkM, h1] using hi
  unfold mkM
  rw [ga_map _ _ _ (by omega), ga_map _ _ _ (by simpa using hi')]
  have e : ga (List.range n) i = i := by rw [ga_eq (by simpa using hi')]; simp
  rw [e]
  refine ga_ext (by simp [h2 i hi']) fun k hk => ?_
  have hk' : k < n := by simpa [h2 i hi'] using hk
  rw [ga_map _ _ _ (by rw [h2 i hi']; exact hk'), ga_map _ _ _ (by simpa using hk')]
  have e : ga (List.range n) k = k := by rw [ga_eq (by simpa using hk')]; simp
  rw [e]; rfl
/-! What may be handed in. -/
def szN (l : List Tm) : Nat → Int
  | 0 => 0
  | i + 1 => szN l i + max (ga l i).c (-(ga l i).c)
def szT (l : List Tm) : Int := szN l l.length
theorem szN_bd {l : List Tm} (h : mayT l = true) {i : Nat} (hi : i ≤ l.length) : 0 ≤ szN l i ∧ szN l i ≤ 1000000 * i := by
  obtain ⟨_, h2⟩ := mayT_may h
  induction i with
  | zero => simp [szN]
  | succ i ih =>
    have ih := ih (by omega)
    have := (h2 i (by omega)).2.1
    rw [szN]; omega
def sqB (nn : List (List (List Tm))) : Bool := decide (nn.length ≤ 6) && nn.all fun r => decide (r.length = nn.length)
def detE (nn : List (List (List Tm))) : Int := if sqB nn = true then (if nn.flatten.any (fun l => !mayT l) = true then 1 else if nn.flatten.any (fun l => decide (100 < szT l)) = true then 3 else 0) else 2
theorem all_ga {α : Type} [Inhabited α] {p : α → Bool} {xs : List α} : xs.all p = true ↔ ∀ i, i < xs.length → p (ga xs i) = true := by
  rw [List.all_eq_true]
  constructor
  · intro h i hi; exact h _ (ga_mem hi)
  · intro h x hx
    obtain ⟨i, hi, rfl⟩ := List.mem_iff_getElem.1 hx
    rw [← ga_eq hi]; exact h i hi
theorem any_ga {α : Type} [Inhabited α] {p : α → Bool} {xs : List α} : xs.any p = true ↔ ∃ i, i < xs.length ∧ p (ga xs i) = true := by
  rw [List.any_eq_true]
  constructor
  · rintro ⟨x, hx, h⟩
    obtain ⟨i, hi, rfl⟩ := List.mem_iff_getElem.1 hx
    exact ⟨i, hi, by rw [ga_eq hi]; exact h⟩
  · rintro ⟨i, hi, h⟩; exact ⟨_, ga_mem hi, h⟩
theorem flat_any {α : Type} [Inhabited α] {p : α → Bool} {nn : List (List α)} : nn.flatten.any p = true ↔ ∃ i, i < nn.length ∧ ∃ k, k < (ga nn i).length ∧ p (ga (ga nn i) k) = true := by
  rw [List.any_eq_true]
  constructor
  · rintro ⟨x, hx, h⟩
    obtain ⟨r, hr, hx⟩ := List.mem_flatten.1 hx
    obtain ⟨i, hi, rfl⟩ := List.mem_iff_getElem.1 hr
    obtain ⟨k, hk, rfl⟩ := List.mem_iff_getElem.1 hx
    exact ⟨i, hi, k, by rw [ga_eq hi]; exact hk, by rw [ga_eq hi, ga_eq hk]; exact h⟩
  · rintro ⟨i, hi, k, hk, h⟩
    exact ⟨_, List.mem_flatten.2 ⟨_, ga_mem hi, ga_mem hk⟩, h⟩
theorem sqB_iff {nn : List (List (List Tm))} : sqB nn = true ↔ nn.length ≤ 6 ∧ ∀ i, i < nn.length → (ga nn i).length = nn.length := by
  unfold sqB
  rw [Bool.and_eq_true, decide_eq_true_iff, all_ga]
  simp
/-- The place of the first that is so, or -1. -/
def idxG {α : Type} (p : α → Bool) (xs : List α) : Int := match xs.findIdx? p with
  | some i => (i : Int)
  | none => -1
theorem idxG_hit {α : Type} [Inhabited α] {p : α → Bool} {xs : List α} {k : Nat} (hk : k < xs.length) (h : p (ga xs k) = true) (h0 : ∀ j, j < k → p (ga xs j) = false) : idxG p xs = k := by
  have : xs.findIdx? p = some k := by
    rw [List.findIdx?_eq_some_iff_getElem]
    refine ⟨hk, by rw [← ga_eq hk]; exact h, fun j hj => ?_⟩
    rw [← ga_eq (by omega), h0 j hj]; simp
  simp [idxG, this]
theorem idxG_none {α : Type} [Inhabited α] {p : α → Bool} {xs : List α} (h0 : ∀ j, j < xs.length → p (ga xs j) = false) : idxG p xs = -1 := by
  have : xs.findIdx? p = none := by
    rw [List.findIdx?_eq_none_iff]
    intro x hx
    obtain ⟨j, hj, rfl⟩ := List.mem_iff_getElem.1 hx
    rw [← ga_eq hj]; exact h0 j hj
  simp [idxG, this]
theorem idxG_any {α : Type} (p : α → Bool) (xs : List α) : decide (0 ≤ idxG p xs) = xs.any p := by
  unfold idxG
  cases h : xs.findIdx? p with
  | some i =>
    rw [List.findIdx?_eq_some_iff_getElem] at h
    obtain ⟨h1, h2, _⟩ := h
    rw [Bool.eq_iff_iff, decide_eq_true_iff, List.any_eq_true]
    exact ⟨fun _ => ⟨xs[i], List.getElem_mem h1, h2⟩, fun _ => by show (0 : Int) ≤ (i : Int); omega⟩
  | none =>
    rw [List.findIdx?_eq_none_iff] at h
    rw [Bool.eq_iff_iff, decide_eq_true_iff, List.any_eq_true]
    constructor
    · intro h1; exact absurd h1 (by decide)
    · rintro ⟨x, hx, hp⟩; rw [h x hx] at hp; cases hp
def DetT (nn : List (List (List Tm))) (u : Value) (N : Hp) : Prop := (detE nn ≠ 0 ∧ u = .tuple [.slice none 0 0, .int .i64 (detE nn)].toArray) ∨ (detE nn = 0 ∧ ∃ A c l, u = .tuple [.slice A l.length c, .int .i64 0].toArray ∧ RdA cdTm N A c l ∧ Can l ∧ Bd l 12000 ∧ mk (pr l) = detP (mmP nn) nn.length)

noncomputable def abs_n0 : Code := Try.f67.body.getD .skip
noncomputable def abs_n1 : Code := cL abs_n0
noncomputable def abs_n2 : Code := cR abs_n0
noncomputable def abs_n3 : Code := cL abs_n2
noncomputable def abs_n4 : Code := cR abs_n2
noncomputable def abs_n5 : Code := cL abs_n3
noncomputable def abs_n6 : Code := cR abs_n3
noncomputable def abs_n7 : Code := cL abs_n6
noncomputable def abs_n8 : Code := cR abs_n6
noncomputable def abs_n9 : Code := cL abs_n7
noncomputable def abs_n10 : Code := cR abs_n7
noncomputable def abs_n11 : Code := cL abs_n4
noncomputable def abs_n12 : Code := cR abs_n4
set_option maxRecDepth 10000 in
theorem abs_q {w : World} {M : Hp} {X : Fr} (n : Int) (hn : -9223372036854775807 ≤ n ∧ n ≤ 9223372036854775807) (S : SH w M X []) : Cq Try.prog 67 [.int .i64 n] w M X (fun u => u = .int .i64 (max n (-n))) := by
  unfold Cq
  refine calls_in (b := abs_n0) Try.func67 rfl Try.ntmps67 rfl (fun C hC => ?_)
  refine ws_sub [(0, _)] ⟨rfl, trivial⟩ ?_
  refine ws_seqN abs_n1 abs_n2 rfl rfl rfl ?_
  refine ws_region rfl ?_
  refine wl_op (k := 0) (k' := 1) rfl rfl rfl (wo_run rfl rfl (run_assign rfl rfl) ?_)
  refine wl_end rfl ?_
  refine nm_sub [(0, _)] ⟨rfl, trivial⟩ ?_
  refine nm_thn ?_
  refine ws_seqN abs_n3 abs_n4 rfl rfl rfl ?_
  refine ws_seqN abs_n5 abs_n6 rfl rfl rfl ?_
  refine ws_region rfl ?_
  refine wl_op (k := 0) (k' := 1) rfl rfl rfl (wo_run rfl rfl (run_move rfl rfl) ?_)
  refine wl_op (k := 1) (k' := 2) rfl rfl rfl (wo_run rfl rfl (run_lss rfl rfl rfl) ?_)
  refine wl_end rfl ?_
  refine nm_sub [(0, _), (4, _)] ⟨rfl, rfl, trivial⟩ ?_
  refine nm_thn ?_
  refine ws_condN abs_n7 abs_n8 rfl rfl rfl rfl (fun hb4 => ?_) (fun hb4 => ?_)
  · have hb4 := of_decide_eq_true hb4
    refine ws_seqN abs_n9 abs_n10 rfl rfl rfl ?_
    refine ws_region rfl ?_
    refine wl_op (k := 0) (k' := 1) rfl rfl rfl (wo_run rfl rfl (run_move rfl rfl) ?_)
    refine wl_op (k := 1) (k' := 2) rfl rfl rfl (wo_run rfl rfl (run_neg rfl rfl (by first | omega | (simp only [List.length_set, List.length_append, List.length_replicate, List.length_singleton, List.length_cons, List.length_nil]; omega))) ?_)
    refine wl_op (k := 2) (k' := 3) rfl rfl rfl (wo_run rfl rfl (run_assign rfl rfl) ?_)
    refine wl_end rfl ?_
    refine nm_sub [(2, _)] ⟨rfl, trivial⟩ ?_
    refine nm_thn ?_
    refine ws_ret hC [_] rfl rfl ⟨rfl, trivial⟩ ?_
    exact ⟨_, rfl, (S.pick [] [] (by decide) trivial), (int_eq (by omega))⟩
  · have hb4 := of_decide_eq_false hb4
    refine ws_skip rfl ?_
    refine nm_sub [(0, _)] ⟨rfl, trivial⟩ ?_
    refine nm_thn ?_
    refine ws_seqN abs_n11 abs_n12 rfl rfl rfl ?_
    refine ws_region rfl ?_
    refine wl_op (k := 0) (k' := 1) rfl rfl rfl (wo_run rfl rfl (run_move rfl rfl) ?_)
    refine wl_op (k := 1) (k' := 2) rfl rfl rfl (wo_run rfl rfl (run_assign rfl rfl) ?_)
    refine wl_end rfl ?_
    refine nm_sub [(2, _)] ⟨rfl, trivial⟩ ?_
    refine nm_thn ?_
    refine ws_ret hC [_] rfl rfl ⟨rfl, trivial⟩ ?_
    exact ⟨_, rfl, (S.pick [] [] (by decide) trivial), (int_eq (by omega))⟩

noncomputable def size_n0 : Code := Try.f74.body.getD .skip
noncomputable def size_n1 : Code := cL size_n0
noncomputable def size_n2 : Code := cR size_n0
noncomputable def size_n3 : Code := cL size_n2
noncomputable def size_n4 : Code := cR size_n2
noncomputable def size_n5 : Code := cL size_n4
noncomputable def size_n6 : Code := cR size_n4
noncomputable def size_n7 : Code := cL size_n5
noncomputable def size_n8 : Code := cR size_n5
noncomputable def size_n9 : Code := cL size_n8
noncomputable def size_n10 : Code := cL size_n9
noncomputable def size_n11 : Code := cL size_n10
noncomputable def size_n12 : Code := cR size_n10
noncomputable def size_n13 : Code := cL size_n12
noncomputable def size_n14 : Code := cR size_n12
noncomputable def size_n15 : Code := cL size_n13
noncomputable def size_n16 : Code := cR size_n13
noncomputable def size_n17 : Code := cL size_n14
noncomputable def size_n18 : Code := cR size_n14
noncomputable def size_n19 : Code := cL size_n17
noncomputable def size_n20 : Code := cL size_n19
noncomputable def size_n21 : Code := cR size_n19
noncomputable def size_n22 : Code := cL size_n6
noncomputable def size_n23 : Code := cR size_n6
set_option maxRecDepth 10000 in
theorem size_q {w : World} {M : Hp} {X : Fr} (l : List Tm) {lA : Option Addr} {lc : Nat} (hl : RdA cdTm (M.un X.h) lA lc l) (hm : mayT l = true) (S : SH w M X []) : Cq Try.prog 74 [.slice lA l.length lc] w M X (fun u => u = .int .i64 (szT l)) := by
  unfold Cq
  have rmhl : l.length * 16 ≤ 140737488355328 := hl.room
  obtain ⟨hml, hmm2⟩ := mayT_may hm
  refine calls_in (b := size_n0) Try.func74 rfl Try.ntmps74 rfl (fun C hC => ?_)
  refine ws_sub [(0, _)] ⟨rfl, trivial⟩ ?_
  refine ws_seqN size_n1 size_n2 rfl rfl rfl ?_
  refine ws_region rfl ?_
  refine wl_op (k := 0) (k' := 1) rfl rfl rfl (wo_run rfl rfl (run_assign rfl rfl) ?_)
  refine wl_end rfl ?_
  refine nm_sub [(0, _)] ⟨rfl, trivial⟩ ?_
  refine nm_thn ?_
  refine ws_seqN size_n3 size_n4 rfl rfl rfl ?_
  refine ws_region rfl ?_
  refine wl_op (k := 0) (k' := 1) rfl rfl rfl (wo_run rfl rfl (run_assign rfl rfl) ?_)
  refine wl_end rfl ?_
  refine nm_thn ?_
  refine ws_seqN size_n5 size_n6 rfl rfl rfl ?_
  refine ws_seqN size_n7 size_n8 rfl rfl rfl ?_
  refine ws_region rfl ?_
  refine wl_op (k := 0) (k' := 1) rfl rfl rfl (wo_run rfl rfl (run_move rfl rfl) ?_)
  refine wl_op (k := 1) (k' := 2) rfl rfl rfl (wo_run rfl rfl (run_len rfl rfl rfl rfl rfl rfl Try.underlying22) ?_)
  refine wl_op (k := 2) (k' := 3) rfl rfl rfl (wo_run rfl rfl (run_move rfl rfl) ?_)
  refine wl_end rfl ?_
  refine nm_sub [(3, _), (6, _), (7, _), (8, _)] ⟨rfl, rfl, rfl, rfl, trivial⟩ ?_
  refine nm_thn ?_
  refine ws_blockN size_n9 0 rfl rfl rfl ?_
  refine ws_loopE (fun mx_ ax_ wx_ => ∃ (i : Nat), mx_ = l.length - i ∧ Env 22 [(3, .int .i64 (szN l i)), (6, .slice lA l.length lc), (7, .int .i64 (l.length : Int)), (8, .int .i64 (i : Int))] ax_ ∧ SH wx_ M X [] ∧ i ≤ l.length) rfl ?_ ?_
  · intro ax_ hax_
    refine ⟨_, ⟨0, rfl, hax_.sub ⟨rfl, rfl, rfl, rfl, trivial⟩, S.pick [] [] (by decide) trivial, ?hq1f0⟩⟩
    case hq1f0 => omega
  · rintro m1 a1 w1 ⟨i, rfl, he1, S1, hi⟩
    clear S
    refine ws_in he1 (c := size_n10) rfl ?_
    clear he1 a1
    have hzb := szN_bd hm (i := i) (by omega)
    have hzc := fun h => (hmm2 i h).2.1
    refine ws_seqN size_n11 size_n12 rfl rfl rfl ?_
    refine ws_region rfl ?_
    refine wl_op (k := 0) (k' := 1) rfl rfl rfl (wo_run rfl rfl (run_lss rfl rfl rfl) ?_)
    refine wl_end rfl ?_
    refine nm_thn ?_
    refine ws_seqN size_n13 size_n14 rfl rfl rfl ?_
    refine ws_condN size_n15 size_n16 rfl rfl rfl rfl (fun hb9 => ?_) (fun hb9 => ?_)
    · have hb9 := of_decide_eq_true hb9
      refine ws_skip rfl ?_
      refine nm_sub [(3, _), (6, _), (7, _), (8, _)] ⟨rfl, rfl, rfl, rfl, trivial⟩ ?_
      refine nm_thn ?_
      refine ws_seqN size_n17 size_n18 rfl rfl rfl ?_
      refine ws_blockN size_n19 1 rfl rfl rfl ?_
      refine ws_seqN size_n20 size_n21 rfl rfl rfl ?_
      refine ws_region rfl ?_
      refine wl_op (k := 0) (k' := 1) rfl rfl rfl (wo_run rfl rfl (run_indexM (C := cdTm) i rfl rfl rfl sl22 (by first | rfl | omega) hl (by first | omega | (simp only [List.length_set, List.length_append, List.length_replicate, List.length_singleton, List.length_cons, List.length_nil]; omega))) ?_)
      refine wl_op (k := 1) (k' := 2) rfl rfl rfl (wo_run rfl rfl (run_loadN (us := [_, _]) rfl rfl Try.underlying89 rfl sz89 (hl.cellsAt S1.um (e := i) (by first | omega | (simp only [List.length_set, List.length_append, List.length_replicate, List.length_singleton, List.length_cons, List.length_nil]; omega)) (j := 0) ⟨rfl, rfl, trivial⟩)) ?_)
      refine wl_op (k := 2) (k' := 3) rfl rfl rfl (wo_alloc (l := [_, _]) rfl rfl rfl zr89 rfl S1 ?_)
      intro gb1 w2 S2; clear S1
      refine wl_op (k := 3) (k' := 4) rfl rfl rfl (wo_storeB (i := 0) (us := [_, _]) (l' := [_, _]) (H' := [_]) rfl rfl S2 rfl rfl rfl rfl sz89 rfl rfl rfl rfl ?_)
      intro w3 S3; clear S2
      refine wl_end rfl ?_
      refine nm_sub [(3, _), (6, _), (7, _), (8, _), (5, _)] ⟨rfl, rfl, rfl, rfl, rfl, trivial⟩ ?_
      refine nm_thn ?_
      have hzi := hzc (by omega)
      refine ws_region rfl ?_
      refine wl_op (k := 0) (k' := 1) rfl rfl rfl (wo_run rfl rfl (run_move rfl rfl) ?_)
      refine wl_op (k := 1) (k' := 2) rfl rfl rfl (wo_run rfl rfl (run_fieldAddr rfl rfl Try.underlying89 rfl (ce3) (nf3)) ?_)
      refine wl_op (k := 2) (k' := 3) rfl rfl rfl (wo_run rfl rfl (run_load1 rfl rfl Try.underlying3 rfl (S3.boxc (i := 0) rfl rfl)) ?_)
      refine wl_op (k := 3) (k' := 4) rfl rfl rfl (wo_run rfl rfl (run_fieldAddr rfl rfl Try.underlying89 rfl (ce3) (nf3)) ?_)
      refine wl_op (k := 4) (k' := 5) rfl rfl rfl (wo_run rfl rfl (run_load1 rfl rfl Try.underlying3 rfl (S3.boxc (i := 0) rfl rfl)) ?_)
      refine wl_op (k := 5) (k' := 6) rfl rfl rfl (wo_run rfl rfl (run_neg rfl rfl (by first | omega | (simp only [List.length_set, List.length_append, List.length_replicate, List.length_singleton, List.length_cons, List.length_nil]; omega))) ?_)
      refine wl_op (k := 6) (k' := 7) rfl rfl rfl (wo_run rfl rfl (run_max rfl rfl rfl rfl rfl) ?_)
      refine wl_op (k := 7) (k' := 8) rfl rfl rfl (wo_run rfl rfl (run_add rfl rfl rfl (by first | omega | (simp only [List.length_set, List.length_append, List.length_replicate, List.length_singleton, List.length_cons, List.length_nil]; omega))) ?_)
      refine wl_op (k := 8) (k' := 9) rfl rfl rfl (wo_run rfl rfl (run_assign rfl rfl) ?_)
      refine wl_end rfl ?_
      refine nm_blk ?_
      refine nm_sub [(3, _), (6, _), (7, _), (8, _)] ⟨rfl, rfl, rfl, rfl, trivial⟩ ?_
      refine nm_thn ?_
      refine ws_region rfl ?_
      refine wl_op (k := 0) (k' := 1) rfl rfl rfl (wo_run rfl rfl (run_add rfl rfl rfl (by first | omega | (simp only [List.length_set, List.length_append, List.length_replicate, List.length_singleton, List.length_cons, List.length_nil]; omega))) ?_)
      refine wl_op (k := 1) (k' := 2) rfl rfl rfl (wo_run rfl rfl (run_move rfl rfl) ?_)
      refine wl_end rfl ?_
      refine nm_lp ?_
      intro ax_ hax_
      refine ⟨_, ?hq2m, ⟨i + 1, rfl, hax_.sub ⟨rfl, rfl, rfl, rfl, trivial⟩, S3.pick [] [] (by decide) trivial, ?hq2f0⟩⟩
      case hq2f0 => omega
      case hq2m => omega
    · have hb9 := of_decide_eq_false hb9
      refine ws_exit rfl rfl ?_
      refine nm_sub [(3, _)] ⟨rfl, trivial⟩ ?_
      refine nm_thn ?_
      refine ws_seqN size_n22 size_n23 rfl rfl rfl ?_
      refine ws_region rfl ?_
      refine wl_op (k := 0) (k' := 1) rfl rfl rfl (wo_run rfl rfl (run_move rfl rfl) ?_)
      refine wl_op (k := 1) (k' := 2) rfl rfl rfl (wo_run rfl rfl (run_assign rfl rfl) ?_)
      refine wl_end rfl ?_
      refine nm_sub [(2, _)] ⟨rfl, trivial⟩ ?_
      refine nm_thn ?_
      refine ws_ret hC [_] rfl rfl ⟨rfl, trivial⟩ ?_
      exact ⟨_, rfl, (S1.pick [] [] (by decide) trivial), (by obtain rfl : i = l.length := (by omega); rfl)⟩

noncomputable def Det2_n0 : Code := Try.f72.body.getD .skip
noncomputable def Det2_n1 : Code := cL Det2_n0
noncomputable def Det2_n2 : Code := cR Det2_n0
noncomputable def Det2_n3 : Code := cL Det2_n2
noncomputable def Det2_n4 : Code := cR Det2_n2
set_option maxRecDepth 10000 in
theorem Det2_q {w : World} {M : Hp} {X : Fr} (l : List Tm) {lA : Option Addr} {lc : Nat} (hl : RdA cdTm (M.un X.h) lA lc l) (S : SH w M X []) : Cq Try.prog 72 [.slice lA l.length lc] w M X (fun u => u = .bool (!mayT l)) := by
  unfold Cq
  have rmhl : l.length * 16 ≤ 140737488355328 := hl.room
  refine calls_in (b := Det2_n0) Try.func72 rfl Try.ntmps72 rfl (fun C hC => ?_)
  refine ws_sub [(0, _)] ⟨rfl, trivial⟩ ?_
  refine ws_seqN Det2_n1 Det2_n2 rfl rfl rfl ?_
  refine ws_region rfl ?_
  refine wl_op (k := 0) (k' := 1) rfl rfl rfl (wo_run rfl rfl (run_assign rfl rfl) ?_)
  refine wl_end rfl ?_
  refine nm_sub [(0, _)] ⟨rfl, trivial⟩ ?_
  refine nm_thn ?_
  refine ws_seqN Det2_n3 Det2_n4 rfl rfl rfl ?_
  refine ws_region rfl ?_
  refine wl_op (k := 0) (k' := 1) rfl rfl rfl (wo_run rfl rfl (run_move rfl rfl) ?_)
  refine wl_op (k := 1) (k' := 2) rfl rfl rfl (wo_cq rfl rfl rfl rfl rfl rfl rfl cf63 S (May_q l (hl.mono S.un_XH) S.lend) ?_)
  rintro _ w1 S1 rfl; clear S
  refine wl_op (k := 2) (k' := 3) rfl rfl rfl (wo_run rfl rfl (run_not rfl rfl) ?_)
  refine wl_op (k := 3) (k' := 4) rfl rfl rfl (wo_run rfl rfl (run_assign rfl rfl) ?_)
  refine wl_end rfl ?_
  refine nm_sub [(2, _)] ⟨rfl, trivial⟩ ?_
  refine nm_thn ?_
  refine ws_ret hC [_] rfl rfl ⟨rfl, trivial⟩ ?_
  exact ⟨_, rfl, (S1.pick [] [] (by decide) trivial), rfl⟩

noncomputable def Det3_n0 : Code := Try.f73.body.getD .skip
noncomputable def Det3_n1 : Code := cL Det3_n0
noncomputable def Det3_n2 : Code := cR Det3_n0
noncomputable def Det3_n3 : Code := cL Det3_n2
noncomputable def Det3_n4 : Code := cR Det3_n2
set_option maxRecDepth 10000 in
theorem Det3_q {w : World} {M : Hp} {X : Fr} (l : List Tm) {lA : Option Addr} {lc : Nat} (hl : RdA cdTm (M.un X.h) lA lc l) (hm : mayT l = true) (S : SH w M X []) : Cq Try.prog 73 [.slice lA l.length lc] w M X (fun u => u = .bool (decide (100 < szT l))) := by
  unfold Cq
  have rmhl : l.length * 16 ≤ 140737488355328 := hl.room
  refine calls_in (b := Det3_n0) Try.func73 rfl Try.ntmps73 rfl (fun C hC => ?_)
  refine ws_sub [(0, _)] ⟨rfl, trivial⟩ ?_
  refine ws_seqN Det3_n1 Det3_n2 rfl rfl rfl ?_
  refine ws_region rfl ?_
  refine wl_op (k := 0) (k' := 1) rfl rfl rfl (wo_run rfl rfl (run_assign rfl rfl) ?_)
  refine wl_end rfl ?_
  refine nm_sub [(0, _)] ⟨rfl, trivial⟩ ?_
  refine nm_thn ?_
  refine ws_seqN Det3_n3 Det3_n4 rfl rfl rfl ?_
  refine ws_region rfl ?_
  refine wl_op (k := 0) (k' := 1) rfl rfl rfl (wo_run rfl rfl (run_move rfl rfl) ?_)
  refine wl_op (k := 1) (k' := 2) rfl rfl rfl (wo_cq rfl rfl rfl rfl rfl rfl rfl cf74 S (size_q l (hl.mono S.un_XH) (hm) S.lend) ?_)
  rintro _ w1 S1 rfl; clear S
  refine wl_op (k := 2) (k' := 3) rfl rfl rfl (wo_run rfl rfl (run_gtr rfl rfl rfl) ?_)
  refine wl_op (k := 3) (k' := 4) rfl rfl rfl (wo_run rfl rfl (run_assign rfl rfl) ?_)
  refine wl_end rfl ?_
  refine nm_sub [(2, _)] ⟨rfl, trivial⟩ ?_
  refine nm_thn ?_
  refine ws_ret hC [_] rfl rfl ⟨rfl, trivial⟩ ?_
  exact ⟨_, rfl, (S1.pick [] [] (by decide) trivial), rfl⟩

noncomputable def Det1_n0 : Code := Try.f69.body.getD .skip
noncomputable def Det1_n1 : Code := cL Det1_n0
noncomputable def Det1_n2 : Code := cR Det1_n0
noncomputable def Det1_n3 : Code := cL Det1_n2
noncomputable def Det1_n4 : Code := cR Det1_n2
set_option maxRecDepth 10000 in
theorem Det1_q {w : World} {M : Hp} {X : Fr} (r : List (List Tm)) {rA : Option Addr} {rc : Nat} {rv : List SlV} {gb : Nat} {mA : Option Addr} {mc : Nat} {mv : List SlV} (hr : RdA (cdV 22) (M.un X.h) rA rc rv) (hdr : Rd2 cdTm (M.un X.h) rv r) (hb : BxM (M.un X.h) gb 37 [.slice mA mv.length mc]) (hm : RdA (cdV 43) (M.un X.h) mA mc mv) (S : SH w M X []) : Cq Try.prog 69 [.slice rA rv.length rc, .pointer (some ⟨gb, 0, none⟩)] w M X (fun u => u = .bool (decide (r.length ≠ mv.length))) := by
  unfold Cq
  have rmhr : rv.length * 24 ≤ 140737488355328 := hr.room
  have hrl := hdr.1
  refine calls_in (b := Det1_n0) Try.func69 rfl Try.ntmps69 rfl (fun C hC => ?_)
  refine ws_sub [(0, _), (1, _)] ⟨rfl, rfl, trivial⟩ ?_
  refine ws_seqN Det1_n1 Det1_n2 rfl rfl rfl ?_
  refine ws_region rfl ?_
  refine wl_op (k := 0) (k' := 1) rfl rfl rfl (wo_run rfl rfl (run_assign rfl rfl) ?_)
  refine wl_end rfl ?_
  refine nm_sub [(0, _), (1, _)] ⟨rfl, rfl, trivial⟩ ?_
  refine nm_thn ?_
  refine ws_seqN Det1_n3 Det1_n4 rfl rfl rfl ?_
  refine ws_region rfl ?_
  refine wl_op (k := 0) (k' := 1) rfl rfl rfl (wo_run rfl rfl (run_move rfl rfl) ?_)
  refine wl_op (k := 1) (k' := 2) rfl rfl rfl (wo_run rfl rfl (run_len rfl rfl rfl rfl rfl rfl Try.underlying43) ?_)
  refine wl_op (k := 2) (k' := 3) rfl rfl rfl (wo_run rfl rfl (run_load1 rfl rfl Try.underlying37 rfl (hb.cell S.um rfl)) ?_)
  refine wl_op (k := 3) (k' := 4) rfl rfl rfl (wo_run rfl rfl (run_len rfl rfl rfl rfl rfl rfl Try.underlying37) ?_)
  refine wl_op (k := 4) (k' := 5) rfl rfl rfl (wo_run rfl rfl (run_neq rfl rfl rfl) ?_)
  refine wl_op (k := 5) (k' := 6) rfl rfl rfl (wo_run rfl rfl (run_assign rfl rfl) ?_)
  refine wl_end rfl ?_
  refine nm_sub [(3, _)] ⟨rfl, trivial⟩ ?_
  refine nm_thn ?_
  refine ws_ret hC [_] rfl rfl ⟨rfl, trivial⟩ ?_
  exact ⟨_, rfl, (S.pick [] [] (by decide) trivial), (congrArg Value.bool (decide_eq_decide.2 (by omega)))⟩

noncomputable def IX2_n0 : Code := Try.f109.body.getD .skip
noncomputable def IX2_n1 : Code := cL IX2_n0
noncomputable def IX2_n2 : Code := cR IX2_n0
noncomputable def IX2_n3 : Code := cL IX2_n2
noncomputable def IX2_n4 : Code := cR IX2_n2
noncomputable def IX2_n5 : Code := cL IX2_n3
noncomputable def IX2_n6 : Code := cR IX2_n3
noncomputable def IX2_n7 : Code := cL IX2_n6
noncomputable def IX2_n8 : Code := cL IX2_n7
noncomputable def IX2_n9 : Code := cL IX2_n8
noncomputable def IX2_n10 : Code := cR IX2_n8
noncomputable def IX2_n11 : Code := cL IX2_n10
noncomputable def IX2_n12 : Code := cR IX2_n10
noncomputable def IX2_n13 : Code := cL IX2_n11
noncomputable def IX2_n14 : Code := cR IX2_n11
noncomputable def IX2_n15 : Code := cL IX2_n12
noncomputable def IX2_n16 : Code := cR IX2_n12
noncomputable def IX2_n17 : Code := cL IX2_n15
noncomputable def IX2_n18 : Code := cL IX2_n17
noncomputable def IX2_n19 : Code := cR IX2_n17
noncomputable def IX2_n20 : Code := cL IX2_n19
noncomputable def IX2_n21 : Code := cR IX2_n19
noncomputable def IX2_n22 : Code := cL IX2_n21
noncomputable def IX2_n23 : Code := cR IX2_n21
noncomputable def IX2_n24 : Code := cL IX2_n22
noncomputable def IX2_n25 : Code := cR IX2_n22
noncomputable def IX2_n26 : Code := cL IX2_n4
noncomputable def IX2_n27 : Code := cR IX2_n4
set_option maxRecDepth 10000 in
theorem IX2_q {w : World} {M : Hp} {X : Fr} (nn : List (List (List Tm))) {nnA : Option Addr} {nnc : Nat} {nnv : List SlV} {nns : List (List SlV)} {gb : Nat} {mA : Option Addr} {mc : Nat} {mv : List SlV} (hnn : RdA (cdV 43) (M.un X.h) nnA nnc nnv) (hdnn : Rd2 (cdV 22) (M.un X.h) nnv nns) (h3nn : RdD cdTm (M.un X.h) nns nn) (hb : BxM (M.un X.h) gb 37 [.slice mA mv.length mc]) (hm : RdA (cdV 43) (M.un X.h) mA mc mv) (S : SH w M X []) : Cq Try.prog 109 [.slice nnA nnv.length nnc, .func (.func 69) #[] [.pointer (some ⟨gb, 0, none⟩)].toArray] w M X (fun u => u = .int .i64 (idxG (fun r : List (List Tm) => decide (r.length ≠ mv.length)) nn)) := by
  unfold Cq
  have rmhnn : nnv.length * 24 ≤ 140737488355328 := hnn.room
  have hnl := hdnn.1
  have hn3 := h3nn.1
  refine calls_in (b := IX2_n0) Try.func109 rfl Try.ntmps109 rfl (fun C hC => ?_)
  refine ws_sub [(0, _), (1, _)] ⟨rfl, rfl, trivial⟩ ?_
  refine ws_seqN IX2_n1 IX2_n2 rfl rfl rfl ?_
  refine ws_region rfl ?_
  refine wl_op (k := 0) (k' := 1) rfl rfl rfl (wo_run rfl rfl (run_assign rfl rfl) ?_)
  refine wl_end rfl ?_
  refine nm_sub [(0, _), (1, _)] ⟨rfl, rfl, trivial⟩ ?_
  refine nm_thn ?_
  refine ws_seqN IX2_n3 IX2_n4 rfl rfl rfl ?_
  refine ws_seqN IX2_n5 IX2_n6 rfl rfl rfl ?_
  refine ws_region rfl ?_
  refine wl_op (k := 0) (k' := 1) rfl rfl rfl (wo_run rfl rfl (run_move rfl rfl) ?_)
  refine wl_op (k := 1) (k' := 2) rfl rfl rfl (wo_run rfl rfl (run_len rfl rfl rfl rfl rfl rfl Try.underlying37) ?_)
  refine wl_op (k := 2) (k' := 3) rfl rfl rfl (wo_run rfl rfl (run_move rfl rfl) ?_)
  refine wl_end rfl ?_
  refine nm_sub [(0, _), (1, _), (7, _), (8, _)] ⟨rfl, rfl, rfl, rfl, trivial⟩ ?_
  refine nm_thn ?_
  refine ws_blockN IX2_n7 0 rfl rfl rfl ?_
  refine ws_loopE (fun mx_ ax_ wx_ => ∃ (k : Nat), mx_ = nn.length - k ∧ Env 19 [(0, .slice nnA nnv.length nnc), (1, .func (.func 69) #[] [.pointer (some ⟨gb, 0, none⟩)].toArray), (7, .int .i64 (nnv.length : Int)), (8, .int .i64 (k : Int))] ax_ ∧ SH wx_ M X [] ∧ k ≤ nn.length ∧ (∀ j, j < k → (fun r : List (List Tm) => decide (r.length ≠ mv.length)) (ga nn j) = false)) rfl ?_ ?_
  · intro ax_ hax_
    refine ⟨_, ⟨0, rfl, hax_.sub ⟨rfl, rfl, rfl, rfl, trivial⟩, S.pick [] [] (by decide) trivial, ?hq1f0, ?hq1f1⟩⟩
    case hq1f0 => omega
    case hq1f1 => (intro j hj; omega)
  · rintro m1 a1 w1 ⟨k, rfl, he1, S1, hk, hno⟩
    clear S
    refine ws_in he1 (c := IX2_n8) rfl ?_
    clear he1 a1
    refine ws_seqN IX2_n9 IX2_n10 rfl rfl rfl ?_
    refine ws_region rfl ?_
    refine wl_op (k := 0) (k' := 1) rfl rfl rfl (wo_run rfl rfl (run_lss rfl rfl rfl) ?_)
    refine wl_end rfl ?_
    refine nm_thn ?_
    refine ws_seqN IX2_n11 IX2_n12 rfl rfl rfl ?_
    refine ws_condN IX2_n13 IX2_n14 rfl rfl rfl rfl (fun hb9 => ?_) (fun hb9 => ?_)
    · have hb9 := of_decide_eq_true hb9
      refine ws_skip rfl ?_
      refine nm_sub [(0, _), (1, _), (7, _), (8, _)] ⟨rfl, rfl, rfl, rfl, trivial⟩ ?_
      refine nm_thn ?_
      refine ws_seqN IX2_n15 IX2_n16 rfl rfl rfl ?_
      refine ws_blockN IX2_n17 1 rfl rfl rfl ?_
      refine ws_seqN IX2_n18 IX2_n19 rfl rfl rfl ?_
      refine ws_region rfl ?_
      refine wl_op (k := 0) (k' := 1) rfl rfl rfl (wo_run rfl rfl (run_move rfl rfl) ?_)
      refine wl_op (k := 1) (k' := 2) rfl rfl rfl (wo_run rfl rfl (run_assign rfl rfl) ?_)
      refine wl_end rfl ?_
      refine nm_sub [(0, _), (1, _), (7, _), (8, _), (5, _)] ⟨rfl, rfl, rfl, rfl, rfl, trivial⟩ ?_
      refine nm_thn ?_
      refine ws_seqN IX2_n20 IX2_n21 rfl rfl rfl ?_
      refine ws_region rfl ?_
      refine wl_op (k := 0) (k' := 1) rfl rfl rfl (wo_run rfl rfl (run_move rfl rfl) ?_)
      refine wl_op (k := 1) (k' := 2) rfl rfl rfl (wo_run rfl rfl (run_move rfl rfl) ?_)
      refine wl_op (k := 2) (k' := 3) rfl rfl rfl (wo_run rfl rfl (run_move rfl rfl) ?_)
      refine wl_op (k := 3) (k' := 4) rfl rfl rfl (wo_run rfl rfl (run_indexM (C := (cdV 43)) k rfl rfl rfl sl37 (by first | rfl | omega) hnn (by first | omega | (simp only [List.length_set, List.length_append, List.length_replicate, List.length_singleton, List.length_cons, List.length_nil]; omega))) ?_)
      obtain ⟨hn1, hr1⟩ := hdnn.2 k (by first | omega | (simp only [List.length_set, List.length_append, List.length_replicate, List.length_singleton, List.length_cons, List.length_nil]; omega))
      have rmhr1 : (ga nns k).length * 24 ≤ 140737488355328 := hr1.room
      have hW1 := h3nn.2 k (by have := h3nn.1; have := hdnn.1; first | omega | (simp_all; omega))
      have hW1l := hW1.1
      refine wl_op (k := 4) (k' := 5) rfl rfl rfl (wo_run rfl rfl (run_load1 rfl rfl Try.underlying43 rfl (hnn.cell S1.um (i := k) (by first | omega | (simp only [List.length_set, List.length_append, List.length_replicate, List.length_singleton, List.length_cons, List.length_nil]; omega)) 0 rfl (congrArg (fun n => some (Value.slice _ n _)) hn1))) ?_)
      refine wl_op (k := 5) (k' := 6) rfl rfl rfl (wo_cqF rfl rfl rfl rfl rfl rfl rfl cf69 S1 (Det1_q (ga nn k) (hr1.mono S1.un_XH) (hW1.mono S1.un_XH) (hb.mono S1.un_XH) (hm.mono S1.un_XH) S1.lend) ?_)
      rintro _ w2 S2 rfl; clear S1
      refine wl_end rfl ?_
      refine nm_sub [(0, _), (1, _), (7, _), (8, _), (5, _), (16, _)] ⟨rfl, rfl, rfl, rfl, rfl, rfl, trivial⟩ ?_
      refine nm_thn ?_
      refine ws_condN IX2_n22 IX2_n23 rfl rfl rfl rfl (fun hb16 => ?_) (fun hb16 => ?_)
      · refine ws_seqN IX2_n24 IX2_n25 rfl rfl rfl ?_
        refine ws_region rfl ?_
        refine wl_op (k := 0) (k' := 1) rfl rfl rfl (wo_run rfl rfl (run_move rfl rfl) ?_)
        refine wl_op (k := 1) (k' := 2) rfl rfl rfl (wo_run rfl rfl (run_assign rfl rfl) ?_)
        refine wl_end rfl ?_
        refine nm_sub [(4, _)] ⟨rfl, trivial⟩ ?_
        refine nm_thn ?_
        refine ws_ret hC [_] rfl rfl ⟨rfl, trivial⟩ ?_
        exact ⟨_, rfl, (S2.pick [] [] (by decide) trivial), (by rw [idxG_hit (by omega) hb16 hno]; rfl)⟩
      · refine ws_skip rfl ?_
        refine nm_blk ?_
        refine nm_sub [(0, _), (1, _), (7, _), (8, _)] ⟨rfl, rfl, rfl, rfl, trivial⟩ ?_
        refine nm_thn ?_
        refine ws_region rfl ?_
        refine wl_op (k := 0) (k' := 1) rfl rfl rfl (wo_run rfl rfl (run_add rfl rfl rfl (by first | omega | (simp only [List.length_set, List.length_append, List.length_replicate, List.length_singleton, List.length_cons, List.length_nil]; omega))) ?_)
        refine wl_op (k := 1) (k' := 2) rfl rfl rfl (wo_run rfl rfl (run_move rfl rfl) ?_)
        refine wl_end rfl ?_
        refine nm_lp ?_
        intro ax_ hax_
        refine ⟨_, ?hq2m, ⟨k + 1, rfl, hax_.sub ⟨rfl, rfl, rfl, rfl, trivial⟩, S2.pick [] [] (by decide) trivial, ?hq2f0, ?hq2f1⟩⟩
        case hq2f0 => omega
        case hq2f1 => (intro j hj; by_cases h : j = k; (subst h; exact hb16); exact hno j (by omega))
        case hq2m => omega
    · have hb9 := of_decide_eq_false hb9
      refine ws_exit rfl rfl ?_
      refine nm_sub [] trivial ?_
      refine nm_thn ?_
      refine ws_seqN IX2_n26 IX2_n27 rfl rfl rfl ?_
      refine ws_region rfl ?_
      refine wl_op (k := 0) (k' := 1) rfl rfl rfl (wo_run rfl rfl (run_assign rfl rfl) ?_)
      refine wl_end rfl ?_
      refine nm_thn ?_
      refine ws_ret hC [_] rfl rfl ⟨rfl, trivial⟩ ?_
      exact ⟨_, rfl, (S1.pick [] [] (by decide) trivial), (by rw [idxG_none (fun j hj => hno j (by omega))]; rfl)⟩

noncomputable def CF2_n0 : Code := Try.f68.body.getD .skip
noncomputable def CF2_n1 : Code := cL CF2_n0
noncomputable def CF2_n2 : Code := cR CF2_n0
noncomputable def CF2_n3 : Code := cL CF2_n2
noncomputable def CF2_n4 : Code := cR CF2_n2
set_option maxRecDepth 10000 in
theorem CF2_q {w : World} {M : Hp} {X : Fr} (nn : List (List (List Tm))) {nnA : Option Addr} {nnc : Nat} {nnv : List SlV} {nns : List (List SlV)} {gb : Nat} {mA : Option Addr} {mc : Nat} {mv : List SlV} (hnn : RdA (cdV 43) (M.un X.h) nnA nnc nnv) (hdnn : Rd2 (cdV 22) (M.un X.h) nnv nns) (h3nn : RdD cdTm (M.un X.h) nns nn) (hb : BxM (M.un X.h) gb 37 [.slice mA mv.length mc]) (hm : RdA (cdV 43) (M.un X.h) mA mc mv) (S : SH w M X []) : Cq Try.prog 68 [.slice nnA nnv.length nnc, .func (.func 69) #[] [.pointer (some ⟨gb, 0, none⟩)].toArray] w M X (fun u => u = .bool (nn.any (fun r : List (List Tm) => decide (r.length ≠ mv.length)))) := by
  unfold Cq
  have rmhnn : nnv.length * 24 ≤ 140737488355328 := hnn.room
  refine calls_in (b := CF2_n0) Try.func68 rfl Try.ntmps68 rfl (fun C hC => ?_)
  refine ws_sub [(0, _), (1, _)] ⟨rfl, rfl, trivial⟩ ?_
  refine ws_seqN CF2_n1 CF2_n2 rfl rfl rfl ?_
  refine ws_region rfl ?_
  refine wl_op (k := 0) (k' := 1) rfl rfl rfl (wo_run rfl rfl (run_assign rfl rfl) ?_)
  refine wl_end rfl ?_
  refine nm_sub [(0, _), (1, _)] ⟨rfl, rfl, trivial⟩ ?_
  refine nm_thn ?_
  refine ws_seqN CF2_n3 CF2_n4 rfl rfl rfl ?_
  refine ws_region rfl ?_
  refine wl_op (k := 0) (k' := 1) rfl rfl rfl (wo_run rfl rfl (run_move rfl rfl) ?_)
  refine wl_op (k := 1) (k' := 2) rfl rfl rfl (wo_run rfl rfl (run_move rfl rfl) ?_)
  refine wl_op (k := 2) (k' := 3) rfl rfl rfl (wo_cq rfl rfl rfl rfl rfl rfl rfl cf109 S (IX2_q nn (hnn.mono S.un_XH) (hdnn.mono S.un_XH) (h3nn.mono S.un_XH) (hb.mono S.un_XH) (hm.mono S.un_XH) S.lend) ?_)
  rintro _ w1 S1 rfl; clear S
  refine wl_op (k := 3) (k' := 4) rfl rfl rfl (wo_run rfl rfl (run_geq rfl rfl rfl) ?_)
  refine wl_op (k := 4) (k' := 5) rfl rfl rfl (wo_run rfl rfl (run_assign rfl rfl) ?_)
  refine wl_end rfl ?_
  refine nm_sub [(4, _)] ⟨rfl, trivial⟩ ?_
  refine nm_thn ?_
  refine ws_ret hC [_] rfl rfl ⟨rfl, trivial⟩ ?_
  exact ⟨_, rfl, (S1.pick [] [] (by decide) trivial), (by rw [← idxG_any]; rfl)⟩

noncomputable def IX1_2_n0 : Code := Try.f111.body.getD .skip
noncomputable def IX1_2_n1 : Code := cL IX1_2_n0
noncomputable def IX1_2_n2 : Code := cR IX1_2_n0
noncomputable def IX1_2_n3 : Code := cL IX1_2_n2
noncomputable def IX1_2_n4 : Code := cR IX1_2_n2
noncomputable def IX1_2_n5 : Code := cL IX1_2_n3
noncomputable def IX1_2_n6 : Code := cR IX1_2_n3
noncomputable def IX1_2_n7 : Code := cL IX1_2_n6
noncomputable def IX1_2_n8 : Code := cL IX1_2_n7
noncomputable def IX1_2_n9 : Code := cL IX1_2_n8
noncomputable def IX1_2_n10 : Code := cR IX1_2_n8
noncomputable def IX1_2_n11 : Code := cL IX1_2_n10
noncomputable def IX1_2_n12 : Code := cR IX1_2_n10
noncomputable def IX1_2_n13 : Code := cL IX1_2_n11
noncomputable def IX1_2_n14 : Code := cR IX1_2_n11
noncomputable def IX1_2_n15 : Code := cL IX1_2_n12
noncomputable def IX1_2_n16 : Code := cR IX1_2_n12
noncomputable def IX1_2_n17 : Code := cL IX1_2_n15
noncomputable def IX1_2_n18 : Code := cL IX1_2_n17
noncomputable def IX1_2_n19 : Code := cR IX1_2_n17
noncomputable def IX1_2_n20 : Code := cL IX1_2_n19
noncomputable def IX1_2_n21 : Code := cR IX1_2_n19
noncomputable def IX1_2_n22 : Code := cL IX1_2_n21
noncomputable def IX1_2_n23 : Code := cR IX1_2_n21
noncomputable def IX1_2_n24 : Code := cL IX1_2_n22
noncomputable def IX1_2_n25 : Code := cR IX1_2_n22
noncomputable def IX1_2_n26 : Code := cL IX1_2_n4
noncomputable def IX1_2_n27 : Code := cR IX1_2_n4
set_option maxRecDepth 10000 in
theorem IX1_2_q {w : World} {M : Hp} {X : Fr} (s : List (List Tm)) {sA : Option Addr} {sc : Nat} {sv : List SlV} (hs : RdA (cdV 22) (M.un X.h) sA sc sv) (hds : Rd2 cdTm (M.un X.h) sv s) (S : SH w M X []) : Cq Try.prog 111 [.slice sA sv.length sc, .func (.func 72) #[] #[]] w M X (fun u => u = .int .i64 (idxG (fun l => !mayT l) s)) := by
  unfold Cq
  have rmhs : sv.length * 24 ≤ 140737488355328 := hs.room
  have hsl := hds.1
  refine calls_in (b := IX1_2_n0) Try.func111 rfl Try.ntmps111 rfl (fun C hC => ?_)
  refine ws_sub [(0, _), (1, _)] ⟨rfl, rfl, trivial⟩ ?_
  refine ws_seqN IX1_2_n1 IX1_2_n2 rfl rfl rfl ?_
  refine ws_region rfl ?_
  refine wl_op (k := 0) (k' := 1) rfl rfl rfl (wo_run rfl rfl (run_assign rfl rfl) ?_)
  refine wl_end rfl ?_
  refine nm_sub [(0, _), (1, _)] ⟨rfl, rfl, trivial⟩ ?_
  refine nm_thn ?_
  refine ws_seqN IX1_2_n3 IX1_2_n4 rfl rfl rfl ?_
  refine ws_seqN IX1_2_n5 IX1_2_n6 rfl rfl rfl ?_
  refine ws_region rfl ?_
  refine wl_op (k := 0) (k' := 1) rfl rfl rfl (wo_run rfl rfl (run_move rfl rfl) ?_)
  refine wl_op (k := 1) (k' := 2) rfl rfl rfl (wo_run rfl rfl (run_len rfl rfl rfl rfl rfl rfl Try.underlying43) ?_)
  refine wl_op (k := 2) (k' := 3) rfl rfl rfl (wo_run rfl rfl (run_move rfl rfl) ?_)
  refine wl_end rfl ?_
  refine nm_sub [(0, _), (1, _), (7, _), (8, _)] ⟨rfl, rfl, rfl, rfl, trivial⟩ ?_
  refine nm_thn ?_
  refine ws_blockN IX1_2_n7 0 rfl rfl rfl ?_
  refine ws_loopE (fun mx_ ax_ wx_ => ∃ (k : Nat), mx_ = s.length - k ∧ Env 19 [(0, .slice sA sv.length sc), (1, .func (.func 72) #[] #[]), (7, .int .i64 (sv.length : Int)), (8, .int .i64 (k : Int))] ax_ ∧ SH wx_ M X [] ∧ k ≤ s.length ∧ (∀ j, j < k → (fun l => !mayT l) (ga s j) = false)) rfl ?_ ?_
  · intro ax_ hax_
    refine ⟨_, ⟨0, rfl, hax_.sub ⟨rfl, rfl, rfl, rfl, trivial⟩, S.pick [] [] (by decide) trivial, ?hq1f0, ?hq1f1⟩⟩
    case hq1f0 => omega
    case hq1f1 => (intro j hj; omega)
  · rintro m1 a1 w1 ⟨k, rfl, he1, S1, hk, hno⟩
    clear S
    refine ws_in he1 (c := IX1_2_n8) rfl ?_
    clear he1 a1
    refine ws_seqN IX1_2_n9 IX1_2_n10 rfl rfl rfl ?_
    refine ws_region rfl ?_
    refine wl_op (k := 0) (k' := 1) rfl rfl rfl (wo_run rfl rfl (run_lss rfl rfl rfl) ?_)
    refine wl_end rfl ?_
    refine nm_thn ?_
    refine ws_seqN IX1_2_n11 IX1_2_n12 rfl rfl rfl ?_
    refine ws_condN IX1_2_n13 IX1_2_n14 rfl rfl rfl rfl (fun hb9 => ?_) (fun hb9 => ?_)
    · have hb9 := of_decide_eq_true hb9
      refine ws_skip rfl ?_
      refine nm_sub [(0, _), (1, _), (7, _), (8, _)] ⟨rfl, rfl, rfl, rfl, trivial⟩ ?_
      refine nm_thn ?_
      refine ws_seqN IX1_2_n15 IX1_2_n16 rfl rfl rfl ?_
      refine ws_blockN IX1_2_n17 1 rfl rfl rfl ?_
      refine ws_seqN IX1_2_n18 IX1_2_n19 rfl rfl rfl ?_
      refine ws_region rfl ?_
      refine wl_op (k := 0) (k' := 1) rfl rfl rfl (wo_run rfl rfl (run_move rfl rfl) ?_)
      refine wl_op (k := 1) (k' := 2) rfl rfl rfl (wo_run rfl rfl (run_assign rfl rfl) ?_)
      refine wl_end rfl ?_
      refine nm_sub [(0, _), (1, _), (7, _), (8, _), (5, _)] ⟨rfl, rfl, rfl, rfl, rfl, trivial⟩ ?_
      refine nm_thn ?_
      refine ws_seqN IX1_2_n20 IX1_2_n21 rfl rfl rfl ?_
      refine ws_region rfl ?_
      refine wl_op (k := 0) (k' := 1) rfl rfl rfl (wo_run rfl rfl (run_move rfl rfl) ?_)
      refine wl_op (k := 1) (k' := 2) rfl rfl rfl (wo_run rfl rfl (run_move rfl rfl) ?_)
      refine wl_op (k := 2) (k' := 3) rfl rfl rfl (wo_run rfl rfl (run_move rfl rfl) ?_)
      refine wl_op (k := 3) (k' := 4) rfl rfl rfl (wo_run rfl rfl (run_indexM (C := (cdV 22)) k rfl rfl rfl sl43 (by first | rfl | omega) hs (by first | omega | (simp only [List.length_set, List.length_append, List.length_replicate, List.length_singleton, List.length_cons, List.length_nil]; omega))) ?_)
      obtain ⟨hn1, hr1⟩ := hds.2 k (by first | omega | (simp only [List.length_set, List.length_append, List.length_replicate, List.length_singleton, List.length_cons, List.length_nil]; omega))
      have rmhr1 : (ga s k).length * 16 ≤ 140737488355328 := hr1.room
      refine wl_op (k := 4) (k' := 5) rfl rfl rfl (wo_run rfl rfl (run_load1 rfl rfl Try.underlying22 rfl (hs.cell S1.um (i := k) (by first | omega | (simp only [List.length_set, List.length_append, List.length_replicate, List.length_singleton, List.length_cons, List.length_nil]; omega)) 0 rfl (congrArg (fun n => some (Value.slice _ n _)) hn1))) ?_)
      refine wl_op (k := 5) (k' := 6) rfl rfl rfl (wo_cq rfl rfl rfl rfl rfl rfl rfl cf72 S1 (Det2_q (ga s k) (hr1.mono S1.un_XH) S1.lend) ?_)
      rintro _ w2 S2 rfl; clear S1
      refine wl_end rfl ?_
      refine nm_sub [(0, _), (1, _), (7, _), (8, _), (5, _), (16, _)] ⟨rfl, rfl, rfl, rfl, rfl, rfl, trivial⟩ ?_
      refine nm_thn ?_
      refine ws_condN IX1_2_n22 IX1_2_n23 rfl rfl rfl rfl (fun hb16 => ?_) (fun hb16 => ?_)
      · refine ws_seqN IX1_2_n24 IX1_2_n25 rfl rfl rfl ?_
        refine ws_region rfl ?_
        refine wl_op (k := 0) (k' := 1) rfl rfl rfl (wo_run rfl rfl (run_move rfl rfl) ?_)
        refine wl_op (k := 1) (k' := 2) rfl rfl rfl (wo_run rfl rfl (run_assign rfl rfl) ?_)
        refine wl_end rfl ?_
        refine nm_sub [(4, _)] ⟨rfl, trivial⟩ ?_
        refine nm_thn ?_
        refine ws_ret hC [_] rfl rfl ⟨rfl, trivial⟩ ?_
        exact ⟨_, rfl, (S2.pick [] [] (by decide) trivial), (by rw [idxG_hit (by omega) hb16 hno]; rfl)⟩
      · refine ws_skip rfl ?_
        refine nm_blk ?_
        refine nm_sub [(0, _), (1, _), (7, _), (8, _)] ⟨rfl, rfl, rfl, rfl, trivial⟩ ?_
        refine nm_thn ?_
        refine ws_region rfl ?_
        refine wl_op (k := 0) (k' := 1) rfl rfl rfl (wo_run rfl rfl (run_add rfl rfl rfl (by first | omega | (simp only [List.length_set, List.length_append, List.length_replicate, List.length_singleton, List.length_cons, List.length_nil]; omega))) ?_)
        refine wl_op (k := 1) (k' := 2) rfl rfl rfl (wo_run rfl rfl (run_move rfl rfl) ?_)
        refine wl_end rfl ?_
        refine nm_lp ?_
        intro ax_ hax_
        refine ⟨_, ?hq2m, ⟨k + 1, rfl, hax_.sub ⟨rfl, rfl, rfl, rfl, trivial⟩, S2.pick [] [] (by decide) trivial, ?hq2f0, ?hq2f1⟩⟩
        case hq2f0 => omega
        case hq2f1 => (intro j hj; by_cases h : j = k; (subst h; exact hb16); exact hno j (by omega))
        case hq2m => omega
    · have hb9 := of_decide_eq_false hb9
      refine ws_exit rfl rfl ?_
      refine nm_sub [] trivial ?_
      refine nm_thn ?_
      refine ws_seqN IX1_2_n26 IX1_2_n27 rfl rfl rfl ?_
      refine ws_region rfl ?_
      refine wl_op (k := 0) (k' := 1) rfl rfl rfl (wo_run rfl rfl (run_assign rfl rfl) ?_)
      refine wl_end rfl ?_
      refine nm_thn ?_
      refine ws_ret hC [_] rfl rfl ⟨rfl, trivial⟩ ?_
      exact ⟨_, rfl, (S1.pick [] [] (by decide) trivial), (by rw [idxG_none (fun j hj => hno j (by omega))]; rfl)⟩

noncomputable def CF1_2_n0 : Code := Try.f71.body.getD .skip
noncomputable def CF1_2_n1 : Code := cL CF1_2_n0
noncomputable def CF1_2_n2 : Code := cR CF1_2_n0
noncomputable def CF1_2_n3 : Code := cL CF1_2_n2
noncomputable def CF1_2_n4 : Code := cR CF1_2_n2
set_option maxRecDepth 10000 in
theorem CF1_2_q {w : World} {M : Hp} {X : Fr} (s : List (List Tm)) {sA : Option Addr} {sc : Nat} {sv : List SlV} (hs : RdA (cdV 22) (M.un X.h) sA sc sv) (hds : Rd2 cdTm (M.un X.h) sv s) (S : SH w M X []) : Cq Try.prog 71 [.slice sA sv.length sc, .func (.func 72) #[] #[]] w M X (fun u => u = .bool (s.any (fun l => !mayT l))) := by
  unfold Cq
  have rmhs : sv.length * 24 ≤ 140737488355328 := hs.room
  refine calls_in (b := CF1_2_n0) Try.func71 rfl Try.ntmps71 rfl (fun C hC => ?_)
  refine ws_sub [(0, _), (1, _)] ⟨rfl, rfl, trivial⟩ ?_
  refine ws_seqN CF1_2_n1 CF1_2_n2 rfl rfl rfl ?_
  refine ws_region rfl ?_
  refine wl_op (k := 0) (k' := 1) rfl rfl rfl (wo_run rfl rfl (run_assign rfl rfl) ?_)
  refine wl_end rfl ?_
  refine nm_sub [(0, _), (1, _)] ⟨rfl, rfl, trivial⟩ ?_
  refine nm_thn ?_
  refine ws_seqN CF1_2_n3 CF1_2_n4 rfl rfl rfl ?_
  refine ws_region rfl ?_
  refine wl_op (k := 0) (k' := 1) rfl rfl rfl (wo_run rfl rfl (run_move rfl rfl) ?_)
  refine wl_op (k := 1) (k' := 2) rfl rfl rfl (wo_run rfl rfl (run_move rfl rfl) ?_)
  refine wl_op (k := 2) (k' := 3) rfl rfl rfl (wo_cq rfl rfl rfl rfl rfl rfl rfl cf111 S (IX1_2_q s (hs.mono S.un_XH) (hds.mono S.un_XH) S.lend) ?_)
  rintro _ w1 S1 rfl; clear S
  refine wl_op (k := 3) (k' := 4) rfl rfl rfl (wo_run rfl rfl (run_geq rfl rfl rfl) ?_)
  refine wl_op (k := 4) (k' := 5) rfl rfl rfl (wo_run rfl rfl (run_assign rfl rfl) ?_)
  refine wl_end rfl ?_
  refine nm_sub [(4, _)] ⟨rfl, trivial⟩ ?_
  refine nm_thn ?_
  refine ws_ret hC [_] rfl rfl ⟨rfl, trivial⟩ ?_
  exact ⟨_, rfl, (S1.pick [] [] (by decide) trivial), (by rw [← idxG_any]; rfl)⟩

noncomputable def IX1_3_n0 : Code := Try.f111.body.getD .skip
noncomputable def IX1_3_n1 : Code := cL IX1_3_n0
noncomputable def IX1_3_n2 : Code := cR IX1_3_n0
noncomputable def IX1_3_n3 : Code := cL IX1_3_n2
noncomputable def IX1_3_n4 : Code := cR IX1_3_n2
noncomputable def IX1_3_n5 : Code := cL IX1_3_n3
noncomputable def IX1_3_n6 : Code := cR IX1_3_n3
noncomputable def IX1_3_n7 : Code := cL IX1_3_n6
noncomputable def IX1_3_n8 : Code := cL IX1_3_n7
noncomputable def IX1_3_n9 : Code := cL IX1_3_n8
noncomputable def IX1_3_n10 : Code := cR IX1_3_n8
noncomputable def IX1_3_n11 : Code := cL IX1_3_n10
noncomputable def IX1_3_n12 : Code := cR IX1_3_n10
noncomputable def IX1_3_n13 : Code := cL IX1_3_n11
noncomputable def IX1_3_n14 : Code := cR IX1_3_n11
noncomputable def IX1_3_n15 : Code := cL IX1_3_n12
noncomputable def IX1_3_n16 : Code := cR IX1_3_n12
noncomputable def IX1_3_n17 : Code := cL IX1_3_n15
noncomputable def IX1_3_n18 : Code := cL IX1_3_n17
noncomputable def IX1_3_n19 : Code := cR IX1_3_n17
noncomputable def IX1_3_n20 : Code := cL IX1_3_n19
noncomputable def IX1_3_n21 : Code := cR IX1_3_n19
noncomputable def IX1_3_n22 : Code := cL IX1_3_n21
noncomputable def IX1_3_n23 : Code := cR IX1_3_n21
noncomputable def IX1_3_n24 : Code := cL IX1_3_n22
noncomputable def IX1_3_n25 : Code := cR IX1_3_n22
noncomputable def IX1_3_n26 : Code := cL IX1_3_n4
noncomputable def IX1_3_n27 : Code := cR IX1_3_n4
set_option maxRecDepth 10000 in
theorem IX1_3_q {w : World} {M : Hp} {X : Fr} (s : List (List Tm)) {sA : Option Addr} {sc : Nat} {sv : List SlV} (hs : RdA (cdV 22) (M.un X.h) sA sc sv) (hds : Rd2 cdTm (M.un X.h) sv s) (hmay : ∀ j, j < s.length → mayT (ga s j) = true) (S : SH w M X []) : Cq Try.prog 111 [.slice sA sv.length sc, .func (.func 73) #[] #[]] w M X (fun u => u = .int .i64 (idxG (fun l => decide (100 < szT l)) s)) := by
  unfold Cq
  have rmhs : sv.length * 24 ≤ 140737488355328 := hs.room
  have hsl := hds.1
  refine calls_in (b := IX1_3_n0) Try.func111 rfl Try.ntmps111 rfl (fun C hC => ?_)
  refine ws_sub [(0, _), (1, _)] ⟨rfl, rfl, trivial⟩ ?_
  refine ws_seqN IX1_3_n1 IX1_3_n2 rfl rfl rfl ?_
  refine ws_region rfl ?_
  refine wl_op (k := 0) (k' := 1) rfl rfl rfl (wo_run rfl rfl (run_assign rfl rfl) ?_)
  refine wl_end rfl ?_
  refine nm_sub [(0, _), (1, _)] ⟨rfl, rfl, trivial⟩ ?_
  refine nm_thn ?_
  refine ws_seqN IX1_3_n3 IX1_3_n4 rfl rfl rfl ?_
  refine ws_seqN IX1_3_n5 IX1_3_n6 rfl rfl rfl ?_
  refine ws_region rfl ?_
  refine wl_op (k := 0) (k' := 1) rfl rfl rfl (wo_run rfl rfl (run_move rfl rfl) ?_)
  refine wl_op (k := 1) (k' := 2) rfl rfl rfl (wo_run rfl rfl (run_len rfl rfl rfl rfl rfl rfl Try.underlying43) ?_)
  refine wl_op (k := 2) (k' := 3) rfl rfl rfl (wo_run rfl rfl (run_move rfl rfl) ?_)
  refine wl_end rfl ?_
  refine nm_sub [(0, _), (1, _), (7, _), (8, _)] ⟨rfl, rfl, rfl, rfl, trivial⟩ ?_
  refine nm_thn ?_
  refine ws_blockN IX1_3_n7 0 rfl rfl rfl ?_
  refine ws_loopE (fun mx_ ax_ wx_ => ∃ (k : Nat), mx_ = s.length - k ∧ Env 19 [(0, .slice sA sv.length sc), (1, .func (.func 73) #[] #[]), (7, .int .i64 (sv.length : Int)), (8, .int .i64 (k : Int))] ax_ ∧ SH wx_ M X [] ∧ k ≤ s.length ∧ (∀ j, j < k → (fun l => decide (100 < szT l)) (ga s j) = false)) rfl ?_ ?_
  · intro ax_ hax_
    refine ⟨_, ⟨0, rfl, hax_.sub ⟨rfl, rfl, rfl, rfl, trivial⟩, S.pick [] [] (by decide) trivial, ?hq1f0, ?hq1f1⟩⟩
    case hq1f0 => omega
    case hq1f1 => (intro j hj; omega)
  · rintro m1 a1 w1 ⟨k, rfl, he1, S1, hk, hno⟩
    clear S
    refine ws_in he1 (c := IX1_3_n8) rfl ?_
    clear he1 a1
    refine ws_seqN IX1_3_n9 IX1_3_n10 rfl rfl rfl ?_
    refine ws_region rfl ?_
    refine wl_op (k := 0) (k' := 1) rfl rfl rfl (wo_run rfl rfl (run_lss rfl rfl rfl) ?_)
    refine wl_end rfl ?_
    refine nm_thn ?_
    refine ws_seqN IX1_3_n11 IX1_3_n12 rfl rfl rfl ?_
    refine ws_condN IX1_3_n13 IX1_3_n14 rfl rfl rfl rfl (fun hb9 => ?_) (fun hb9 => ?_)
    · have hb9 := of_decide_eq_true hb9
      refine ws_skip rfl ?_
      refine nm_sub [(0, _), (1, _), (7, _), (8, _)] ⟨rfl, rfl, rfl, rfl, trivial⟩ ?_
      refine nm_thn ?_
      refine ws_seqN IX1_3_n15 IX1_3_n16 rfl rfl rfl ?_
      refine ws_blockN IX1_3_n17 1 rfl rfl rfl ?_
      refine ws_seqN IX1_3_n18 IX1_3_n19 rfl rfl rfl ?_
      refine ws_region rfl ?_
      refine wl_op (k := 0) (k' := 1) rfl rfl rfl (wo_run rfl rfl (run_move rfl rfl) ?_)
      refine wl_op (k := 1) (k' := 2) rfl rfl rfl (wo_run rfl rfl (run_assign rfl rfl) ?_)
      refine wl_end rfl ?_
      refine nm_sub [(0, _), (1, _), (7, _), (8, _), (5, _)] ⟨rfl, rfl, rfl, rfl, rfl, trivial⟩ ?_
      refine nm_thn ?_
      refine ws_seqN IX1_3_n20 IX1_3_n21 rfl rfl rfl ?_
      refine ws_region rfl ?_
      refine wl_op (k := 0) (k' := 1) rfl rfl rfl (wo_run rfl rfl (run_move rfl rfl) ?_)
      refine wl_op (k := 1) (k' := 2) rfl rfl rfl (wo_run rfl rfl (run_move rfl rfl) ?_)
      refine wl_op (k := 2) (k' := 3) rfl rfl rfl (wo_run rfl rfl (run_move rfl rfl) ?_)
      refine wl_op (k := 3) (k' := 4) rfl rfl rfl (wo_run rfl rfl (run_indexM (C := (cdV 22)) k rfl rfl rfl sl43 (by first | rfl | omega) hs (by first | omega | (simp only [List.length_set, List.length_append, List.length_replicate, List.length_singleton, List.length_cons, List.length_nil]; omega))) ?_)
      obtain ⟨hn1, hr1⟩ := hds.2 k (by first | omega | (simp only [List.length_set, List.length_append, List.length_replicate, List.length_singleton, List.length_cons, List.length_nil]; omega))
      have rmhr1 : (ga s k).length * 16 ≤ 140737488355328 := hr1.room
      refine wl_op (k := 4) (k' := 5) rfl rfl rfl (wo_run rfl rfl (run_load1 rfl rfl Try.underlying22 rfl (hs.cell S1.um (i := k) (by first | omega | (simp only [List.length_set, List.length_append, List.length_replicate, List.length_singleton, List.length_cons, List.length_nil]; omega)) 0 rfl (congrArg (fun n => some (Value.slice _ n _)) hn1))) ?_)
      refine wl_op (k := 5) (k' := 6) rfl rfl rfl (wo_cq rfl rfl rfl rfl rfl rfl rfl cf73 S1 (Det3_q (ga s k) (hr1.mono S1.un_XH) (hmay k (by omega)) S1.lend) ?_)
      rintro _ w2 S2 rfl; clear S1
      refine wl_end rfl ?_
      refine nm_sub [(0, _), (1, _), (7, _), (8, _), (5, _), (16, _)] ⟨rfl, rfl, rfl, rfl, rfl, rfl, trivial⟩ ?_
      refine nm_thn ?_
      refine ws_condN IX1_3_n22 IX1_3_n23 rfl rfl rfl rfl (fun hb16 => ?_) (fun hb16 => ?_)
      · refine ws_seqN IX1_3_n24 IX1_3_n25 rfl rfl rfl ?_
        refine ws_region rfl ?_
        refine wl_op (k := 0) (k' := 1) rfl rfl rfl (wo_run rfl rfl (run_move rfl rfl) ?_)
        refine wl_op (k := 1) (k' := 2) rfl rfl rfl (wo_run rfl rfl (run_assign rfl rfl) ?_)
        refine wl_end rfl ?_
        refine nm_sub [(4, _)] ⟨rfl, trivial⟩ ?_
        refine nm_thn ?_
        refine ws_ret hC [_] rfl rfl ⟨rfl, trivial⟩ ?_
        exact ⟨_, rfl, (S2.pick [] [] (by decide) trivial), (by rw [idxG_hit (by omega) hb16 hno]; rfl)⟩
      · refine ws_skip rfl ?_
        refine nm_blk ?_
        refine nm_sub [(0, _), (1, _), (7, _), (8, _)] ⟨rfl, rfl, rfl, rfl, trivial⟩ ?_
        refine nm_thn ?_
        refine ws_region rfl ?_
        refine wl_op (k := 0) (k' := 1) rfl rfl rfl (wo_run rfl rfl (run_add rfl rfl rfl (by first | omega | (simp only [List.length_set, List.length_append, List.length_replicate, List.length_singleton, List.length_cons, List.length_nil]; omega))) ?_)
        refine wl_op (k := 1) (k' := 2) rfl rfl rfl (wo_run rfl rfl (run_move rfl rfl) ?_)
        refine wl_end rfl ?_
        refine nm_lp ?_
        intro ax_ hax_
        refine ⟨_, ?hq2m, ⟨k + 1, rfl, hax_.sub ⟨rfl, rfl, rfl, rfl, trivial⟩, S2.pick [] [] (by decide) trivial, ?hq2f0, ?hq2f1⟩⟩
        case hq2f0 => omega
        case hq2f1 => (intro j hj; by_cases h : j = k; (subst h; exact hb16); exact hno j (by omega))
        case hq2m => omega
    · have hb9 := of_decide_eq_false hb9
      refine ws_exit rfl rfl ?_
      refine nm_sub [] trivial ?_
      refine nm_thn ?_
      refine ws_seqN IX1_3_n26 IX1_3_n27 rfl rfl rfl ?_
      refine ws_region rfl ?_
      refine wl_op (k := 0) (k' := 1) rfl rfl rfl (wo_run rfl rfl (run_assign rfl rfl) ?_)
      refine wl_end rfl ?_
      refine nm_thn ?_
      refine ws_ret hC [_] rfl rfl ⟨rfl, trivial⟩ ?_
      exact ⟨_, rfl, (S1.pick [] [] (by decide) trivial), (by rw [idxG_none (fun j hj => hno j (by omega))]; rfl)⟩

noncomputable def CF1_3_n0 : Code := Try.f71.body.getD .skip
noncomputable def CF1_3_n1 : Code := cL CF1_3_n0
noncomputable def CF1_3_n2 : Code := cR CF1_3_n0
noncomputable def CF1_3_n3 : Code := cL CF1_3_n2
noncomputable def CF1_3_n4 : Code := cR CF1_3_n2
set_option maxRecDepth 10000 in
theorem CF1_3_q {w : World} {M : Hp} {X : Fr} (s : List (List Tm)) {sA : Option Addr} {sc : Nat} {sv : List SlV} (hs : RdA (cdV 22) (M.un X.h) sA sc sv) (hds : Rd2 cdTm (M.un X.h) sv s) (hmay : ∀ j, j < s.length → mayT (ga s j) = true) (S : SH w M X []) : Cq Try.prog 71 [.slice sA sv.length sc, .func (.func 73) #[] #[]] w M X (fun u => u = .bool (s.any (fun l => decide (100 < szT l)))) := by
  unfold Cq
  have rmhs : sv.length * 24 ≤ 140737488355328 := hs.room
  refine calls_in (b := CF1_3_n0) Try.func71 rfl Try.ntmps71 rfl (fun C hC => ?_)
  refine ws_sub [(0, _), (1, _)] ⟨rfl, rfl, trivial⟩ ?_
  refine ws_seqN CF1_3_n1 CF1_3_n2 rfl rfl rfl ?_
  refine ws_region rfl ?_
  refine wl_op (k := 0) (k' := 1) rfl rfl rfl (wo_run rfl rfl (run_assign rfl rfl) ?_)
  refine wl_end rfl ?_
  refine nm_sub [(0, _), (1, _)] ⟨rfl, rfl, trivial⟩ ?_
  refine nm_thn ?_
  refine ws_seqN CF1_3_n3 CF1_3_n4 rfl rfl rfl ?_
  refine ws_region rfl ?_
  refine wl_op (k := 0) (k' := 1) rfl rfl rfl (wo_run rfl rfl (run_move rfl rfl) ?_)
  refine wl_op (k := 1) (k' := 2) rfl rfl rfl (wo_run rfl rfl (run_move rfl rfl) ?_)
  refine wl_op (k := 2) (k' := 3) rfl rfl rfl (wo_cq rfl rfl rfl rfl rfl rfl rfl cf111 S (IX1_3_q s (hs.mono S.un_XH) (hds.mono S.un_XH) (by exact hmay) S.lend) ?_)
  rintro _ w1 S1 rfl; clear S
  refine wl_op (k := 3) (k' := 4) rfl rfl rfl (wo_run rfl rfl (run_geq rfl rfl rfl) ?_)
  refine wl_op (k := 4) (k' := 5) rfl rfl rfl (wo_run rfl rfl (run_assign rfl rfl) ?_)
  refine wl_end rfl ?_
  refine nm_sub [(4, _)] ⟨rfl, trivial⟩ ?_
  refine nm_thn ?_
  refine ws_ret hC [_] rfl rfl ⟨rfl, trivial⟩ ?_
  exact ⟨_, rfl, (S1.pick [] [] (by decide) trivial), (by rw [← idxG_any]; rfl)⟩

end Go.Proofs.Ytkcighnochjlgaa
