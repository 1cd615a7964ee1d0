/- The law PolyTables. -/
import Derived.Test.YtkcighnochjlgaaM12
import Derived.Test.YtkcighnochjlgaaE12
namespace Go.Proofs.Ytkcighnochjlgaa
open Go.ChangeShapes Go.WideShapes Go.ChangeAt Go.RowKit

section
variable {H : Type} {enc : TypeId × Value → H} {w : World}
set_option maxRecDepth 100000 in
theorem rdr_tm : Rdr Try.prog w enc 89 cdTm (fun _ => True) := fun n cs d pl h _ => by
  obtain ⟨xs, k, _, _, _, hl, hf⟩ := DataW.trod_struct Try.underlying89 h
  match xs, hl with
  | [y0, y1], _ =>
    have g0 := hf 0 _ rfl
    have g1 := hf 1 _ rfl
    obtain ⟨n0, e0, _⟩ := fld_int (j := 0) (y := y0) Try.underlying3 (by kernel_rfl) g0
    obtain ⟨n1, e1, _⟩ := fld_int (j := 1) (y := y1) Try.underlying3 (by kernel_rfl) g1
    refine ⟨⟨n0, n1⟩, fun j u hj hu => ?_, trivial⟩
    have hj2 : j < 2 := hj
    match j, hj2 with
    | 0, _ => injection hu with hu; subst hu; exact e0
    | 1, _ => injection hu with hu; subst hu; exact e1
end
theorem slok3 {w : World} {ok : Tm → Prop} : ∀ {ss : List (List SlV)}, (∀ vs ∈ ss, ∀ s ∈ vs, SlOk cdTm w ok s) → ∃ nn, RdD cdTm (hp w) ss nn
  | [], _ => ⟨[], RdD.nil_⟩
  | vs :: ss, h => by
    obtain ⟨nn, h1⟩ := slok3 (ss := ss) (fun v hv => h v (List.mem_cons_of_mem _ hv))
    obtain ⟨xss, h2, _⟩ := slok2 (h vs (List.mem_cons_self ..))
    refine ⟨xss :: nn, by simp [h1.1], fun i hi => ?_⟩
    cases i with
    | zero => exact h2
    | succ i => exact h1.2 i (by simpa using hi)
theorem ptab_of {w : World} {vs : List SlV} (h : ∀ s ∈ vs, SlOk (cdV 22) w (SlOk cdTm w (fun _ => True)) s) : ∃ ss nn, Rd2 (cdV 22) (hp w) vs ss ∧ RdD cdTm (hp w) ss nn := by
  obtain ⟨ss, h1, h2⟩ := slok2 h
  obtain ⟨nn, h3⟩ := slok3 h2
  exact ⟨ss, nn, h1, h3⟩
theorem lawPolyTables {A0 : Option Addr} {c0 : Nat} {s0 : List SlV} (W : World) (h0 : RdA (cdV 43) (hp W) A0 c0 s0) (hd0 : ∀ s ∈ s0, SlOk (cdV 22) W (SlOk cdTm W (fun _ => True)) s) :
    Calls Try.prog 6 #[.slice A0 s0.length c0] W fun e W' => e = .returned (.bool true) ∧ Below W.heap.size W W' := by
  obtain ⟨y0, x0, hx0, hy0⟩ := ptab_of hd0
  exact law_of_ct (PolyTables_t x0 h0 hx0 hy0 (SH.start W))
set_option maxRecDepth 100000 in
theorem polyTables_lifted (os : Os) (started : os.Started) (H : Type) (enc : TypeId × Value → H) :
    ReturnsInHanded {} Try.checked os 6 .any (Rows.polyTablesSpec.pre6 enc Try.prog Try.f6 Rows.polyTablesRow.domain false) (Rows.polyTablesSpec.post enc Try.prog Try.f6 false true false false) := by
  refine law_lift (C := Try.checked) (tb := 4) (by kernel_rfl) started (by kernel_rfl) Try.func6
    (ChangeSpec.witness6 (enc := enc) (C := Try.checked) false ⟨#[], #[.slice none 0 0], []⟩ 8 (by kernel_rfl) (by kernel_rfl) (by kernel_rfl) (by kernel_rfl))
    rfl (by kernel_rfl) (by kernel_rfl) rfl Try.underlying4 ?_ ?_
  · intro ds hds
    match ds, hds with
    | [d0], _ => rfl
  · intro W base args ds p hval hA _ hlt hsz
    rw [Try.params6] at hA hval hsz
    obtain ⟨v0, vs0, d0, ds0, p0, q0, hargs, rfl, rfl, h0, r0⟩ := trodAll_cons hA
    obtain ⟨rfl, rfl, rfl⟩ := trodAll_nil r0
    obtain rfl : args = #[v0] := by cases args; simp_all
    obtain ⟨A0, c0, xs0, rfl, g0, ok0⟩ := open_sl (C := cdV 43) Try.underlying37 (by kernel_rfl) (by kernel_rfl) (by decide) (rdr_slice (C := cdV 22) Try.underlying43 (by kernel_rfl) (by kernel_rfl) (by decide) (rdr_slice (C := cdTm) Try.underlying22 (by kernel_rfl) (by kernel_rfl) (by decide) rdr_tm)) (hval 0 37 v0 rfl rfl) h0 hsz (j := 0) rfl rfl
    exact lawPolyTables  W g0 ok0

theorem polyTables_holds : Rows.PolyTablesSaid :=
  OpenClaim.holds_of_wide 6 Try.f6 rfl rfl rfl rfl rfl rfl rfl ⟨rfl, rfl, rfl, rfl, rfl⟩ rfl rfl rfl rfl rfl (by kernel_rfl) Try.func6 (by kernel_rfl)
    (of_decide_eq_true (by kernel_rfl)) (by unfold Func.isWrapper; first | (rw [if_pos (by decide +kernel)]; kernel_rfl) | (rw [if_neg (by decide +kernel)]; exact ⟨rfl, rfl⟩))
    (fun os started H enc _ => polyTables_lifted os started H enc)
#print axioms polyTables_holds
end Go.Proofs.Ytkcighnochjlgaa
