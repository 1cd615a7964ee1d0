/- The law PolyTurns. -/
import Derived.Test.YtkcighnochjlgaaM6
import Derived.Test.YtkcighnochjlgaaE12
namespace Go.Proofs.Ytkcighnochjlgaa
open Go.ChangeShapes Go.WideShapes Go.ChangeAt Go.RowKit

section
variable {H : Type} {enc : TypeId × Value → H} {w : World}
set_option maxRecDepth 100000 in
theorem rdr_tm : Rdr Try.prog w enc 89 cdTm (fun _ => True) := fun n cs d pl h _ => by
  obtain ⟨xs, k, _, _, _, hl, hf⟩ := DataW.trod_struct Try.underlying89 h
  match xs, hl with
  | [y0, y1], _ =>
    have g0 := hf 0 _ rfl
    have g1 := hf 1 _ rfl
    obtain ⟨n0, e0, _⟩ := fld_int (j := 0) (y := y0) Try.underlying3 (by kernel_rfl) g0
    obtain ⟨n1, e1, _⟩ := fld_int (j := 1) (y := y1) Try.underlying3 (by kernel_rfl) g1
    refine ⟨⟨n0, n1⟩, fun j u hj hu => ?_, trivial⟩
    have hj2 : j < 2 := hj
    match j, hj2 with
    | 0, _ => injection hu with hu; subst hu; exact e0
    | 1, _ => injection hu with hu; subst hu; exact e1
end
theorem lawPolyTurns (x0 : List Tm) {A0 : Option Addr} {c0 : Nat} (x1 : Int) (W : World) (h0 : RdA cdTm (hp W) A0 c0 x0) :
    Calls Try.prog 4 #[.slice A0 x0.length c0, .int .i64 x1] W fun e W' => e = .returned (.bool true) ∧ Below W.heap.size W W' := by
  exact law_of_ct (PolyTurns_t x0 x1 h0 (SH.start W))
set_option maxRecDepth 100000 in
theorem polyTurns_lifted (os : Os) (started : os.Started) (H : Type) (enc : TypeId × Value → H) :
    ReturnsInHanded {} Try.checked os 4 .any (Rows.polyTurnsSpec.pre6 enc Try.prog Try.f4 Rows.polyTurnsRow.domain false) (Rows.polyTurnsSpec.post enc Try.prog Try.f4 false true false false) := by
  refine law_lift (C := Try.checked) (tb := 4) (by kernel_rfl) started (by kernel_rfl) Try.func4
    (ChangeSpec.witness6 (enc := enc) (C := Try.checked) false ⟨#[], #[.slice none 0 0, .int .i64 0], []⟩ 8 (by kernel_rfl) (by kernel_rfl) (by kernel_rfl) (by kernel_rfl))
    rfl (by kernel_rfl) (by kernel_rfl) rfl Try.underlying4 ?_ ?_
  · intro ds hds
    match ds, hds with
    | [d0, d1], _ => rfl
  · intro W base args ds p hval hA _ hlt hsz
    rw [Try.params4] at hA hval hsz
    obtain ⟨v0, vs0, d0, ds0, p0, q0, hargs, rfl, rfl, h0, r0⟩ := trodAll_cons hA
    obtain ⟨v1, vs1, d1, ds1, p1, q1, rfl, rfl, rfl, h1, r1⟩ := trodAll_cons r0
    obtain ⟨rfl, rfl, rfl⟩ := trodAll_nil r1
    obtain rfl : args = #[v0, v1] := by cases args; simp_all
    obtain ⟨A0, c0, xs0, rfl, g0, _⟩ := open_sl (C := cdTm) Try.underlying22 (by kernel_rfl) (by kernel_rfl) (by decide) rdr_tm (hval 0 22 v0 rfl rfl) h0 hsz (j := 0) rfl rfl
    obtain ⟨a1, rfl, rfl, rfl, w1⟩ := open_int Try.underlying3 (hval 1 3 v1 rfl rfl) h1
    exact lawPolyTurns xs0 a1 W g0

theorem polyTurns_holds : Rows.PolyTurnsSaid :=
  OpenClaim.holds_of_wide 4 Try.f4 rfl rfl rfl rfl rfl rfl rfl ⟨rfl, rfl, rfl, rfl, rfl⟩ rfl rfl rfl rfl rfl (by kernel_rfl) Try.func4 (by kernel_rfl)
    (of_decide_eq_true (by kernel_rfl)) (by unfold Func.isWrapper; first | (rw [if_pos (by decide +kernel)]; kernel_rfl) | (rw [if_neg (by decide +kernel)]; exact ⟨rfl, rfl⟩))
    (fun os started H enc _ => polyTurns_lifted os started H enc)
#print axioms polyTurns_holds
end Go.Proofs.Ytkcighnochjlgaa
