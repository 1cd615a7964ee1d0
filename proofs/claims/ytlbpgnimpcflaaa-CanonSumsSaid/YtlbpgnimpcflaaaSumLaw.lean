/- The law CanonSums. -/
import Derived.Test.YtlbpgnimpcflaaaT4
import Derived.Test.YtlbpgnimpcflaaaEo
namespace Go.Proofs.Ytlbpgnimpcflaaa
open Go.ChangeShapes Go.WideShapes Go.ChangeAt Go.RowKit

theorem lawSums (u : Value) (a : Dg) (x : Int) (v : Value) (b : Dg) (y : Int) (W : World) (ha : IsDg W W.heap.size u a) (hx : (Lit.int .i64 x).wf = true) (hb : IsDg W W.heap.size v b) (hy : (Lit.int .i64 y).wf = true) :
    Calls Try.prog 4 #[u, .int .i64 x, v, .int .i64 y] W fun e W' => e = .returned (.bool true) ∧ Below W.heap.size W W' := by
  obtain ⟨A, c, rfl, ha'⟩ := ha.rd
  obtain ⟨B, e, rfl, hb'⟩ := hb.rd
  exact law_of_ct (CanonSums_t a x b y ha' hb' (wf_i64 hx) (wf_i64 hy) (SH.start W))
set_option maxRecDepth 100000 in
theorem canonSums_lifted (os : Os) (started : os.Started) (H : Type) (enc : TypeId × Value → H) :
    ReturnsInHanded {} Try.checked os 4 .any (Rows.canonSumsSpec.pre6 enc Try.prog Try.f4 Rows.canonSumsRow.domain false) (Rows.canonSumsSpec.post enc Try.prog Try.f4 false true false false) := by
  refine law_lift (C := Try.checked) (tb := 4) (by kernel_rfl) started (by kernel_rfl) Try.func4
    (ChangeSpec.witness6 (enc := enc) (C := Try.checked) false ⟨#[], #[.agg #[.slice none 0 0, .int .i64 0], .int .i64 0, .agg #[.slice none 0 0, .int .i64 0], .int .i64 0], []⟩ 8 (by kernel_rfl) (by kernel_rfl) (by kernel_rfl) (by kernel_rfl))
    rfl (by kernel_rfl) (by kernel_rfl) rfl Try.underlying4 ?_ ?_
  · intro ds hds
    match ds, hds with
    | [d0, d1, d2, d3], _ => rfl
  · intro W base args ds p hval hA _ hlt hsz
    rw [Try.params4] at hA hval hsz
    obtain ⟨v0, vs0, d0, ds0, p0, q0, hargs, rfl, rfl, h0, r0⟩ := trodAll_cons hA
    obtain ⟨v1, vs1, d1, ds1, p1, q1, rfl, rfl, rfl, h1, r1⟩ := trodAll_cons r0
    obtain ⟨v2, vs2, d2, ds2, p2, q2, rfl, rfl, rfl, h2, r2⟩ := trodAll_cons r1
    obtain ⟨v3, vs3, d3, ds3, p3, q3, rfl, rfl, rfl, h3, r3⟩ := trodAll_cons r2
    obtain ⟨rfl, rfl, rfl⟩ := trodAll_nil r3
    obtain rfl : args = #[v0, v1, v2, v3] := by cases args; simp_all
    obtain ⟨a0, i0⟩ := open_Dg (hval 0 27 v0 rfl rfl) h0 (fun x hx => hlt x (by simp [hx])) hsz (j := 0) rfl rfl
    obtain ⟨a1, rfl, rfl, rfl, w1⟩ := open_int Try.underlying3 (hval 1 3 v1 rfl rfl) h1
    obtain ⟨a2, i2⟩ := open_Dg (hval 2 27 v2 rfl rfl) h2 (fun x hx => hlt x (by simp [hx])) hsz (j := 2) rfl rfl
    obtain ⟨a3, rfl, rfl, rfl, w3⟩ := open_int Try.underlying3 (hval 3 3 v3 rfl rfl) h3
    exact lawSums v0 a0 a1 v2 a2 a3 W i0 w1 i2 w3

theorem canonSums_holds : Rows.CanonSumsSaid :=
  OpenClaim.holds_of_wide 4 Try.f4 rfl rfl rfl rfl rfl rfl rfl ⟨rfl, rfl, rfl, rfl, rfl⟩ rfl rfl rfl rfl rfl (by kernel_rfl) Try.func4 (by kernel_rfl)
    (of_decide_eq_true (by kernel_rfl)) (by unfold Func.isWrapper; first | (rw [if_pos (by decide +kernel)]; kernel_rfl) | (rw [if_neg (by decide +kernel)]; exact ⟨rfl, rfl⟩))
    (fun os started H enc _ => canonSums_lifted os started H enc)
#print axioms canonSums_holds
end Go.Proofs.Ytlbpgnimpcflaaa
