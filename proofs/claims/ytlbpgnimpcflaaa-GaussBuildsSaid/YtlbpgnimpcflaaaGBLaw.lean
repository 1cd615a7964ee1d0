/- The law GaussBuilds. -/
import Derived.Test.YtlbpgnimpcflaaaG5
import Derived.Test.YtlbpgnimpcflaaaE12
namespace Go.Proofs.Ytlbpgnimpcflaaa
open Go.ChangeShapes Go.WideShapes Go.ChangeAt Go.RowKit

section
variable {H : Type} {enc : TypeId × Value → H} {w : World}
set_option maxRecDepth 100000 in
theorem rdr_vi : Rdr Try.prog w enc 70 cdVi (fun _ => True) := fun n cs d pl h _ => by
  obtain ⟨xs, k, _, _, _, hl, hf⟩ := DataW.trod_struct Try.underlying70 h
  match xs, hl with
  | [y0, y1], _ =>
    have g0 := hf 0 _ rfl
    have g1 := hf 1 _ rfl
    obtain ⟨n0, e0, _⟩ := fld_int (j := 0) (y := y0) Try.underlying3 (by kernel_rfl) g0
    obtain ⟨n1, e1⟩ := fld_bool (j := 1) (y := y1) Try.underlying4 (by kernel_rfl) g1
    refine ⟨⟨n0, n1⟩, fun j u hj hu => ?_, trivial⟩
    have hj2 : j < 2 := hj
    match j, hj2 with
    | 0, _ => injection hu with hu; subst hu; exact e0
    | 1, _ => injection hu with hu; subst hu; exact e1
end
theorem lawBuilds (l : List (List Vi)) (plus : List Bool) (x : Int) (W : World) {lA : Option Addr} {lc : Nat} {lv : List SlV} (hl : RdA (cdV 24) (hp W) lA lc lv) (hdl : Rd2 cdVi (hp W) lv l) {pA : Option Addr} {pc : Nat} (hp' : RdA cdBool (hp W) pA pc plus) (hx : (Lit.int .i64 x).wf = true) :
    Calls Try.prog 3 #[.slice lA lv.length lc, .slice pA plus.length pc, .int .i64 x] W fun e W' => e = .returned (.bool true) ∧ Below W.heap.size W W' :=
  law_of_ct (GaussBuilds_t l plus x hl hdl hp' (wfI_of hx) (SH.start W))
set_option maxRecDepth 100000 in
theorem gaussBuilds_lifted (os : Os) (started : os.Started) (H : Type) (enc : TypeId × Value → H) :
    ReturnsInHanded {} Try.checked os 3 .any (Rows.gaussBuildsSpec.pre6 enc Try.prog Try.f3 Rows.gaussBuildsRow.domain false) (Rows.gaussBuildsSpec.post enc Try.prog Try.f3 false true false false) := by
  refine law_lift (C := Try.checked) (tb := 4) (by kernel_rfl) started (by kernel_rfl) Try.func3
    (ChangeSpec.witness6 (enc := enc) (C := Try.checked) false ⟨#[], #[.slice none 0 0, .slice none 0 0, .int .i64 0], []⟩ 8 (by kernel_rfl) (by kernel_rfl) (by kernel_rfl) (by kernel_rfl))
    rfl (by kernel_rfl) (by kernel_rfl) rfl Try.underlying4 ?_ ?_
  · intro ds hds
    match ds, hds with
    | [d0, d1, d2], _ => rfl
  · intro W base args ds p hval hA _ hlt hsz
    rw [Try.params3] at hA hval hsz
    obtain ⟨v0, vs0, d0, ds0, p0, q0, hargs, rfl, rfl, h0, r0⟩ := trodAll_cons hA
    obtain ⟨v1, vs1, d1, ds1, p1, q1, rfl, rfl, rfl, h1, r1⟩ := trodAll_cons r0
    obtain ⟨v2, vs2, d2, ds2, p2, q2, rfl, rfl, rfl, h2, r2⟩ := trodAll_cons r1
    obtain ⟨rfl, rfl, rfl⟩ := trodAll_nil r2
    obtain rfl : args = #[v0, v1, v2] := by cases args; simp_all
    obtain ⟨A0, c0, xs0, rfl, r00, ok0⟩ := open_sl (C := cdV 24) Try.underlying22 (by kernel_rfl) (by kernel_rfl) (by decide) (rdr_slice (C := cdVi) Try.underlying24 (by kernel_rfl) (by kernel_rfl) (by decide) rdr_vi) (hval 0 22 v0 rfl rfl) h0 hsz (j := 0) rfl rfl
    obtain ⟨l0, r0d, _⟩ := slok2 ok0
    obtain ⟨A1, c1, xs1, rfl, r11, _⟩ := open_sl (C := cdBool) Try.underlying23 (by kernel_rfl) (by kernel_rfl) (by decide) (rdr_bool Try.underlying4) (hval 1 23 v1 rfl rfl) h1 hsz (j := 1) rfl rfl
    obtain ⟨a2, rfl, rfl, rfl, w2⟩ := open_int Try.underlying3 (hval 2 3 v2 rfl rfl) h2
    exact lawBuilds l0 xs1 a2 W r00 r0d r11 w2

theorem gaussBuilds_holds : Rows.GaussBuildsSaid :=
  OpenClaim.holds_of_wide 3 Try.f3 rfl rfl rfl rfl rfl rfl rfl ⟨rfl, rfl, rfl, rfl, rfl⟩ rfl rfl rfl rfl rfl (by kernel_rfl) Try.func3 (by kernel_rfl)
    (of_decide_eq_true (by kernel_rfl)) (by unfold Func.isWrapper; first | (rw [if_pos (by decide +kernel)]; kernel_rfl) | (rw [if_neg (by decide +kernel)]; exact ⟨rfl, rfl⟩))
    (fun os started H enc _ => gaussBuilds_lifted os started H enc)
#print axioms gaussBuilds_holds
end Go.Proofs.Ytlbpgnimpcflaaa
