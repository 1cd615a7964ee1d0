/- Part 3 of the proof of the law CanonForms: the walks through its functions and the plain laws that they need. -/
import Derived.Test.YtefkjfcncpmneaaCfZ2
import Derived.Sort.OwnSortedInts
import Derived.Shelf.Sort.Plain
import Derived.Shelf.Slices.In.SortNone
import Derived.Test.YtefkjfcncpmneaaProg
set_option linter.unusedSimpArgs false
set_option linter.unusedVariables false
namespace Go.Proofs.Ytefkjfcncpmneaa
open Go.ChangeShapes Go.WideShapes Go.ChangeAt Go.RowKit
theorem sz3 : (Try.prog.info? 3).map (·.size) = some 1 := by kernel_rfl
theorem ce3 : Nat.blt 0 (Try.prog.cellsOf 3) = true := by kernel_rfl
theorem nf3 : ∃ i, Try.prog.info? 3 = some i := Option.isSome_iff_exists.1 (by kernel_rfl)
theorem zr3 : (Try.prog.info? 3).map (·.zero) = some (some (.int .i64 0)) := by kernel_rfl
theorem sz4 : (Try.prog.info? 4).map (·.size) = some 1 := by kernel_rfl
theorem ce4 : Nat.blt 0 (Try.prog.cellsOf 4) = true := by kernel_rfl
theorem nf4 : ∃ i, Try.prog.info? 4 = some i := Option.isSome_iff_exists.1 (by kernel_rfl)
theorem sz22 : (Try.prog.info? 22).map (·.size) = some 1 := by kernel_rfl
theorem ce22 : Nat.blt 0 (Try.prog.cellsOf 22) = true := by kernel_rfl
theorem nf22 : ∃ i, Try.prog.info? 22 = some i := Option.isSome_iff_exists.1 (by kernel_rfl)
theorem sz24 : (Try.prog.info? 24).map (·.size) = some 2 := by kernel_rfl
theorem ce24 : Nat.blt 0 (Try.prog.cellsOf 24) = true := by kernel_rfl
theorem nf24 : ∃ i, Try.prog.info? 24 = some i := Option.isSome_iff_exists.1 (by kernel_rfl)
theorem zr24 : (Try.prog.info? 24).map (·.zero) = some (some (.agg [.slice none 0 0, .int .i64 0].toArray)) := by kernel_rfl
theorem st24 : StOf Try.prog 24 [(0, 1), (1, 1)] [.slice none 0 0, .int .i64 0] := ⟨_, Try.underlying24, by kernel_rfl, ⟨⟨rfl, by kernel_rfl⟩, ⟨rfl, by kernel_rfl⟩, trivial⟩⟩
theorem sz33 : (Try.prog.info? 33).map (·.size) = some 1 := by kernel_rfl
theorem ce33 : Nat.blt 0 (Try.prog.cellsOf 33) = true := by kernel_rfl
theorem nf33 : ∃ i, Try.prog.info? 33 = some i := Option.isSome_iff_exists.1 (by kernel_rfl)
theorem sz59 : (Try.prog.info? 59).map (·.size) = some 5 := by kernel_rfl
theorem zr59 : (Try.prog.info? 59).map (·.zero) = some (some (.agg [.int .i64 0, .int .i64 0, .int .i64 0, .int .i64 0, .bool false].toArray)) := by kernel_rfl
theorem st59 : StOf Try.prog 59 [(0, 1), (1, 1), (2, 1), (3, 1), (4, 1)] [.int .i64 0, .int .i64 0, .int .i64 0, .int .i64 0, .bool false] := ⟨_, Try.underlying59, by kernel_rfl, ⟨⟨rfl, by kernel_rfl⟩, ⟨rfl, by kernel_rfl⟩, ⟨rfl, by kernel_rfl⟩, ⟨rfl, by kernel_rfl⟩, ⟨rfl, by kernel_rfl⟩, trivial⟩⟩
theorem sz61 : (Try.prog.info? 61).map (·.size) = some 2 := by kernel_rfl
theorem zr61 : (Try.prog.info? 61).map (·.zero) = some (some (.agg [.int .i64 0, .int .i64 0].toArray)) := by kernel_rfl
theorem st61 : StOf Try.prog 61 [(0, 1), (1, 1)] [.int .i64 0, .int .i64 0] := ⟨_, Try.underlying61, by kernel_rfl, ⟨⟨rfl, by kernel_rfl⟩, ⟨rfl, by kernel_rfl⟩, trivial⟩⟩
theorem ce91 : Nat.blt 0 (Try.prog.cellsOf 91) = true := by kernel_rfl
theorem nf91 : ∃ i, Try.prog.info? 91 = some i := Option.isSome_iff_exists.1 (by kernel_rfl)
theorem sz108 : (Try.prog.info? 108).map (·.size) = some 2 := by kernel_rfl
theorem zr108 : (Try.prog.info? 108).map (·.zero) = some (some (.agg [.slice none 0 0, .slice none 0 0].toArray)) := by kernel_rfl
theorem st108 : StOf Try.prog 108 [(0, 1), (1, 1)] [.slice none 0 0, .slice none 0 0] := ⟨_, Try.underlying108, by kernel_rfl, ⟨⟨rfl, by kernel_rfl⟩, ⟨rfl, by kernel_rfl⟩, trivial⟩⟩
theorem sz114 : (Try.prog.info? 114).map (·.size) = some 1 := by kernel_rfl
theorem zr114 : (Try.prog.info? 114).map (·.zero) = some (some (.map none)) := by kernel_rfl
theorem zr136 : (Try.prog.info? 136).map (·.zero) = some (some (.agg [.int .i64 0, .int .i64 0, .int .i64 0, .int .i64 0].toArray)) := by kernel_rfl
theorem sz163 : (Try.prog.info? 163).map (·.size) = some 2 := by kernel_rfl
theorem zr163 : (Try.prog.info? 163).map (·.zero) = some (some (.agg [.int .i64 0, .int .i64 0].toArray)) := by kernel_rfl
theorem st163 : StOf Try.prog 163 [(0, 1), (1, 1)] [.int .i64 0, .int .i64 0] := ⟨_, Try.underlying163, by kernel_rfl, ⟨⟨rfl, by kernel_rfl⟩, ⟨rfl, by kernel_rfl⟩, trivial⟩⟩
theorem cf8 : ∀ args w, (callFunc 8 args).run Try.prog w = .ok (.enter 8 args) w := enter_ok (c := Try.f8.body.getD .skip) Try.func8 (by decide) rfl
theorem cf9 : ∀ args w, (callFunc 9 args).run Try.prog w = .ok (.enter 9 args) w := enter_ok (c := Try.f9.body.getD .skip) Try.func9 (by decide) rfl
theorem cf10 : ∀ args w, (callFunc 10 args).run Try.prog w = .ok (.enter 10 args) w := enter_ok (c := Try.f10.body.getD .skip) Try.func10 (by decide) rfl
theorem cf11 : ∀ args w, (callFunc 11 args).run Try.prog w = .ok (.enter 11 args) w := enter_ok (c := Try.f11.body.getD .skip) Try.func11 (by decide) rfl
theorem cf12 : ∀ args w, (callFunc 12 args).run Try.prog w = .ok (.enter 12 args) w := enter_ok (c := Try.f12.body.getD .skip) Try.func12 (by decide) rfl
theorem cf13 : ∀ args w, (callFunc 13 args).run Try.prog w = .ok (.enter 13 args) w := enter_ok (c := Try.f13.body.getD .skip) Try.func13 (by decide) rfl
theorem cf27 : ∀ args w, (callFunc 27 args).run Try.prog w = .ok (.enter 27 args) w := enter_ok (c := Try.f27.body.getD .skip) Try.func27 (by decide) rfl
theorem cf28 : ∀ args w, (callFunc 28 args).run Try.prog w = .ok (.enter 28 args) w := enter_ok (c := Try.f28.body.getD .skip) Try.func28 (by decide) rfl
theorem cf29 : ∀ args w, (callFunc 29 args).run Try.prog w = .ok (.enter 29 args) w := enter_ok (c := Try.f29.body.getD .skip) Try.func29 (by decide) rfl
theorem cf30 : ∀ args w, (callFunc 30 args).run Try.prog w = .ok (.enter 30 args) w := enter_ok (c := Try.f30.body.getD .skip) Try.func30 (by decide) rfl
theorem cf31 : ∀ args w, (callFunc 31 args).run Try.prog w = .ok (.enter 31 args) w := enter_ok (c := Try.f31.body.getD .skip) Try.func31 (by decide) rfl
theorem cf32 : ∀ args w, (callFunc 32 args).run Try.prog w = .ok (.enter 32 args) w := enter_ok (c := Try.f32.body.getD .skip) Try.func32 (by decide) rfl
theorem cf33 : ∀ args w, (callFunc 33 args).run Try.prog w = .ok (.enter 33 args) w := enter_ok (c := Try.f33.body.getD .skip) Try.func33 (by decide) rfl
theorem cf34 : ∀ args w, (callFunc 34 args).run Try.prog w = .ok (.enter 34 args) w := enter_ok (c := Try.f34.body.getD .skip) Try.func34 (by decide) rfl
theorem cf61 : ∀ args w, (callFunc 61 args).run Try.prog w = .ok (.enter 61 args) w := enter_ok (c := Try.f61.body.getD .skip) Try.func61 (by decide) rfl
theorem cf62 : ∀ args w, (callFunc 62 args).run Try.prog w = .ok (.enter 62 args) w := enter_ok (c := Try.f62.body.getD .skip) Try.func62 (by decide) rfl
theorem cf63 : ∀ args w, (callFunc 63 args).run Try.prog w = .ok (.enter 63 args) w := enter_ok (c := Try.f63.body.getD .skip) Try.func63 (by decide) rfl
theorem cf64 : ∀ args w, (callFunc 64 args).run Try.prog w = .ok (.enter 64 args) w := enter_ok (c := Try.f64.body.getD .skip) Try.func64 (by decide) rfl
theorem cf65 : ∀ args w, (callFunc 65 args).run Try.prog w = .ok (.enter 65 args) w := enter_ok (c := Try.f65.body.getD .skip) Try.func65 (by decide) rfl
theorem cf66 : ∀ args w, (callFunc 66 args).run Try.prog w = .ok (.enter 66 args) w := enter_ok (c := Try.f66.body.getD .skip) Try.func66 (by decide) rfl
theorem cf67 : ∀ args w, (callFunc 67 args).run Try.prog w = .ok (.enter 67 args) w := enter_ok (c := Try.f67.body.getD .skip) Try.func67 (by decide) rfl
theorem cf68 : ∀ args w, (callFunc 68 args).run Try.prog w = .ok (.enter 68 args) w := enter_ok (c := Try.f68.body.getD .skip) Try.func68 (by decide) rfl
theorem cf69 : ∀ args w, (callFunc 69 args).run Try.prog w = .ok (.enter 69 args) w := enter_ok (c := Try.f69.body.getD .skip) Try.func69 (by decide) rfl
theorem cf94 : ∀ args w, (callFunc 94 args).run Try.prog w = .ok (.enter 94 args) w := enter_ok (c := Try.f94.body.getD .skip) Try.func94 (by decide) rfl
theorem cf95 : ∀ args w, (callFunc 95 args).run Try.prog w = .ok (.enter 95 args) w := enter_ok (c := Try.f95.body.getD .skip) Try.func95 (by decide) rfl
theorem cf96 : ∀ args w, (callFunc 96 args).run Try.prog w = .ok (.enter 96 args) w := enter_ok (c := Try.f96.body.getD .skip) Try.func96 (by decide) rfl
theorem cf97 : ∀ args w, (callFunc 97 args).run Try.prog w = .ok (.enter 97 args) w := enter_ok (c := Try.f97.body.getD .skip) Try.func97 (by decide) rfl
theorem cf98 : ∀ args w, (callFunc 98 args).run Try.prog w = .ok (.enter 98 args) w := enter_ok (c := Try.f98.body.getD .skip) Try.func98 (by decide) rfl
theorem cf99 : ∀ args w, (callFunc 99 args).run Try.prog w = .ok (.enter 99 args) w := enter_ok (c := Try.f99.body.getD .skip) Try.func99 (by decide) rfl
theorem cf117 : ∀ args w, (callFunc 117 args).run Try.prog w = .ok (.enter 117 args) w := enter_ok (c := Try.f117.body.getD .skip) Try.func117 (by decide) rfl
theorem cf118 : ∀ args w, (callFunc 118 args).run Try.prog w = .ok (.enter 118 args) w := enter_ok (c := Try.f118.body.getD .skip) Try.func118 (by decide) rfl
theorem cf121 : ∀ args w, (callFunc 121 args).run Try.prog w = .ok (.enter 121 args) w := enter_ok (c := Try.f121.body.getD .skip) Try.func121 (by decide) rfl
theorem cf122 : ∀ args w, (callFunc 122 args).run Try.prog w = .ok (.enter 122 args) w := enter_ok (c := Try.f122.body.getD .skip) Try.func122 (by decide) rfl
end Go.Proofs.Ytefkjfcncpmneaa
namespace Go.Proofs.Ytefkjfcncpmneaa
open Go.ChangeShapes Go.WideShapes Go.ChangeAt Go.RowKit
theorem mk3 : MapK Try.prog 3 (Value.int .i64) := mapK_int Try.underlying3
theorem se59 : StEq Try.prog 59 [(0, false), (1, false), (2, false), (3, false), (4, true)] := ⟨[_, _, _, _, _], Try.underlying59, ⟨⟨by kernel_rfl, rfl, ⟨_, Try.underlying3⟩⟩, ⟨by kernel_rfl, rfl, ⟨_, Try.underlying3⟩⟩, ⟨by kernel_rfl, rfl, ⟨_, Try.underlying3⟩⟩, ⟨by kernel_rfl, rfl, ⟨_, Try.underlying3⟩⟩, ⟨by kernel_rfl, rfl, Try.underlying4⟩, trivial⟩, by kernel_rfl, by kernel_rfl⟩
theorem sl33 : SlOf Try.prog 33 cdInt := ⟨.int .i64 0, Try.underlying33, by kernel_rfl, rfl, by decide, by decide⟩
theorem sl34 : SlOf Try.prog 34 (cdV 33) := ⟨.slice none 0 0, Try.underlying34, by kernel_rfl, rfl, by decide, by decide⟩
theorem sl68 : SlOf Try.prog 68 cdBool := ⟨.bool false, Try.underlying68, by kernel_rfl, rfl, by decide, by decide⟩
end Go.Proofs.Ytefkjfcncpmneaa
namespace Go.Proofs.Ytefkjfcncpmneaa
open Go.ChangeShapes Go.WideShapes Go.ChangeAt Go.RowKit
/-- A dart: an arc with a direction. -/
structure Da where
 a : Int
 b : Bool
instance : Inhabited Da := ⟨⟨0, false⟩⟩
instance : DecidableEq Da := fun x y => decidable_of_iff (x.a = y.a ∧ x.b = y.b) ⟨fun h => by cases x; cases y; simp at h; simp [h], fun h => by rw [h]; exact ⟨rfl, rfl⟩⟩
theorem arcAt_bd {d : Dg} (h : arcsB d = true) {i k : Nat} (hi : i < d.crs.length) (hk : k < 4) : 1 ≤ arcAt d i k ∧ arcAt d i k ≤ 2 * (d.crs.length : Int) := by
 have := arcs_rng h (j := 4 * i + k) (by omega)
 unfold arcJ at this
 rwa [show (4 * i + k) / 4 = i by omega, show (4 * i + k) % 4 = k by omega] at this
theorem endD {d : Dg} (h : arcsB d = true) {a : Int} (ha : 1 ≤ a ∧ a ≤ 2 * (d.crs.length : Int)) (b : Bool) : (endOf d a b).1 < d.crs.length ∧ (endOf d a b).2 < 4 ∧ ga (tabL d b (4 * d.crs.length)) a.toNat = endOf d a b ∧ a.toNat < 2 * d.crs.length + 1 ∧ a = (a.toNat : Int) := by
 have e : a = (a.toNat : Int) := by omega
 obtain ⟨h1, h2, h3, _⟩ := endOf_lt h (a := a.toNat) (by omega) (by omega) b
 rw [← e] at h1 h2 h3
 refine ⟨h1, h2, ?_, by omega, e⟩
 rw [tabL_get (by omega), ← e]
 exact h3
theorem sl22 : SlOf Try.prog 22 cdCr := ⟨.agg [.int .i64 0, .int .i64 0, .int .i64 0, .int .i64 0, .bool false].toArray, Try.underlying22, by kernel_rfl, rfl, by decide, by decide⟩
theorem sl91 : SlOf Try.prog 91 cdPl := ⟨.agg [.int .i64 0, .int .i64 0].toArray, Try.underlying91, by kernel_rfl, rfl, by decide, by decide⟩
noncomputable def Arc_n0 : Code := Try.f94.body.getD .skip
noncomputable def Arc_n1 : Code := cL Arc_n0
noncomputable def Arc_n2 : Code := cR Arc_n0
noncomputable def Arc_n3 : Code := cL Arc_n2
noncomputable def Arc_n4 : Code := cR Arc_n2
set_option maxRecDepth 10000 in
theorem Arc_q {w : World} {M : Hp} {X : Fr} (x : Cr) (k : Nat) (hk : k < 4) (S : SH w M X []) : Cq Try.prog 94 [.agg [.int .i64 x.a, .int .i64 x.b, .int .i64 x.c, .int .i64 x.d, .bool x.plus].toArray, .int .i64 (k : Int)] w M X (fun u => u = .int .i64 (crArc x k)) := by
 unfold Cq
 refine calls_in (b := Arc_n0) Try.func94 rfl Try.ntmps94 rfl (fun C hC => ?_)
 refine ws_sub [(0, _), (1, _)] ⟨rfl, rfl, trivial⟩ ?_
 refine ws_seqN Arc_n1 Arc_n2 rfl rfl rfl ?_
 refine ws_region rfl ?_
 refine wlo 0 1 rfl rfl rfl (wo_box (l := [_, _, _, _, _]) rfl rfl rfl rfl rfl S ?_)
 intro gb1 w1 S1; clear S
 refine wla 1 2 rfl rfl rfl rfl rfl rfl rfl ?_
 refine wl_end rfl ?_
 refine nm_sub [(1, _), (2, _)] ⟨rfl, rfl, trivial⟩ ?_
 refine nm_thn ?_
 refine ws_seqN Arc_n3 Arc_n4 rfl rfl rfl ?_
 refine ws_region rfl ?_
 refine wlo 0 1 rfl rfl rfl (wo_run rfl rfl (run_fieldAddr rfl rfl Try.underlying59 rfl (ce3) (nf3)) ?_)
 refine wlo 1 2 rfl rfl rfl (wo_run rfl rfl (run_load1 rfl rfl Try.underlying3 rfl (S1.boxc (i := 0) rfl rfl)) ?_)
 refine wlo 2 3 rfl rfl rfl (wo_run rfl rfl (run_fieldAddr rfl rfl Try.underlying59 rfl (ce3) (nf3)) ?_)
 refine wlo 3 4 rfl rfl rfl (wo_run rfl rfl (run_load1 rfl rfl Try.underlying3 rfl (S1.boxc (i := 0) rfl rfl)) ?_)
 refine wlo 4 5 rfl rfl rfl (wo_run rfl rfl (run_fieldAddr rfl rfl Try.underlying59 rfl (ce3) (nf3)) ?_)
 refine wlo 5 6 rfl rfl rfl (wo_run rfl rfl (run_load1 rfl rfl Try.underlying3 rfl (S1.boxc (i := 0) rfl rfl)) ?_)
 refine wlo 6 7 rfl rfl rfl (wo_run rfl rfl (run_fieldAddr rfl rfl Try.underlying59 rfl (ce3) (nf3)) ?_)
 refine wlo 7 8 rfl rfl rfl (wo_run rfl rfl (run_load1 rfl rfl Try.underlying3 rfl (S1.boxc (i := 0) rfl rfl)) ?_)
 refine wlo 8 9 rfl rfl rfl (wo_run rfl rfl (run_buildA (l := [_, _, _, _]) (pl := [(0, 1), (1, 1), (2, 1), (3, 1)]) rfl rfl Try.underlying136 zr136 sz3 rfl rfl rfl) ?_)
 refine wlm 9 10 rfl rfl rfl rfl rfl rfl rfl ?_
 refine wlo 10 11 rfl rfl rfl (wo_run rfl rfl (run_index1 (e := k) rfl rfl rfl Try.underlying136 Try.underlying3 rfl sz3 (by first | rfl | omega) (by first | omega | (simp only [lens]; omega)) (nth_iv [x.a, x.b, x.c, x.d] k (by simp; first | omega | (simp only [lens]; omega)))) ?_)
 refine wla 11 12 rfl rfl rfl rfl rfl rfl rfl ?_
 refine wl_end rfl ?_
 refine nm_sub [(4, _)] ⟨rfl, trivial⟩ ?_
 refine nm_thn ?_
 refine ws_ret hC [_] rfl rfl ⟨rfl, trivial⟩ ?_
 exact ⟨_, rfl, (S1.pick [] [] (by decide) trivial), (by have e0 : k = 0 ∨ k = 1 ∨ k = 2 ∨ k = 3 := (by omega); rcases e0 with rfl | rfl | rfl | rfl <;> first | rfl | (exfalso; omega))⟩
noncomputable def OverIn_n0 : Code := Try.f117.body.getD .skip
noncomputable def OverIn_n1 : Code := cL OverIn_n0
noncomputable def OverIn_n2 : Code := cR OverIn_n0
noncomputable def OverIn_n3 : Code := cL OverIn_n2
noncomputable def OverIn_n4 : Code := cR OverIn_n2
noncomputable def OverIn_n5 : Code := cL OverIn_n3
noncomputable def OverIn_n6 : Code := cR OverIn_n3
noncomputable def OverIn_n7 : Code := cL OverIn_n6
noncomputable def OverIn_n8 : Code := cR OverIn_n6
noncomputable def OverIn_n9 : Code := cL OverIn_n7
noncomputable def OverIn_n10 : Code := cR OverIn_n7
noncomputable def OverIn_n11 : Code := cL OverIn_n4
noncomputable def OverIn_n12 : Code := cR OverIn_n4
set_option maxRecDepth 10000 in
theorem OverIn_q {w : World} {M : Hp} {X : Fr} (x : Cr) (S : SH w M X []) : Cq Try.prog 117 [.agg [.int .i64 x.a, .int .i64 x.b, .int .i64 x.c, .int .i64 x.d, .bool x.plus].toArray] w M X (fun u => u = .int .i64 (overIn x : Int)) := by
 unfold Cq
 refine calls_in (b := OverIn_n0) Try.func117 rfl Try.ntmps117 rfl (fun C hC => ?_)
 refine ws_sub [(0, _)] ⟨rfl, trivial⟩ ?_
 refine ws_seqN OverIn_n1 OverIn_n2 rfl rfl rfl ?_
 refine ws_region rfl ?_
 refine wlo 0 1 rfl rfl rfl (wo_box (l := [_, _, _, _, _]) rfl rfl rfl rfl rfl S ?_)
 intro gb1 w1 S1; clear S
 refine wla 1 2 rfl rfl rfl rfl rfl rfl rfl ?_
 refine wl_end rfl ?_
 refine nm_sub [(1, _)] ⟨rfl, trivial⟩ ?_
 refine nm_thn ?_
 refine ws_seqN OverIn_n3 OverIn_n4 rfl rfl rfl ?_
 refine ws_seqN OverIn_n5 OverIn_n6 rfl rfl rfl ?_
 refine ws_region rfl ?_
 refine wlo 0 1 rfl rfl rfl (wo_run rfl rfl (run_fieldAddr rfl rfl Try.underlying59 rfl (ce4) (nf4)) ?_)
 refine wlo 1 2 rfl rfl rfl (wo_run rfl rfl (run_load1 rfl rfl Try.underlying4 rfl (S1.boxc (i := 0) rfl rfl)) ?_)
 refine wl_end rfl ?_
 refine nm_sub [(4, _)] ⟨rfl, trivial⟩ ?_
 refine nm_thn ?_
 refine ws_condN OverIn_n7 OverIn_n8 rfl rfl rfl rfl (fun hb4 => ?_) (fun hb4 => ?_)
 ·refine ws_seqN OverIn_n9 OverIn_n10 rfl rfl rfl ?_
  refine ws_region rfl ?_
  refine wla 0 1 rfl rfl rfl rfl rfl rfl rfl ?_
  refine wl_end rfl ?_
  refine nm_sub [(2, _)] ⟨rfl, trivial⟩ ?_
  refine nm_thn ?_
  refine ws_ret hC [_] rfl rfl ⟨rfl, trivial⟩ ?_
  exact ⟨_, rfl, (S1.pick [] [] (by decide) trivial), (by show Value.int _ _ = _; unfold overIn; rw [hb4]; rfl)⟩
 ·refine ws_skip rfl ?_
  refine nm_sub [] trivial ?_
  refine nm_thn ?_
  refine ws_seqN OverIn_n11 OverIn_n12 rfl rfl rfl ?_
  refine ws_region rfl ?_
  refine wla 0 1 rfl rfl rfl rfl rfl rfl rfl ?_
  refine wl_end rfl ?_
  refine nm_thn ?_
  refine ws_ret hC [_] rfl rfl ⟨rfl, trivial⟩ ?_
  exact ⟨_, rfl, (S1.pick [] [] (by decide) trivial), (by show Value.int _ _ = _; unfold overIn; rw [hb4]; rfl)⟩
noncomputable def Comes_n0 : Code := Try.f95.body.getD .skip
noncomputable def Comes_n1 : Code := cL Comes_n0
noncomputable def Comes_n2 : Code := cR Comes_n0
noncomputable def Comes_n3 : Code := cL Comes_n2
noncomputable def Comes_n4 : Code := cR Comes_n2
set_option maxRecDepth 10000 in
theorem Comes_q {w : World} {M : Hp} {X : Fr} (x : Cr) (k : Nat) (hk : k < 4) (S : SH w M X []) : Cq Try.prog 95 [.agg [.int .i64 x.a, .int .i64 x.b, .int .i64 x.c, .int .i64 x.d, .bool x.plus].toArray, .int .i64 (k : Int)] w M X (fun u => u = .bool (crIn x k)) := by
 unfold Cq
 refine calls_in (b := Comes_n0) Try.func95 rfl Try.ntmps95 rfl (fun C hC => ?_)
 refine ws_sub [(0, _), (1, _)] ⟨rfl, rfl, trivial⟩ ?_
 refine ws_seqN Comes_n1 Comes_n2 rfl rfl rfl ?_
 refine ws_region rfl ?_
 refine wlo 0 1 rfl rfl rfl (wo_box (l := [_, _, _, _, _]) rfl rfl rfl rfl rfl S ?_)
 intro gb1 w1 S1; clear S
 refine wla 1 2 rfl rfl rfl rfl rfl rfl rfl ?_
 refine wl_end rfl ?_
 refine nm_sub [(1, _), (2, _)] ⟨rfl, rfl, trivial⟩ ?_
 refine nm_thn ?_
 refine ws_seqN Comes_n3 Comes_n4 rfl rfl rfl ?_
 refine ws_region rfl ?_
 refine wlm 0 1 rfl rfl rfl rfl rfl rfl rfl ?_
 refine wlo 1 2 rfl rfl rfl (wo_run rfl rfl (run_eql rfl rfl rfl) ?_)
 refine wlm 2 3 rfl rfl rfl rfl rfl rfl rfl ?_
 refine wl_split (t := 7) rfl (fun hg7 => ?_) (fun hg7 => ?_)
 ·replace hg7 := of_decide_eq_true hg7
  refine wl_no (k := 3) (k' := 4) (d := 8) rfl rfl ⟨_, _, _, rfl, rfl, rfl, rfl⟩ rfl rfl ?_
  refine wl_no (k := 4) (k' := 5) (d := 9) rfl rfl ⟨_, _, _, rfl, rfl, rfl, rfl⟩ rfl rfl ?_
  refine wl_no (k := 5) (k' := 6) (d := 10) rfl rfl ⟨_, _, _, rfl, rfl, rfl, rfl⟩ rfl rfl ?_
  refine wl_no (k := 6) (k' := 7) (d := 11) rfl rfl ⟨_, _, _, rfl, rfl, rfl, rfl⟩ rfl rfl ?_
  refine wlo 7 8 rfl rfl rfl (wo_run rfl rfl (run_pickT rfl rfl rfl) ?_)
  refine wla 8 9 rfl rfl rfl rfl rfl rfl rfl ?_
  refine wl_end rfl ?_
  refine nm_sub [(4, _)] ⟨rfl, trivial⟩ ?_
  refine nm_thn ?_
  refine ws_ret hC [_] rfl rfl ⟨rfl, trivial⟩ ?_
  exact ⟨_, rfl, (S1.pick [] [] (by decide) trivial), (by show Value.bool _ = _; refine congrArg Value.bool ?_; unfold crIn; first | (symm; rw [decide_eq_true_iff]; left; omega) | (unfold overIn; refine decide_eq_decide.2 ?_; cases hp9 : x.plus <;> simp <;> omega))⟩
 ·replace hg7 := of_decide_eq_false hg7
  refine wl_opG (k := 3) (k' := 4) rfl rfl ⟨_, _, _, rfl, rfl, rfl, rfl⟩ rfl (wo_run rfl rfl (run_move rfl rfl) ?_)
  refine wl_opG (k := 4) (k' := 5) rfl rfl ⟨_, _, _, rfl, rfl, rfl, rfl⟩ rfl (wo_run rfl rfl (run_loadN (us := [_, _, _, _, _]) rfl rfl Try.underlying59 rfl sz59 (S1.boxcs (i := 0) rfl ⟨rfl, rfl, rfl, rfl, rfl, trivial⟩)) ?_)
  refine wl_opG (k := 5) (k' := 6) rfl rfl ⟨_, _, _, rfl, rfl, rfl, rfl⟩ rfl (wo_cq rfl rfl rfl rfl rfl rfl rfl cf117 S1 (OverIn_q x  S1.lend) ?_)
  rintro _ w2 S2 rfl; clear S1
  refine wl_opG (k := 6) (k' := 7) rfl rfl ⟨_, _, _, rfl, rfl, rfl, rfl⟩ rfl (wo_run rfl rfl (run_eql rfl rfl rfl) ?_)
  refine wlo 7 8 rfl rfl rfl (wo_run rfl rfl (run_pickF rfl rfl rfl) ?_)
  refine wla 8 9 rfl rfl rfl rfl rfl rfl rfl ?_
  refine wl_end rfl ?_
  refine nm_sub [(4, _)] ⟨rfl, trivial⟩ ?_
  refine nm_thn ?_
  refine ws_ret hC [_] rfl rfl ⟨rfl, trivial⟩ ?_
  exact ⟨_, rfl, (S2.pick [] [] (by decide) trivial), (by show Value.bool _ = _; refine congrArg Value.bool ?_; unfold crIn; first | (symm; rw [decide_eq_true_iff]; left; omega) | (unfold overIn; refine decide_eq_decide.2 ?_; cases hp9 : x.plus <;> simp <;> omega))⟩
noncomputable def At_n0 : Code := Try.f118.body.getD .skip
noncomputable def At_n1 : Code := cL At_n0
noncomputable def At_n2 : Code := cR At_n0
noncomputable def At_n3 : Code := cL At_n2
noncomputable def At_n4 : Code := cR At_n2
set_option maxRecDepth 10000 in
theorem At_q {w : World} {M : Hp} {X : Fr} (d : Dg) {gsh : Nat} {cA iA oA : Option Addr} {cc ic oc : Nat} (c k : Nat) (hsb : BxM (M.un X.h) gsh 93 [.slice cA d.crs.length cc, .int .i64 d.loops, .slice iA (tabL d false (4 * d.crs.length)).length ic, .slice oA (tabL d true (4 * d.crs.length)).length oc]) (hsc : RdA cdCr (M.un X.h) cA cc d.crs) (hsi : RdA cdPl (M.un X.h) iA ic (tabL d false (4 * d.crs.length))) (hso : RdA cdPl (M.un X.h) oA oc (tabL d true (4 * d.crs.length))) (hc : c < d.crs.length) (hk : k < 4) (S : SH w M X []) : Cq Try.prog 118 [.pointer (some ⟨gsh, 0, none⟩), .agg [.int .i64 (c : Int), .int .i64 (k : Int)].toArray] w M X (fun u => u = .int .i64 (arcAt d c k)) := by
 unfold Cq
 refine calls_in (b := At_n0) Try.func118 rfl Try.ntmps118 rfl (fun C hC => ?_)
 refine ws_sub [(0, _), (1, _)] ⟨rfl, rfl, trivial⟩ ?_
 refine ws_seqN At_n1 At_n2 rfl rfl rfl ?_
 refine ws_region rfl ?_
 refine wlo 0 1 rfl rfl rfl (wo_box (l := [_, _]) rfl rfl rfl rfl rfl S ?_)
 intro gb1 w1 S1; clear S
 refine wla 1 2 rfl rfl rfl rfl rfl rfl rfl ?_
 refine wl_end rfl ?_
 refine nm_sub [(0, _), (3, _)] ⟨rfl, rfl, trivial⟩ ?_
 refine nm_thn ?_
 refine ws_seqN At_n3 At_n4 rfl rfl rfl ?_
 refine ws_draw rfl (by kernel_rfl) S1 13 rfl ?_
 clear S1
 refine wa_takeP (i := 0) (d := 5) 12 rfl (by kernel_rfl) (by kernel_rfl) (by kernel_rfl) rfl rfl rfl (fun w2 => run_move rfl rfl) ?_
 refine wa_takeP (i := 1) (d := 6) 11 rfl (by kernel_rfl) (by kernel_rfl) (by kernel_rfl) rfl rfl rfl (fun w3 => run_nilCheck rfl rfl) ?_
 refine wa_takeP (i := 2) (d := 7) 10 rfl (by kernel_rfl) (by kernel_rfl) (by kernel_rfl) rfl rfl rfl (fun w4 => run_fieldAddr rfl rfl Try.underlying93 rfl (ce24) (nf24)) ?_
 refine wa_takeP (i := 3) (d := 8) 9 rfl (by kernel_rfl) (by kernel_rfl) (by kernel_rfl) rfl rfl rfl (fun w5 => run_fieldAddr rfl rfl Try.underlying24 rfl (ce22) (nf22)) ?_
 refine wa_take (i := 4) (d := 9) 8 rfl (by kernel_rfl) (by kernel_rfl) (by kernel_rfl) rfl rfl rfl (fun M5 N5 w6 hle5 S6 => .inl (run_load1 rfl rfl Try.underlying22 rfl ((hsb.mono (Hp.un_mono hle5 S6.mx)).cell S6.um rfl))) ?_
 refine wa_takeP (i := 5) (d := 10) 7 rfl (by kernel_rfl) (by kernel_rfl) (by kernel_rfl) rfl rfl rfl (fun w7 => run_fieldAddr rfl rfl Try.underlying163 rfl (ce3) (nf3)) ?_
 refine wa_take (i := 6) (d := 11) 6 rfl (by kernel_rfl) (by kernel_rfl) (by kernel_rfl) rfl rfl rfl (fun M7 N7 w8 hle7 S8 => .inl (run_load1 rfl rfl Try.underlying3 rfl (S8.suf.boxc (i := 0) rfl rfl))) ?_
 refine wa_take (i := 7) (d := 12) 5 rfl (by kernel_rfl) (by kernel_rfl) (by kernel_rfl) rfl rfl rfl (fun M8 N8 w9 hle8 S9 => .inl (run_indexM (C := cdCr) c rfl rfl rfl sl22 (by first | rfl | omega) (hsc.mono (Hp.un_mono hle8 S9.mx)) (by first | omega | (simp only [lens]; omega)))) ?_
 refine wa_take (i := 8) (d := 13) 4 rfl (by kernel_rfl) (by kernel_rfl) (by kernel_rfl) rfl rfl rfl (fun M9 N9 w10 hle9 S10 => .inl (run_loadN (us := [_, _, _, _, _]) rfl rfl Try.underlying59 rfl sz59 ((hsc.mono (Hp.un_mono hle9 S10.mx)).cellsAt S10.um (e := c) (by first | omega | (simp only [lens]; omega)) (j := 0) ⟨rfl, rfl, rfl, rfl, rfl, trivial⟩))) ?_
 refine wa_takeP (i := 9) (d := 14) 3 rfl (by kernel_rfl) (by kernel_rfl) (by kernel_rfl) rfl rfl rfl (fun w11 => run_fieldAddr rfl rfl Try.underlying163 rfl (ce3) (nf3)) ?_
 refine wa_take (i := 10) (d := 15) 2 rfl (by kernel_rfl) (by kernel_rfl) (by kernel_rfl) rfl rfl rfl (fun M11 N11 w12 hle11 S12 => .inl (run_load1 rfl rfl Try.underlying3 rfl (S12.suf.boxc (i := 0) rfl rfl))) ?_
 refine wa_take (i := 11) (d := 16) 1 rfl (by kernel_rfl) (by kernel_rfl) (by kernel_rfl) rfl rfl rfl (fun M12 N12 w13 hle12 S13 => yield_cq rfl rfl rfl rfl rfl cf94 S13 (Arc_q (ga d.crs c) k (by omega) S13.lend)) ?_
 refine wa_takeP (i := 12) (d := 4) 0 rfl (by kernel_rfl) (by kernel_rfl) (by kernel_rfl) rfl rfl rfl (fun w14 => run_assign rfl rfl) ?_
 refine wa_end (by kernel_rfl) (fun w15 S15 => ?_)
 refine nm_sub [(4, _)] ⟨rfl, trivial⟩ ?_
 refine nm_thn ?_
 refine ws_ret hC [_] rfl rfl ⟨rfl, trivial⟩ ?_
 exact ⟨_, rfl, (S15.pick [] [] (by decide) trivial), rfl⟩
end Go.Proofs.Ytefkjfcncpmneaa
namespace Go.Proofs.Ytefkjfcncpmneaa
open Go.ChangeShapes Go.WideShapes Go.ChangeAt Go.RowKit
noncomputable def Other_n0 : Code := Try.f96.body.getD .skip
noncomputable def Other_n1 : Code := cL Other_n0
noncomputable def Other_n2 : Code := cR Other_n0
noncomputable def Other_n3 : Code := cL Other_n2
noncomputable def Other_n4 : Code := cR Other_n2
noncomputable def Other_n5 : Code := cL Other_n4
noncomputable def Other_n6 : Code := cR Other_n4
noncomputable def Other_n7 : Code := cL Other_n5
noncomputable def Other_n8 : Code := cR Other_n5
noncomputable def Other_n9 : Code := cL Other_n8
noncomputable def Other_n10 : Code := cR Other_n8
noncomputable def Other_n11 : Code := cL Other_n9
noncomputable def Other_n12 : Code := cR Other_n9
noncomputable def Other_n13 : Code := cL Other_n6
noncomputable def Other_n14 : Code := cR Other_n6
set_option maxRecDepth 10000 in
theorem Other_q {w : World} {M : Hp} {X : Fr} (d : Dg) {gsh : Nat} {cA iA oA : Option Addr} {cc ic oc : Nat} (c k : Nat) (hsb : BxM (M.un X.h) gsh 93 [.slice cA d.crs.length cc, .int .i64 d.loops, .slice iA (tabL d false (4 * d.crs.length)).length ic, .slice oA (tabL d true (4 * d.crs.length)).length oc]) (hsc : RdA cdCr (M.un X.h) cA cc d.crs) (hsi : RdA cdPl (M.un X.h) iA ic (tabL d false (4 * d.crs.length))) (hso : RdA cdPl (M.un X.h) oA oc (tabL d true (4 * d.crs.length))) (hn : d.crs.length ≤ 16) (hab : arcsB d = true) (hc : c < d.crs.length) (hk : k < 4) (S : SH w M X []) : Cq Try.prog 96 [.pointer (some ⟨gsh, 0, none⟩), .agg [.int .i64 (c : Int), .int .i64 (k : Int)].toArray] w M X (fun u => u = .agg (plF (endOf d (arcAt d c k) (entryB d c k))).toArray) := by
 unfold Cq
 have hx := arcAt_bd hab hc hk
 have hx1 := hx.1
 have hx2 := hx.2
 obtain ⟨hE1, hE2, hE3, hE4, hE5⟩ := endD hab hx (entryB d c k)
 have htl : ∀ b, (tabL d b (4 * d.crs.length)).length = 2 * d.crs.length + 1 := fun b => tabL_len d b _
 have htf := htl false
 have htt := htl true
 refine calls_in (b := Other_n0) Try.func96 rfl Try.ntmps96 rfl (fun C hC => ?_)
 refine ws_sub [(0, _), (1, _)] ⟨rfl, rfl, trivial⟩ ?_
 refine ws_seqN Other_n1 Other_n2 rfl rfl rfl ?_
 refine ws_region rfl ?_
 refine wlo 0 1 rfl rfl rfl (wo_box (l := [_, _]) rfl rfl rfl rfl rfl S ?_)
 intro gb1 w1 S1; clear S
 refine wlo 1 2 rfl rfl rfl (wo_alloc (l := [_, _]) rfl rfl rfl zr163 rfl S1 ?_)
 intro gb2 w2 S2; clear S1
 refine wl_end rfl ?_
 refine nm_sub [(0, _), (3, _), (4, _)] ⟨rfl, rfl, rfl, trivial⟩ ?_
 refine nm_thn ?_
 refine ws_seqN Other_n3 Other_n4 rfl rfl rfl ?_
 refine ws_region rfl ?_
 refine wlm 0 1 rfl rfl rfl rfl rfl rfl rfl ?_
 refine wlo 1 2 rfl rfl rfl (wo_run rfl rfl (run_loadN (us := [_, _]) rfl rfl Try.underlying163 rfl sz163 (S2.boxcs (i := 1) rfl ⟨rfl, rfl, trivial⟩)) ?_)
 refine wlo 2 3 rfl rfl rfl (wo_cq rfl rfl rfl rfl rfl rfl rfl cf118 S2 (At_q d c k (hsb.mono S2.un_XH) (hsc.mono S2.un_XH) (hsi.mono S2.un_XH) (hso.mono S2.un_XH) (by omega) (by omega) S2.lend) ?_)
 rintro _ w3 S3 rfl; clear S2
 refine wla 3 4 rfl rfl rfl rfl rfl rfl rfl ?_
 refine wl_end rfl ?_
 refine nm_sub [(0, _), (3, _), (4, _), (5, _)] ⟨rfl, rfl, rfl, rfl, trivial⟩ ?_
 refine nm_thn ?_
 refine ws_seqN Other_n5 Other_n6 rfl rfl rfl ?_
 refine ws_seqN Other_n7 Other_n8 rfl rfl rfl ?_
 refine ws_draw rfl (by kernel_rfl) S3 12 rfl ?_
 clear S3
 refine wa_takeP (i := 0) (d := 9) 11 rfl (by kernel_rfl) (by kernel_rfl) (by kernel_rfl) rfl rfl rfl (fun w4 => run_move rfl rfl) ?_
 refine wa_takeP (i := 1) (d := 10) 10 rfl (by kernel_rfl) (by kernel_rfl) (by kernel_rfl) rfl rfl rfl (fun w5 => run_nilCheck rfl rfl) ?_
 refine wa_takeP (i := 2) (d := 11) 9 rfl (by kernel_rfl) (by kernel_rfl) (by kernel_rfl) rfl rfl rfl (fun w6 => run_fieldAddr rfl rfl Try.underlying93 rfl (ce24) (nf24)) ?_
 refine wa_takeP (i := 3) (d := 12) 8 rfl (by kernel_rfl) (by kernel_rfl) (by kernel_rfl) rfl rfl rfl (fun w7 => run_fieldAddr rfl rfl Try.underlying24 rfl (ce22) (nf22)) ?_
 refine wa_take (i := 4) (d := 13) 7 rfl (by kernel_rfl) (by kernel_rfl) (by kernel_rfl) rfl rfl rfl (fun M5 N5 w8 hle5 S8 => .inl (run_load1 rfl rfl Try.underlying22 rfl ((hsb.mono (Hp.un_mono hle5 S8.mx)).cell S8.um rfl))) ?_
 refine wa_takeP (i := 5) (d := 14) 6 rfl (by kernel_rfl) (by kernel_rfl) (by kernel_rfl) rfl rfl rfl (fun w9 => run_fieldAddr rfl rfl Try.underlying163 rfl (ce3) (nf3)) ?_
 refine wa_take (i := 6) (d := 15) 5 rfl (by kernel_rfl) (by kernel_rfl) (by kernel_rfl) rfl rfl rfl (fun M7 N7 w10 hle7 S10 => .inl (run_load1 rfl rfl Try.underlying3 rfl (S10.suf.boxc (i := 1) rfl rfl))) ?_
 refine wa_take (i := 7) (d := 16) 4 rfl (by kernel_rfl) (by kernel_rfl) (by kernel_rfl) rfl rfl rfl (fun M8 N8 w11 hle8 S11 => .inl (run_indexM (C := cdCr) c rfl rfl rfl sl22 (by first | rfl | omega) (hsc.mono (Hp.un_mono hle8 S11.mx)) (by first | omega | (simp only [lens]; omega)))) ?_
 refine wa_take (i := 8) (d := 17) 3 rfl (by kernel_rfl) (by kernel_rfl) (by kernel_rfl) rfl rfl rfl (fun M9 N9 w12 hle9 S12 => .inl (run_loadN (us := [_, _, _, _, _]) rfl rfl Try.underlying59 rfl sz59 ((hsc.mono (Hp.un_mono hle9 S12.mx)).cellsAt S12.um (e := c) (by first | omega | (simp only [lens]; omega)) (j := 0) ⟨rfl, rfl, rfl, rfl, rfl, trivial⟩))) ?_
 refine wa_takeP (i := 9) (d := 18) 2 rfl (by kernel_rfl) (by kernel_rfl) (by kernel_rfl) rfl rfl rfl (fun w13 => run_fieldAddr rfl rfl Try.underlying163 rfl (ce3) (nf3)) ?_
 refine wa_take (i := 10) (d := 19) 1 rfl (by kernel_rfl) (by kernel_rfl) (by kernel_rfl) rfl rfl rfl (fun M11 N11 w14 hle11 S14 => .inl (run_load1 rfl rfl Try.underlying3 rfl (S14.suf.boxc (i := 1) rfl rfl))) ?_
 refine wa_take (i := 11) (d := 20) 0 rfl (by kernel_rfl) (by kernel_rfl) (by kernel_rfl) rfl rfl rfl (fun M12 N12 w15 hle12 S15 => yield_cq rfl rfl rfl rfl rfl cf95 S15 (Comes_q (ga d.crs c) k (by omega) S15.lend)) ?_
 refine wa_end (by kernel_rfl) (fun w16 S16 => ?_)
 refine nm_sub [(0, _), (4, _), (5, _), (20, _)] ⟨rfl, rfl, rfl, rfl, trivial⟩ ?_
 refine nm_thn ?_
 refine ws_condN Other_n9 Other_n10 rfl rfl rfl rfl (fun hb20 => ?_) (fun hb20 => ?_)
 ·refine ws_seqN Other_n11 Other_n12 rfl rfl rfl ?_
  refine ws_region rfl ?_
  refine wlm 0 1 rfl rfl rfl rfl rfl rfl rfl ?_
  refine wlo 1 2 rfl rfl rfl (wo_run rfl rfl (run_nilCheck rfl rfl) ?_)
  refine wlo 2 3 rfl rfl rfl (wo_run rfl rfl (run_fieldAddr rfl rfl Try.underlying93 rfl (ce91) (nf91)) ?_)
  refine wlo 3 4 rfl rfl rfl (wo_run rfl rfl (run_load1 rfl rfl Try.underlying91 rfl (hsb.cell S16.um rfl)) ?_)
  refine wlm 4 5 rfl rfl rfl rfl rfl rfl rfl ?_
  refine wlo 5 6 rfl rfl rfl (wo_run rfl rfl (run_indexM (C := cdPl) ((arcAt d c k).toNat) rfl rfl rfl sl91 (by first | rfl | omega) hso (by first | omega | (simp only [lens]; omega))) ?_)
  refine wlo 6 7 rfl rfl rfl (wo_run rfl rfl (run_loadN (us := [_, _]) rfl rfl Try.underlying163 rfl sz163 (hso.cellsAt S16.um (e := (arcAt d c k).toNat) (by first | omega | (simp only [lens]; omega)) (j := 0) ⟨rfl, rfl, trivial⟩)) ?_)
  refine wlo 7 8 rfl rfl rfl (wo_storeB (i := 0) (us := [_, _]) (l' := [_, _]) (H' := [_, _]) rfl rfl S16 rfl rfl rfl rfl sz163 rfl rfl rfl rfl ?_)
  intro w17 S17; clear S16
  refine wl_end rfl ?_
  refine nm_sub [(4, _)] ⟨rfl, trivial⟩ ?_
  refine nm_thn ?_
  refine ws_ret hC [_] rfl rfl ⟨⟨_, rfl, loadVarN (us := [_, _]) Try.underlying163 rfl sz163 (S17.boxcs (i := 0) rfl ⟨rfl, rfl, trivial⟩)⟩, trivial⟩ ?_
  exact ⟨_, rfl, (S17.pick [] [] (by decide) trivial), (by have hb9 : entryB d c k = _ := hb20; rw [hb9] at hE3 ⊢; show Value.agg (plF (ga (tabL d _ (4 * d.crs.length)) (arcAt d c k).toNat)).toArray = _; rw [hE3])⟩
 ·refine ws_skip rfl ?_
  refine nm_sub [(0, _), (4, _), (5, _)] ⟨rfl, rfl, rfl, trivial⟩ ?_
  refine nm_thn ?_
  refine ws_seqN Other_n13 Other_n14 rfl rfl rfl ?_
  refine ws_region rfl ?_
  refine wlm 0 1 rfl rfl rfl rfl rfl rfl rfl ?_
  refine wlo 1 2 rfl rfl rfl (wo_run rfl rfl (run_nilCheck rfl rfl) ?_)
  refine wlo 2 3 rfl rfl rfl (wo_run rfl rfl (run_fieldAddr rfl rfl Try.underlying93 rfl (ce91) (nf91)) ?_)
  refine wlo 3 4 rfl rfl rfl (wo_run rfl rfl (run_load1 rfl rfl Try.underlying91 rfl (hsb.cell S16.um rfl)) ?_)
  refine wlm 4 5 rfl rfl rfl rfl rfl rfl rfl ?_
  refine wlo 5 6 rfl rfl rfl (wo_run rfl rfl (run_indexM (C := cdPl) ((arcAt d c k).toNat) rfl rfl rfl sl91 (by first | rfl | omega) hsi (by first | omega | (simp only [lens]; omega))) ?_)
  refine wlo 6 7 rfl rfl rfl (wo_run rfl rfl (run_loadN (us := [_, _]) rfl rfl Try.underlying163 rfl sz163 (hsi.cellsAt S16.um (e := (arcAt d c k).toNat) (by first | omega | (simp only [lens]; omega)) (j := 0) ⟨rfl, rfl, trivial⟩)) ?_)
  refine wlo 7 8 rfl rfl rfl (wo_storeB (i := 0) (us := [_, _]) (l' := [_, _]) (H' := [_, _]) rfl rfl S16 rfl rfl rfl rfl sz163 rfl rfl rfl rfl ?_)
  intro w18 S18; clear S16
  refine wl_end rfl ?_
  refine nm_sub [(4, _)] ⟨rfl, trivial⟩ ?_
  refine nm_thn ?_
  refine ws_ret hC [_] rfl rfl ⟨⟨_, rfl, loadVarN (us := [_, _]) Try.underlying163 rfl sz163 (S18.boxcs (i := 0) rfl ⟨rfl, rfl, trivial⟩)⟩, trivial⟩ ?_
  exact ⟨_, rfl, (S18.pick [] [] (by decide) trivial), (by have hb9 : entryB d c k = _ := hb20; rw [hb9] at hE3 ⊢; show Value.agg (plF (ga (tabL d _ (4 * d.crs.length)) (arcAt d c k).toNat)).toArray = _; rw [hE3])⟩
end Go.Proofs.Ytefkjfcncpmneaa
namespace Go.Proofs.Ytefkjfcncpmneaa
open Go.ChangeShapes Go.WideShapes Go.ChangeAt Go.RowKit
/-- The k-th dart. -/
def dA (c : Nat) : Da := ⟨((c / 2 : Nat) : Int), decide (c % 2 = 1)⟩
namespace InF
end InF
end Go.Proofs.Ytefkjfcncpmneaa
namespace Go.Proofs.Ytefkjfcncpmneaa
open Go.RowKit
/-- Marks to come. -/
def free (seen : List Bool) : Nat := seen.countP (fun b => !b)
theorem free_set {seen : List Bool} {x : Nat} (h : x < seen.length) (hx : ga seen x = false) : free (seen.set x true) + 1 = free seen := by
  induction seen generalizing x with
  | nil => simp at h
  | cons b seen ih =>
    cases x with
    | zero =>
      have : b = false := by simpa [ga] using hx
      subst this
      simp [free]
    | succ x =>
      have h1 : ga (b :: seen) (x + 1) = ga seen x := by simp [ga]
      rw [h1] at hx
      have h2 := ih (by simpa using h) hx
      unfold free at *
      rw [List.set_cons_succ, List.countP_cons, List.countP_cons]
      omega
end Go.Proofs.Ytefkjfcncpmneaa
namespace Go.Proofs.Ytefkjfcncpmneaa
open Go.ChangeShapes Go.WideShapes Go.ChangeAt Go.RowKit
def dcN (x : Da) : Nat := (2 * x.a + (if x.b = true then 1 else 0)).toNat
theorem dcN_dA (c : Nat) : dcN (dA c) = c := by
 unfold dcN dA
 by_cases h : c % 2 = 1
 ·simp only [h, decide_true, if_true]; omega
 ·simp only [h, decide_false, Bool.false_eq_true, if_false]; omega
theorem dA_inj {c e : Nat} (h : dA c = dA e) : c = e := by rw [← dcN_dA c, h, dcN_dA]
/-- The map tells what the marks tell. -/
def SeenM (d : Dg) (es : List (Da × Bool)) (seen : List Bool) : Prop := ∀ c, 2 ≤ c → c < 4 * d.crs.length + 2 → (mg (dA c) es).getD false = ga seen c
theorem SeenM.nil_ (d : Dg) : SeenM d [] (List.replicate (4 * d.crs.length + 2) false) := fun c _ hc => by rw [ga_rep _ _ _ hc]; rfl
theorem SeenM.put {d : Dg} {es : List (Da × Bool)} {seen : List Bool} (h : SeenM d es seen) {c : Nat} (hc : c < seen.length) : SeenM d (mp (dA c) true es) (seen.set c true) := fun e h1 h2 => by
 rw [mg_mp, ga_set _ _ _ _ hc]
 by_cases he : c = e
 ·subst he; rw [if_pos rfl, if_pos rfl]; rfl
 ·rw [if_neg (fun e' => he (dA_inj e').symm), if_neg he]; exact h e h1 h2
namespace InF
end InF
end Go.Proofs.Ytefkjfcncpmneaa
namespace Go.Proofs.Ytefkjfcncpmneaa
open Go.ChangeShapes Go.WideShapes Go.ChangeAt Go.RowKit
noncomputable def ArcAt_n0 : Code := Try.f30.body.getD .skip
noncomputable def ArcAt_n1 : Code := cL ArcAt_n0
noncomputable def ArcAt_n2 : Code := cR ArcAt_n0
noncomputable def ArcAt_n3 : Code := cL ArcAt_n2
noncomputable def ArcAt_n4 : Code := cR ArcAt_n2
noncomputable def ArcAt_n5 : Code := cL ArcAt_n4
noncomputable def ArcAt_n6 : Code := cR ArcAt_n4
noncomputable def ArcAt_n7 : Code := cL ArcAt_n5
noncomputable def ArcAt_n8 : Code := cR ArcAt_n5
noncomputable def ArcAt_n9 : Code := cL ArcAt_n8
noncomputable def ArcAt_n10 : Code := cL ArcAt_n9
noncomputable def ArcAt_n11 : Code := cR ArcAt_n9
noncomputable def ArcAt_n12 : Code := cL ArcAt_n11
noncomputable def ArcAt_n13 : Code := cR ArcAt_n11
noncomputable def ArcAt_n14 : Code := cL ArcAt_n12
noncomputable def ArcAt_n15 : Code := cR ArcAt_n12
noncomputable def ArcAt_n16 : Code := cL ArcAt_n13
noncomputable def ArcAt_n17 : Code := cR ArcAt_n13
noncomputable def ArcAt_n18 : Code := cL ArcAt_n17
noncomputable def ArcAt_n19 : Code := cR ArcAt_n17
noncomputable def ArcAt_n20 : Code := cL ArcAt_n18
noncomputable def ArcAt_n21 : Code := cR ArcAt_n18
noncomputable def ArcAt_n22 : Code := cL ArcAt_n19
noncomputable def ArcAt_n23 : Code := cR ArcAt_n19
noncomputable def ArcAt_n24 : Code := cL ArcAt_n23
noncomputable def ArcAt_n25 : Code := cR ArcAt_n23
noncomputable def ArcAt_n26 : Code := cL ArcAt_n24
noncomputable def ArcAt_n27 : Code := cR ArcAt_n24
noncomputable def ArcAt_n28 : Code := cL ArcAt_n6
noncomputable def ArcAt_n29 : Code := cR ArcAt_n6
set_option maxRecDepth 10000 in
theorem ArcAt_q {w : World} {M : Hp} {X : Fr} (d : Dg) {dcrsA : Option Addr} {dcrsc : Nat} (c k : Nat) (hdcrs : RdA cdCr (M.un X.h) dcrsA dcrsc d.crs) (hc : c < d.crs.length) (hk : k < 4) (S : SH w M X []) : Cq Try.prog 30 [.agg [.slice dcrsA d.crs.length dcrsc, .int .i64 d.loops].toArray, .agg [.int .i64 (c : Int), .int .i64 (k : Int)].toArray] w M X (fun u => u = .int .i64 (arcAt d c k)) := by
 unfold Cq
 have rmhdcrs : d.crs.length * 40 ≤ 140737488355328 := hdcrs.room
 refine calls_in (b := ArcAt_n0) Try.func30 rfl Try.ntmps30 rfl (fun C hC => ?_)
 refine ws_sub [(0, _), (1, _)] ⟨rfl, rfl, trivial⟩ ?_
 refine ws_seqN ArcAt_n1 ArcAt_n2 rfl rfl rfl ?_
 refine ws_region rfl ?_
 refine wlo 0 1 rfl rfl rfl (wo_box (l := [_, _]) rfl rfl rfl rfl rfl S ?_)
 intro gb1 w1 S1; clear S
 refine wlo 1 2 rfl rfl rfl (wo_box (l := [_, _]) rfl rfl rfl rfl rfl S1 ?_)
 intro gb2 w2 S2; clear S1
 refine wla 2 3 rfl rfl rfl rfl rfl rfl rfl ?_
 refine wl_end rfl ?_
 refine nm_sub [(2, _), (3, _)] ⟨rfl, rfl, trivial⟩ ?_
 refine nm_thn ?_
 refine ws_seqN ArcAt_n3 ArcAt_n4 rfl rfl rfl ?_
 refine ws_region rfl ?_
 refine wlo 0 1 rfl rfl rfl (wo_run rfl rfl (run_fieldAddr rfl rfl Try.underlying24 rfl (ce22) (nf22)) ?_)
 refine wlo 1 2 rfl rfl rfl (wo_run rfl rfl (run_load1 rfl rfl Try.underlying22 rfl (S2.boxc (i := 1) rfl rfl)) ?_)
 refine wlo 2 3 rfl rfl rfl (wo_run rfl rfl (run_fieldAddr rfl rfl Try.underlying61 rfl (ce3) (nf3)) ?_)
 refine wlo 3 4 rfl rfl rfl (wo_run rfl rfl (run_load1 rfl rfl Try.underlying3 rfl (S2.boxc (i := 0) rfl rfl)) ?_)
 refine wlo 4 5 rfl rfl rfl (wo_run rfl rfl (run_indexM (C := cdCr) c rfl rfl rfl sl22 (by first | rfl | omega) hdcrs (by first | omega | (simp only [lens]; omega))) ?_)
 refine wlo 5 6 rfl rfl rfl (wo_run rfl rfl (run_loadN (us := [_, _, _, _, _]) rfl rfl Try.underlying59 rfl sz59 (hdcrs.cellsAt S2.um (e := c) (by first | omega | (simp only [lens]; omega)) (j := 0) ⟨rfl, rfl, rfl, rfl, rfl, trivial⟩)) ?_)
 refine wlo 6 7 rfl rfl rfl (wo_alloc (l := [_, _, _, _, _]) rfl rfl rfl zr59 rfl S2 ?_)
 intro gb3 w3 S3; clear S2
 refine wlo 7 8 rfl rfl rfl (wo_storeB (i := 0) (us := [_, _, _, _, _]) (l' := [_, _, _, _, _]) (H' := [_, _, _]) rfl rfl S3 rfl rfl rfl rfl sz59 rfl rfl rfl rfl ?_)
 intro w4 S4; clear S3
 refine wl_end rfl ?_
 refine nm_sub [(3, _), (5, _)] ⟨rfl, rfl, trivial⟩ ?_
 refine nm_thn ?_
 refine ws_seqN ArcAt_n5 ArcAt_n6 rfl rfl rfl ?_
 refine ws_seqN ArcAt_n7 ArcAt_n8 rfl rfl rfl ?_
 refine ws_region rfl ?_
 refine wlo 0 1 rfl rfl rfl (wo_run rfl rfl (run_fieldAddr rfl rfl Try.underlying61 rfl (ce3) (nf3)) ?_)
 refine wlo 1 2 rfl rfl rfl (wo_run rfl rfl (run_load1 rfl rfl Try.underlying3 rfl (S4.boxc (i := 1) rfl rfl)) ?_)
 refine wl_end rfl ?_
 refine nm_sub [(5, _), (13, _)] ⟨rfl, rfl, trivial⟩ ?_
 refine nm_thn ?_
 refine ws_blockN ArcAt_n9 0 rfl rfl rfl ?_
 refine ws_seqN ArcAt_n10 ArcAt_n11 rfl rfl rfl ?_
 refine ws_region rfl ?_
 refine wlo 0 1 rfl rfl rfl (wo_run rfl rfl (run_eql rfl rfl rfl) ?_)
 refine wla 1 2 rfl rfl rfl rfl rfl rfl rfl ?_
 refine wl_end rfl ?_
 refine nm_sub [(5, _), (13, _), (14, _)] ⟨rfl, rfl, rfl, trivial⟩ ?_
 refine nm_thn ?_
 refine ws_condN ArcAt_n12 ArcAt_n13 rfl rfl rfl rfl (fun hb14 => ?_) (fun hb14 => ?_)
 ·replace hb14 := of_decide_eq_true hb14
  refine ws_seqN ArcAt_n14 ArcAt_n15 rfl rfl rfl ?_
  refine ws_region rfl ?_
  refine wlo 0 1 rfl rfl rfl (wo_run rfl rfl (run_fieldAddr rfl rfl Try.underlying59 rfl (ce3) (nf3)) ?_)
  refine wlo 1 2 rfl rfl rfl (wo_run rfl rfl (run_load1 rfl rfl Try.underlying3 rfl (S4.boxc (i := 0) rfl rfl)) ?_)
  refine wla 2 3 rfl rfl rfl rfl rfl rfl rfl ?_
  refine wl_end rfl ?_
  refine nm_sub [(4, _)] ⟨rfl, trivial⟩ ?_
  refine nm_thn ?_
  refine ws_ret hC [_] rfl rfl ⟨rfl, trivial⟩ ?_
  exact ⟨_, rfl, (S4.pick [] [] (by decide) trivial), (by first | (obtain rfl : k = 0 := (by omega); rfl) | (obtain rfl : k = 1 := (by omega); rfl) | (obtain rfl : k = 2 := (by omega); rfl) | (obtain rfl : k = 3 := (by omega); rfl))⟩
 ·replace hb14 := of_decide_eq_false hb14
  refine ws_seqN ArcAt_n16 ArcAt_n17 rfl rfl rfl ?_
  refine ws_region rfl ?_
  refine wlo 0 1 rfl rfl rfl (wo_run rfl rfl (run_eql rfl rfl rfl) ?_)
  refine wla 1 2 rfl rfl rfl rfl rfl rfl rfl ?_
  refine wl_end rfl ?_
  refine nm_sub [(5, _), (13, _), (18, _)] ⟨rfl, rfl, rfl, trivial⟩ ?_
  refine nm_thn ?_
  refine ws_condN ArcAt_n18 ArcAt_n19 rfl rfl rfl rfl (fun hb18 => ?_) (fun hb18 => ?_)
  ·replace hb18 := of_decide_eq_true hb18
   refine ws_seqN ArcAt_n20 ArcAt_n21 rfl rfl rfl ?_
   refine ws_region rfl ?_
   refine wlo 0 1 rfl rfl rfl (wo_run rfl rfl (run_fieldAddr rfl rfl Try.underlying59 rfl (ce3) (nf3)) ?_)
   refine wlo 1 2 rfl rfl rfl (wo_run rfl rfl (run_load1 rfl rfl Try.underlying3 rfl (S4.boxc (i := 0) rfl rfl)) ?_)
   refine wla 2 3 rfl rfl rfl rfl rfl rfl rfl ?_
   refine wl_end rfl ?_
   refine nm_sub [(4, _)] ⟨rfl, trivial⟩ ?_
   refine nm_thn ?_
   refine ws_ret hC [_] rfl rfl ⟨rfl, trivial⟩ ?_
   exact ⟨_, rfl, (S4.pick [] [] (by decide) trivial), (by first | (obtain rfl : k = 0 := (by omega); rfl) | (obtain rfl : k = 1 := (by omega); rfl) | (obtain rfl : k = 2 := (by omega); rfl) | (obtain rfl : k = 3 := (by omega); rfl))⟩
  ·replace hb18 := of_decide_eq_false hb18
   refine ws_seqN ArcAt_n22 ArcAt_n23 rfl rfl rfl ?_
   refine ws_region rfl ?_
   refine wlo 0 1 rfl rfl rfl (wo_run rfl rfl (run_eql rfl rfl rfl) ?_)
   refine wla 1 2 rfl rfl rfl rfl rfl rfl rfl ?_
   refine wl_end rfl ?_
   refine nm_sub [(5, _), (22, _)] ⟨rfl, rfl, trivial⟩ ?_
   refine nm_thn ?_
   refine ws_condN ArcAt_n24 ArcAt_n25 rfl rfl rfl rfl (fun hb22 => ?_) (fun hb22 => ?_)
   ·replace hb22 := of_decide_eq_true hb22
    refine ws_seqN ArcAt_n26 ArcAt_n27 rfl rfl rfl ?_
    refine ws_region rfl ?_
    refine wlo 0 1 rfl rfl rfl (wo_run rfl rfl (run_fieldAddr rfl rfl Try.underlying59 rfl (ce3) (nf3)) ?_)
    refine wlo 1 2 rfl rfl rfl (wo_run rfl rfl (run_load1 rfl rfl Try.underlying3 rfl (S4.boxc (i := 0) rfl rfl)) ?_)
    refine wla 2 3 rfl rfl rfl rfl rfl rfl rfl ?_
    refine wl_end rfl ?_
    refine nm_sub [(4, _)] ⟨rfl, trivial⟩ ?_
    refine nm_thn ?_
    refine ws_ret hC [_] rfl rfl ⟨rfl, trivial⟩ ?_
    exact ⟨_, rfl, (S4.pick [] [] (by decide) trivial), (by first | (obtain rfl : k = 0 := (by omega); rfl) | (obtain rfl : k = 1 := (by omega); rfl) | (obtain rfl : k = 2 := (by omega); rfl) | (obtain rfl : k = 3 := (by omega); rfl))⟩
   ·replace hb22 := of_decide_eq_false hb22
    refine ws_skip rfl ?_
    refine nm_blk ?_
    refine nm_sub [(5, _)] ⟨rfl, trivial⟩ ?_
    refine nm_thn ?_
    refine ws_seqN ArcAt_n28 ArcAt_n29 rfl rfl rfl ?_
    refine ws_region rfl ?_
    refine wlo 0 1 rfl rfl rfl (wo_run rfl rfl (run_fieldAddr rfl rfl Try.underlying59 rfl (ce3) (nf3)) ?_)
    refine wlo 1 2 rfl rfl rfl (wo_run rfl rfl (run_load1 rfl rfl Try.underlying3 rfl (S4.boxc (i := 0) rfl rfl)) ?_)
    refine wla 2 3 rfl rfl rfl rfl rfl rfl rfl ?_
    refine wl_end rfl ?_
    refine nm_sub [(4, _)] ⟨rfl, trivial⟩ ?_
    refine nm_thn ?_
    refine ws_ret hC [_] rfl rfl ⟨rfl, trivial⟩ ?_
    exact ⟨_, rfl, (S4.pick [] [] (by decide) trivial), (by first | (obtain rfl : k = 0 := (by omega); rfl) | (obtain rfl : k = 1 := (by omega); rfl) | (obtain rfl : k = 2 := (by omega); rfl) | (obtain rfl : k = 3 := (by omega); rfl))⟩
noncomputable def Entry_n0 : Code := Try.f31.body.getD .skip
noncomputable def Entry_n1 : Code := cL Entry_n0
noncomputable def Entry_n2 : Code := cR Entry_n0
noncomputable def Entry_n3 : Code := cL Entry_n2
noncomputable def Entry_n4 : Code := cR Entry_n2
set_option maxRecDepth 10000 in
theorem Entry_q {w : World} {M : Hp} {X : Fr} (d : Dg) {dcrsA : Option Addr} {dcrsc : Nat} (c k : Nat) (hdcrs : RdA cdCr (M.un X.h) dcrsA dcrsc d.crs) (hc : c < d.crs.length) (hk : k < 4) (S : SH w M X []) : Cq Try.prog 31 [.agg [.slice dcrsA d.crs.length dcrsc, .int .i64 d.loops].toArray, .agg [.int .i64 (c : Int), .int .i64 (k : Int)].toArray] w M X (fun u => u = .bool (entryB d c k)) := by
 unfold Cq
 have rmhdcrs : d.crs.length * 40 ≤ 140737488355328 := hdcrs.room
 refine calls_in (b := Entry_n0) Try.func31 rfl Try.ntmps31 rfl (fun C hC => ?_)
 refine ws_sub [(0, _), (1, _)] ⟨rfl, rfl, trivial⟩ ?_
 refine ws_seqN Entry_n1 Entry_n2 rfl rfl rfl ?_
 refine ws_region rfl ?_
 refine wlo 0 1 rfl rfl rfl (wo_box (l := [_, _]) rfl rfl rfl rfl rfl S ?_)
 intro gb1 w1 S1; clear S
 refine wlo 1 2 rfl rfl rfl (wo_box (l := [_, _]) rfl rfl rfl rfl rfl S1 ?_)
 intro gb2 w2 S2; clear S1
 refine wla 2 3 rfl rfl rfl rfl rfl rfl rfl ?_
 refine wl_end rfl ?_
 refine nm_sub [(2, _), (3, _)] ⟨rfl, rfl, trivial⟩ ?_
 refine nm_thn ?_
 refine ws_seqN Entry_n3 Entry_n4 rfl rfl rfl ?_
 refine ws_region rfl ?_
 refine wlo 0 1 rfl rfl rfl (wo_run rfl rfl (run_fieldAddr rfl rfl Try.underlying61 rfl (ce3) (nf3)) ?_)
 refine wlo 1 2 rfl rfl rfl (wo_run rfl rfl (run_load1 rfl rfl Try.underlying3 rfl (S2.boxc (i := 0) rfl rfl)) ?_)
 refine wlo 2 3 rfl rfl rfl (wo_run rfl rfl (run_eql rfl rfl rfl) ?_)
 refine wlm 3 4 rfl rfl rfl rfl rfl rfl rfl ?_
 refine wl_split (t := 8) rfl (fun hg8 => ?_) (fun hg8 => ?_)
 ·replace hg8 := of_decide_eq_true hg8
  refine wl_no (k := 4) (k' := 5) (d := 9) rfl rfl ⟨_, _, _, rfl, rfl, rfl, rfl⟩ rfl rfl ?_
  refine wl_no (k := 5) (k' := 6) (d := 10) rfl rfl ⟨_, _, _, rfl, rfl, rfl, rfl⟩ rfl rfl ?_
  refine wl_no (k := 6) (k' := 7) (d := 11) rfl rfl ⟨_, _, _, rfl, rfl, rfl, rfl⟩ rfl rfl ?_
  refine wl_no (k := 7) (k' := 8) (d := 12) rfl rfl ⟨_, _, _, rfl, rfl, rfl, rfl⟩ rfl rfl ?_
  refine wl_no (k := 8) (k' := 9) (d := 13) rfl rfl ⟨_, _, _, rfl, rfl, rfl, rfl⟩ rfl rfl ?_
  refine wl_no (k := 9) (k' := 10) (d := 14) rfl rfl ⟨_, _, _, rfl, rfl, rfl, rfl⟩ rfl rfl ?_
  refine wl_no (k := 10) (k' := 11) (d := 15) rfl rfl ⟨_, _, _, rfl, rfl, rfl, rfl⟩ rfl rfl ?_
  refine wl_no (k := 11) (k' := 12) (d := 16) rfl rfl ⟨_, _, _, rfl, rfl, rfl, rfl⟩ rfl rfl ?_
  refine wl_no (k := 12) (k' := 13) (d := 17) rfl rfl ⟨_, _, _, rfl, rfl, rfl, rfl⟩ rfl rfl ?_
  refine wl_no (k := 13) (k' := 14) (d := 18) rfl rfl ⟨_, _, _, rfl, rfl, rfl, rfl⟩ rfl rfl ?_
  refine wl_no (k := 14) (k' := 15) (d := 19) rfl rfl ⟨_, _, _, rfl, rfl, rfl, rfl⟩ rfl rfl ?_
  refine wl_no (k := 15) (k' := 16) (d := 20) rfl rfl ⟨_, _, _, rfl, rfl, rfl, rfl⟩ rfl rfl ?_
  refine wl_no (k := 16) (k' := 17) (d := 21) rfl rfl ⟨_, _, _, rfl, rfl, rfl, rfl⟩ rfl rfl ?_
  refine wlo 17 18 rfl rfl rfl (wo_run rfl rfl (run_pickT rfl rfl rfl) ?_)
  refine wlm 18 19 rfl rfl rfl rfl rfl rfl rfl ?_
  refine wl_no (k := 19) (k' := 20) (d := 24) rfl rfl ⟨_, _, _, rfl, rfl, rfl, rfl⟩ rfl rfl ?_
  refine wl_no (k := 20) (k' := 21) (d := 25) rfl rfl ⟨_, _, _, rfl, rfl, rfl, rfl⟩ rfl rfl ?_
  refine wl_no (k := 21) (k' := 22) (d := 26) rfl rfl ⟨_, _, _, rfl, rfl, rfl, rfl⟩ rfl rfl ?_
  refine wl_no (k := 22) (k' := 23) (d := 27) rfl rfl ⟨_, _, _, rfl, rfl, rfl, rfl⟩ rfl rfl ?_
  refine wl_no (k := 23) (k' := 24) (d := 28) rfl rfl ⟨_, _, _, rfl, rfl, rfl, rfl⟩ rfl rfl ?_
  refine wl_no (k := 24) (k' := 25) (d := 29) rfl rfl ⟨_, _, _, rfl, rfl, rfl, rfl⟩ rfl rfl ?_
  refine wl_no (k := 25) (k' := 26) (d := 30) rfl rfl ⟨_, _, _, rfl, rfl, rfl, rfl⟩ rfl rfl ?_
  refine wl_no (k := 26) (k' := 27) (d := 31) rfl rfl ⟨_, _, _, rfl, rfl, rfl, rfl⟩ rfl rfl ?_
  refine wl_no (k := 27) (k' := 28) (d := 32) rfl rfl ⟨_, _, _, rfl, rfl, rfl, rfl⟩ rfl rfl ?_
  refine wl_no (k := 28) (k' := 29) (d := 33) rfl rfl ⟨_, _, _, rfl, rfl, rfl, rfl⟩ rfl rfl ?_
  refine wl_no (k := 29) (k' := 30) (d := 34) rfl rfl ⟨_, _, _, rfl, rfl, rfl, rfl⟩ rfl rfl ?_
  refine wl_no (k := 30) (k' := 31) (d := 35) rfl rfl ⟨_, _, _, rfl, rfl, rfl, rfl⟩ rfl rfl ?_
  refine wlo 31 32 rfl rfl rfl (wo_run rfl rfl (run_pickT rfl rfl rfl) ?_)
  refine wla 32 33 rfl rfl rfl rfl rfl rfl rfl ?_
  refine wl_end rfl ?_
  refine nm_sub [(4, _)] ⟨rfl, trivial⟩ ?_
  refine nm_thn ?_
  refine ws_ret hC [_] rfl rfl ⟨rfl, trivial⟩ ?_
  exact ⟨_, rfl, (S2.pick [] [] (by decide) trivial), (by have e0 : k = 0 ∨ k = 1 ∨ k = 2 ∨ k = 3 := (by omega); rcases e0 with rfl | rfl | rfl | rfl <;> first | (exfalso; omega) | (show Value.bool _ = _; unfold entryB crIn; simp [*]))⟩
 ·replace hg8 := of_decide_eq_false hg8
  refine wl_opG (k := 4) (k' := 5) rfl rfl ⟨_, _, _, rfl, rfl, rfl, rfl⟩ rfl (wo_run rfl rfl (run_fieldAddr rfl rfl Try.underlying61 rfl (ce3) (nf3)) ?_)
  refine wl_opG (k := 5) (k' := 6) rfl rfl ⟨_, _, _, rfl, rfl, rfl, rfl⟩ rfl (wo_run rfl rfl (run_load1 rfl rfl Try.underlying3 rfl (S2.boxc (i := 0) rfl rfl)) ?_)
  refine wl_opG (k := 6) (k' := 7) rfl rfl ⟨_, _, _, rfl, rfl, rfl, rfl⟩ rfl (wo_run rfl rfl (run_eql rfl rfl rfl) ?_)
  refine wl_opG (k := 7) (k' := 8) rfl rfl ⟨_, _, _, rfl, rfl, rfl, rfl⟩ rfl (wo_run rfl rfl (run_move rfl rfl) ?_)
  refine wl_split (t := 12) rfl (fun hg12 => ?_) (fun hg12 => ?_)
  ·replace hg12 := of_decide_eq_true hg12
   refine wl_opG (k := 8) (k' := 9) rfl rfl ⟨_, _, _, rfl, rfl, rfl, rfl⟩ rfl (wo_run rfl rfl (run_fieldAddr rfl rfl Try.underlying24 rfl (ce22) (nf22)) ?_)
   refine wl_opG (k := 9) (k' := 10) rfl rfl ⟨_, _, _, rfl, rfl, rfl, rfl⟩ rfl (wo_run rfl rfl (run_load1 rfl rfl Try.underlying22 rfl (S2.boxc (i := 1) rfl rfl)) ?_)
   refine wl_opG (k := 10) (k' := 11) rfl rfl ⟨_, _, _, rfl, rfl, rfl, rfl⟩ rfl (wo_run rfl rfl (run_fieldAddr rfl rfl Try.underlying61 rfl (ce3) (nf3)) ?_)
   refine wl_opG (k := 11) (k' := 12) rfl rfl ⟨_, _, _, rfl, rfl, rfl, rfl⟩ rfl (wo_run rfl rfl (run_load1 rfl rfl Try.underlying3 rfl (S2.boxc (i := 0) rfl rfl)) ?_)
   refine wl_opG (k := 12) (k' := 13) rfl rfl ⟨_, _, _, rfl, rfl, rfl, rfl⟩ rfl (wo_run rfl rfl (run_indexM (C := cdCr) c rfl rfl rfl sl22 (by first | rfl | omega) hdcrs (by first | omega | (simp only [lens]; omega))) ?_)
   refine wl_opG (k := 13) (k' := 14) rfl rfl ⟨_, _, _, rfl, rfl, rfl, rfl⟩ rfl (wo_run rfl rfl (run_fieldAddr rfl rfl Try.underlying59 rfl (ce4) (nf4)) ?_)
   refine wl_opG (k := 14) (k' := 15) rfl rfl ⟨_, _, _, rfl, rfl, rfl, rfl⟩ rfl (wo_run rfl rfl (run_load1 rfl rfl Try.underlying4 rfl (hdcrs.cell S2.um (i := c) (by first | omega | (simp only [lens]; omega)) 4 rfl rfl)) ?_)
   refine wl_opG (k := 15) (k' := 16) rfl rfl ⟨_, _, _, rfl, rfl, rfl, rfl⟩ rfl (wo_run rfl rfl (run_not rfl rfl) ?_)
   refine wl_opG (k := 16) (k' := 17) rfl rfl ⟨_, _, _, rfl, rfl, rfl, rfl⟩ rfl (wo_run rfl rfl (run_pickT rfl rfl rfl) ?_)
   refine wlo 17 18 rfl rfl rfl (wo_run rfl rfl (run_pickF rfl rfl rfl) ?_)
   refine wlm 18 19 rfl rfl rfl rfl rfl rfl rfl ?_
   refine wl_split (t := 23) rfl (fun hg23 => ?_) (fun hg23 => ?_)
   ·simp only [Bool.and_eq_true, Bool.or_eq_true, Bool.and_eq_false_iff, Bool.or_eq_false_iff, decide_eq_true_eq, decide_eq_false_iff_not, Bool.not_eq_true', Bool.not_eq_false'] at hg23
    refine wl_no (k := 19) (k' := 20) (d := 24) rfl rfl ⟨_, _, _, rfl, rfl, rfl, rfl⟩ rfl rfl ?_
    refine wl_no (k := 20) (k' := 21) (d := 25) rfl rfl ⟨_, _, _, rfl, rfl, rfl, rfl⟩ rfl rfl ?_
    refine wl_no (k := 21) (k' := 22) (d := 26) rfl rfl ⟨_, _, _, rfl, rfl, rfl, rfl⟩ rfl rfl ?_
    refine wl_no (k := 22) (k' := 23) (d := 27) rfl rfl ⟨_, _, _, rfl, rfl, rfl, rfl⟩ rfl rfl ?_
    refine wl_no (k := 23) (k' := 24) (d := 28) rfl rfl ⟨_, _, _, rfl, rfl, rfl, rfl⟩ rfl rfl ?_
    refine wl_no (k := 24) (k' := 25) (d := 29) rfl rfl ⟨_, _, _, rfl, rfl, rfl, rfl⟩ rfl rfl ?_
    refine wl_no (k := 25) (k' := 26) (d := 30) rfl rfl ⟨_, _, _, rfl, rfl, rfl, rfl⟩ rfl rfl ?_
    refine wl_no (k := 26) (k' := 27) (d := 31) rfl rfl ⟨_, _, _, rfl, rfl, rfl, rfl⟩ rfl rfl ?_
    refine wl_no (k := 27) (k' := 28) (d := 32) rfl rfl ⟨_, _, _, rfl, rfl, rfl, rfl⟩ rfl rfl ?_
    refine wl_no (k := 28) (k' := 29) (d := 33) rfl rfl ⟨_, _, _, rfl, rfl, rfl, rfl⟩ rfl rfl ?_
    refine wl_no (k := 29) (k' := 30) (d := 34) rfl rfl ⟨_, _, _, rfl, rfl, rfl, rfl⟩ rfl rfl ?_
    refine wl_no (k := 30) (k' := 31) (d := 35) rfl rfl ⟨_, _, _, rfl, rfl, rfl, rfl⟩ rfl rfl ?_
    refine wlo 31 32 rfl rfl rfl (wo_run rfl rfl (run_pickT rfl rfl rfl) ?_)
    refine wla 32 33 rfl rfl rfl rfl rfl rfl rfl ?_
    refine wl_end rfl ?_
    refine nm_sub [(4, _)] ⟨rfl, trivial⟩ ?_
    refine nm_thn ?_
    refine ws_ret hC [_] rfl rfl ⟨rfl, trivial⟩ ?_
    exact ⟨_, rfl, (S2.pick [] [] (by decide) trivial), (by have e0 : k = 0 ∨ k = 1 ∨ k = 2 ∨ k = 3 := (by omega); rcases e0 with rfl | rfl | rfl | rfl <;> first | (exfalso; omega) | (show Value.bool _ = _; unfold entryB crIn; simp [*]))⟩
   ·simp only [Bool.and_eq_true, Bool.or_eq_true, Bool.and_eq_false_iff, Bool.or_eq_false_iff, decide_eq_true_eq, decide_eq_false_iff_not, Bool.not_eq_true', Bool.not_eq_false'] at hg23
    refine wl_opG (k := 19) (k' := 20) rfl rfl ⟨_, _, _, rfl, rfl, rfl, rfl⟩ rfl (wo_run rfl rfl (run_fieldAddr rfl rfl Try.underlying61 rfl (ce3) (nf3)) ?_)
    refine wl_opG (k := 20) (k' := 21) rfl rfl ⟨_, _, _, rfl, rfl, rfl, rfl⟩ rfl (wo_run rfl rfl (run_load1 rfl rfl Try.underlying3 rfl (S2.boxc (i := 0) rfl rfl)) ?_)
    refine wl_opG (k := 21) (k' := 22) rfl rfl ⟨_, _, _, rfl, rfl, rfl, rfl⟩ rfl (wo_run rfl rfl (run_eql rfl rfl rfl) ?_)
    refine wl_opG (k := 22) (k' := 23) rfl rfl ⟨_, _, _, rfl, rfl, rfl, rfl⟩ rfl (wo_run rfl rfl (run_move rfl rfl) ?_)
    refine wl_split (t := 27) rfl (fun hg27 => ?_) (fun hg27 => ?_)
    ·replace hg27 := of_decide_eq_true hg27
     refine wl_opG (k := 23) (k' := 24) rfl rfl ⟨_, _, _, rfl, rfl, rfl, rfl⟩ rfl (wo_run rfl rfl (run_fieldAddr rfl rfl Try.underlying24 rfl (ce22) (nf22)) ?_)
     refine wl_opG (k := 24) (k' := 25) rfl rfl ⟨_, _, _, rfl, rfl, rfl, rfl⟩ rfl (wo_run rfl rfl (run_load1 rfl rfl Try.underlying22 rfl (S2.boxc (i := 1) rfl rfl)) ?_)
     refine wl_opG (k := 25) (k' := 26) rfl rfl ⟨_, _, _, rfl, rfl, rfl, rfl⟩ rfl (wo_run rfl rfl (run_fieldAddr rfl rfl Try.underlying61 rfl (ce3) (nf3)) ?_)
     refine wl_opG (k := 26) (k' := 27) rfl rfl ⟨_, _, _, rfl, rfl, rfl, rfl⟩ rfl (wo_run rfl rfl (run_load1 rfl rfl Try.underlying3 rfl (S2.boxc (i := 0) rfl rfl)) ?_)
     refine wl_opG (k := 27) (k' := 28) rfl rfl ⟨_, _, _, rfl, rfl, rfl, rfl⟩ rfl (wo_run rfl rfl (run_indexM (C := cdCr) c rfl rfl rfl sl22 (by first | rfl | omega) hdcrs (by first | omega | (simp only [lens]; omega))) ?_)
     refine wl_opG (k := 28) (k' := 29) rfl rfl ⟨_, _, _, rfl, rfl, rfl, rfl⟩ rfl (wo_run rfl rfl (run_fieldAddr rfl rfl Try.underlying59 rfl (ce4) (nf4)) ?_)
     refine wl_opG (k := 29) (k' := 30) rfl rfl ⟨_, _, _, rfl, rfl, rfl, rfl⟩ rfl (wo_run rfl rfl (run_load1 rfl rfl Try.underlying4 rfl (hdcrs.cell S2.um (i := c) (by first | omega | (simp only [lens]; omega)) 4 rfl rfl)) ?_)
     refine wl_opG (k := 30) (k' := 31) rfl rfl ⟨_, _, _, rfl, rfl, rfl, rfl⟩ rfl (wo_run rfl rfl (run_pickT rfl rfl rfl) ?_)
     refine wlo 31 32 rfl rfl rfl (wo_run rfl rfl (run_pickF rfl rfl rfl) ?_)
     refine wla 32 33 rfl rfl rfl rfl rfl rfl rfl ?_
     refine wl_end rfl ?_
     refine nm_sub [(4, _)] ⟨rfl, trivial⟩ ?_
     refine nm_thn ?_
     refine ws_ret hC [_] rfl rfl ⟨rfl, trivial⟩ ?_
     exact ⟨_, rfl, (S2.pick [] [] (by decide) trivial), (by have e0 : k = 0 ∨ k = 1 ∨ k = 2 ∨ k = 3 := (by omega); rcases e0 with rfl | rfl | rfl | rfl <;> first | (exfalso; omega) | (show Value.bool _ = _; unfold entryB crIn; simp [*]))⟩
    ·replace hg27 := of_decide_eq_false hg27
     refine wl_no (k := 23) (k' := 24) (d := 28) rfl rfl ⟨_, _, _, rfl, rfl, rfl, rfl⟩ rfl rfl ?_
     refine wl_no (k := 24) (k' := 25) (d := 29) rfl rfl ⟨_, _, _, rfl, rfl, rfl, rfl⟩ rfl rfl ?_
     refine wl_no (k := 25) (k' := 26) (d := 30) rfl rfl ⟨_, _, _, rfl, rfl, rfl, rfl⟩ rfl rfl ?_
     refine wl_no (k := 26) (k' := 27) (d := 31) rfl rfl ⟨_, _, _, rfl, rfl, rfl, rfl⟩ rfl rfl ?_
     refine wl_no (k := 27) (k' := 28) (d := 32) rfl rfl ⟨_, _, _, rfl, rfl, rfl, rfl⟩ rfl rfl ?_
     refine wl_no (k := 28) (k' := 29) (d := 33) rfl rfl ⟨_, _, _, rfl, rfl, rfl, rfl⟩ rfl rfl ?_
     refine wl_no (k := 29) (k' := 30) (d := 34) rfl rfl ⟨_, _, _, rfl, rfl, rfl, rfl⟩ rfl rfl ?_
     refine wl_opG (k := 30) (k' := 31) rfl rfl ⟨_, _, _, rfl, rfl, rfl, rfl⟩ rfl (wo_run rfl rfl (run_pickF rfl rfl rfl) ?_)
     refine wlo 31 32 rfl rfl rfl (wo_run rfl rfl (run_pickF rfl rfl rfl) ?_)
     refine wla 32 33 rfl rfl rfl rfl rfl rfl rfl ?_
     refine wl_end rfl ?_
     refine nm_sub [(4, _)] ⟨rfl, trivial⟩ ?_
     refine nm_thn ?_
     refine ws_ret hC [_] rfl rfl ⟨rfl, trivial⟩ ?_
     exact ⟨_, rfl, (S2.pick [] [] (by decide) trivial), (by have e0 : k = 0 ∨ k = 1 ∨ k = 2 ∨ k = 3 := (by omega); rcases e0 with rfl | rfl | rfl | rfl <;> first | (exfalso; omega) | (show Value.bool _ = _; unfold entryB crIn; simp [*]))⟩
  ·replace hg12 := of_decide_eq_false hg12
   refine wl_no (k := 8) (k' := 9) (d := 13) rfl rfl ⟨_, _, _, rfl, rfl, rfl, rfl⟩ rfl rfl ?_
   refine wl_no (k := 9) (k' := 10) (d := 14) rfl rfl ⟨_, _, _, rfl, rfl, rfl, rfl⟩ rfl rfl ?_
   refine wl_no (k := 10) (k' := 11) (d := 15) rfl rfl ⟨_, _, _, rfl, rfl, rfl, rfl⟩ rfl rfl ?_
   refine wl_no (k := 11) (k' := 12) (d := 16) rfl rfl ⟨_, _, _, rfl, rfl, rfl, rfl⟩ rfl rfl ?_
   refine wl_no (k := 12) (k' := 13) (d := 17) rfl rfl ⟨_, _, _, rfl, rfl, rfl, rfl⟩ rfl rfl ?_
   refine wl_no (k := 13) (k' := 14) (d := 18) rfl rfl ⟨_, _, _, rfl, rfl, rfl, rfl⟩ rfl rfl ?_
   refine wl_no (k := 14) (k' := 15) (d := 19) rfl rfl ⟨_, _, _, rfl, rfl, rfl, rfl⟩ rfl rfl ?_
   refine wl_no (k := 15) (k' := 16) (d := 20) rfl rfl ⟨_, _, _, rfl, rfl, rfl, rfl⟩ rfl rfl ?_
   refine wl_opG (k := 16) (k' := 17) rfl rfl ⟨_, _, _, rfl, rfl, rfl, rfl⟩ rfl (wo_run rfl rfl (run_pickF rfl rfl rfl) ?_)
   refine wlo 17 18 rfl rfl rfl (wo_run rfl rfl (run_pickF rfl rfl rfl) ?_)
   refine wlm 18 19 rfl rfl rfl rfl rfl rfl rfl ?_
   refine wl_opG (k := 19) (k' := 20) rfl rfl ⟨_, _, _, rfl, rfl, rfl, rfl⟩ rfl (wo_run rfl rfl (run_fieldAddr rfl rfl Try.underlying61 rfl (ce3) (nf3)) ?_)
   refine wl_opG (k := 20) (k' := 21) rfl rfl ⟨_, _, _, rfl, rfl, rfl, rfl⟩ rfl (wo_run rfl rfl (run_load1 rfl rfl Try.underlying3 rfl (S2.boxc (i := 0) rfl rfl)) ?_)
   refine wl_opG (k := 21) (k' := 22) rfl rfl ⟨_, _, _, rfl, rfl, rfl, rfl⟩ rfl (wo_run rfl rfl (run_eql rfl rfl rfl) ?_)
   refine wl_opG (k := 22) (k' := 23) rfl rfl ⟨_, _, _, rfl, rfl, rfl, rfl⟩ rfl (wo_run rfl rfl (run_move rfl rfl) ?_)
   refine wl_split (t := 27) rfl (fun hg27 => ?_) (fun hg27 => ?_)
   ·replace hg27 := of_decide_eq_true hg27
    refine wl_opG (k := 23) (k' := 24) rfl rfl ⟨_, _, _, rfl, rfl, rfl, rfl⟩ rfl (wo_run rfl rfl (run_fieldAddr rfl rfl Try.underlying24 rfl (ce22) (nf22)) ?_)
    refine wl_opG (k := 24) (k' := 25) rfl rfl ⟨_, _, _, rfl, rfl, rfl, rfl⟩ rfl (wo_run rfl rfl (run_load1 rfl rfl Try.underlying22 rfl (S2.boxc (i := 1) rfl rfl)) ?_)
    refine wl_opG (k := 25) (k' := 26) rfl rfl ⟨_, _, _, rfl, rfl, rfl, rfl⟩ rfl (wo_run rfl rfl (run_fieldAddr rfl rfl Try.underlying61 rfl (ce3) (nf3)) ?_)
    refine wl_opG (k := 26) (k' := 27) rfl rfl ⟨_, _, _, rfl, rfl, rfl, rfl⟩ rfl (wo_run rfl rfl (run_load1 rfl rfl Try.underlying3 rfl (S2.boxc (i := 0) rfl rfl)) ?_)
    refine wl_opG (k := 27) (k' := 28) rfl rfl ⟨_, _, _, rfl, rfl, rfl, rfl⟩ rfl (wo_run rfl rfl (run_indexM (C := cdCr) c rfl rfl rfl sl22 (by first | rfl | omega) hdcrs (by first | omega | (simp only [lens]; omega))) ?_)
    refine wl_opG (k := 28) (k' := 29) rfl rfl ⟨_, _, _, rfl, rfl, rfl, rfl⟩ rfl (wo_run rfl rfl (run_fieldAddr rfl rfl Try.underlying59 rfl (ce4) (nf4)) ?_)
    refine wl_opG (k := 29) (k' := 30) rfl rfl ⟨_, _, _, rfl, rfl, rfl, rfl⟩ rfl (wo_run rfl rfl (run_load1 rfl rfl Try.underlying4 rfl (hdcrs.cell S2.um (i := c) (by first | omega | (simp only [lens]; omega)) 4 rfl rfl)) ?_)
    refine wl_opG (k := 30) (k' := 31) rfl rfl ⟨_, _, _, rfl, rfl, rfl, rfl⟩ rfl (wo_run rfl rfl (run_pickT rfl rfl rfl) ?_)
    refine wlo 31 32 rfl rfl rfl (wo_run rfl rfl (run_pickF rfl rfl rfl) ?_)
    refine wla 32 33 rfl rfl rfl rfl rfl rfl rfl ?_
    refine wl_end rfl ?_
    refine nm_sub [(4, _)] ⟨rfl, trivial⟩ ?_
    refine nm_thn ?_
    refine ws_ret hC [_] rfl rfl ⟨rfl, trivial⟩ ?_
    exact ⟨_, rfl, (S2.pick [] [] (by decide) trivial), (by have e0 : k = 0 ∨ k = 1 ∨ k = 2 ∨ k = 3 := (by omega); rcases e0 with rfl | rfl | rfl | rfl <;> first | (exfalso; omega) | (show Value.bool _ = _; unfold entryB crIn; simp [*]))⟩
   ·replace hg27 := of_decide_eq_false hg27
    refine wl_no (k := 23) (k' := 24) (d := 28) rfl rfl ⟨_, _, _, rfl, rfl, rfl, rfl⟩ rfl rfl ?_
    refine wl_no (k := 24) (k' := 25) (d := 29) rfl rfl ⟨_, _, _, rfl, rfl, rfl, rfl⟩ rfl rfl ?_
    refine wl_no (k := 25) (k' := 26) (d := 30) rfl rfl ⟨_, _, _, rfl, rfl, rfl, rfl⟩ rfl rfl ?_
    refine wl_no (k := 26) (k' := 27) (d := 31) rfl rfl ⟨_, _, _, rfl, rfl, rfl, rfl⟩ rfl rfl ?_
    refine wl_no (k := 27) (k' := 28) (d := 32) rfl rfl ⟨_, _, _, rfl, rfl, rfl, rfl⟩ rfl rfl ?_
    refine wl_no (k := 28) (k' := 29) (d := 33) rfl rfl ⟨_, _, _, rfl, rfl, rfl, rfl⟩ rfl rfl ?_
    refine wl_no (k := 29) (k' := 30) (d := 34) rfl rfl ⟨_, _, _, rfl, rfl, rfl, rfl⟩ rfl rfl ?_
    refine wl_opG (k := 30) (k' := 31) rfl rfl ⟨_, _, _, rfl, rfl, rfl, rfl⟩ rfl (wo_run rfl rfl (run_pickF rfl rfl rfl) ?_)
    refine wlo 31 32 rfl rfl rfl (wo_run rfl rfl (run_pickF rfl rfl rfl) ?_)
    refine wla 32 33 rfl rfl rfl rfl rfl rfl rfl ?_
    refine wl_end rfl ?_
    refine nm_sub [(4, _)] ⟨rfl, trivial⟩ ?_
    refine nm_thn ?_
    refine ws_ret hC [_] rfl rfl ⟨rfl, trivial⟩ ?_
    exact ⟨_, rfl, (S2.pick [] [] (by decide) trivial), (by have e0 : k = 0 ∨ k = 1 ∨ k = 2 ∨ k = 3 := (by omega); rcases e0 with rfl | rfl | rfl | rfl <;> first | (exfalso; omega) | (show Value.bool _ = _; unfold entryB crIn; simp [*]))⟩
noncomputable def EndOf_n0 : Code := Try.f68.body.getD .skip
noncomputable def EndOf_n1 : Code := cL EndOf_n0
noncomputable def EndOf_n2 : Code := cR EndOf_n0
noncomputable def EndOf_n3 : Code := cL EndOf_n2
noncomputable def EndOf_n4 : Code := cR EndOf_n2
noncomputable def EndOf_n5 : Code := cL EndOf_n3
noncomputable def EndOf_n6 : Code := cR EndOf_n3
noncomputable def EndOf_n7 : Code := cL EndOf_n6
noncomputable def EndOf_n8 : Code := cL EndOf_n7
noncomputable def EndOf_n9 : Code := cL EndOf_n8
noncomputable def EndOf_n10 : Code := cR EndOf_n8
noncomputable def EndOf_n11 : Code := cL EndOf_n9
noncomputable def EndOf_n12 : Code := cR EndOf_n9
noncomputable def EndOf_n13 : Code := cL EndOf_n12
noncomputable def EndOf_n14 : Code := cR EndOf_n12
noncomputable def EndOf_n15 : Code := cL EndOf_n10
noncomputable def EndOf_n16 : Code := cR EndOf_n10
noncomputable def EndOf_n17 : Code := cL EndOf_n15
noncomputable def EndOf_n18 : Code := cL EndOf_n17
noncomputable def EndOf_n19 : Code := cR EndOf_n17
noncomputable def EndOf_n20 : Code := cL EndOf_n19
noncomputable def EndOf_n21 : Code := cL EndOf_n20
noncomputable def EndOf_n22 : Code := cL EndOf_n21
noncomputable def EndOf_n23 : Code := cR EndOf_n21
noncomputable def EndOf_n24 : Code := cL EndOf_n22
noncomputable def EndOf_n25 : Code := cR EndOf_n22
noncomputable def EndOf_n26 : Code := cL EndOf_n25
noncomputable def EndOf_n27 : Code := cR EndOf_n25
noncomputable def EndOf_n28 : Code := cL EndOf_n23
noncomputable def EndOf_n29 : Code := cR EndOf_n23
noncomputable def EndOf_n30 : Code := cL EndOf_n28
noncomputable def EndOf_n31 : Code := cL EndOf_n30
noncomputable def EndOf_n32 : Code := cR EndOf_n30
noncomputable def EndOf_n33 : Code := cL EndOf_n32
noncomputable def EndOf_n34 : Code := cR EndOf_n32
noncomputable def EndOf_n35 : Code := cL EndOf_n34
noncomputable def EndOf_n36 : Code := cR EndOf_n34
noncomputable def EndOf_n37 : Code := cL EndOf_n35
noncomputable def EndOf_n38 : Code := cR EndOf_n35
noncomputable def EndOf_n39 : Code := cL EndOf_n4
noncomputable def EndOf_n40 : Code := cR EndOf_n4
set_option maxHeartbeats 1000000 in
set_option maxRecDepth 10000 in
theorem EndOf_q {w : World} {M : Hp} {X : Fr} (d : Dg) {dcrsA : Option Addr} {dcrsc : Nat} (a : Int) (back : Bool) (hdcrs : RdA cdCr (M.un X.h) dcrsA dcrsc d.crs) (S : SH w M X []) : Cq Try.prog 68 [.agg [.slice dcrsA d.crs.length dcrsc, .int .i64 d.loops].toArray, .int .i64 a, .bool back] w M X (fun u => u = .agg (plF (endOf d a back)).toArray) := by
 unfold Cq
 have rmhdcrs : d.crs.length * 40 ≤ 140737488355328 := hdcrs.room
 refine calls_in (b := EndOf_n0) Try.func68 rfl Try.ntmps68 rfl (fun C hC => ?_)
 refine ws_sub [(0, _), (1, _), (2, _)] ⟨rfl, rfl, rfl, trivial⟩ ?_
 refine ws_seqN EndOf_n1 EndOf_n2 rfl rfl rfl ?_
 refine ws_region rfl ?_
 refine wlo 0 1 rfl rfl rfl (wo_box (l := [_, _]) rfl rfl rfl rfl rfl S ?_)
 intro gb1 w1 S1; clear S
 refine wlo 1 2 rfl rfl rfl (wo_alloc (l := [_, _]) rfl rfl rfl zr61 rfl S1 ?_)
 intro gb2 w2 S2; clear S1
 refine wl_end rfl ?_
 refine nm_sub [(1, _), (2, _), (3, _), (6, _)] ⟨rfl, rfl, rfl, rfl, trivial⟩ ?_
 refine nm_thn ?_
 refine ws_seqN EndOf_n3 EndOf_n4 rfl rfl rfl ?_
 refine ws_seqN EndOf_n5 EndOf_n6 rfl rfl rfl ?_
 refine ws_region rfl ?_
 refine wla 0 1 rfl rfl rfl rfl rfl rfl rfl ?_
 refine wl_end rfl ?_
 refine nm_thn ?_
 refine ws_blockN EndOf_n7 0 rfl rfl rfl ?_
 refine ws_loopE (fun mx_ ax_ wx_ => ∃ (i : Nat), mx_ = d.crs.length - i ∧ Env 38 [(1, .int .i64 a), (2, .bool back), (3, .pointer (some ⟨gb1, 0, none⟩)), (6, .pointer (some ⟨gb2, 0, none⟩)), (7, .int .i64 (i : Int))] ax_ ∧ SH wx_ M X [Rs.box gb2 61 [.int .i64 0, .int .i64 0], Rs.box gb1 24 [.slice dcrsA d.crs.length dcrsc, .int .i64 d.loops]] ∧ i ≤ d.crs.length ∧ (∀ j, j < 4 * i → endP d a back j = false)) rfl ?_ ?_
 ·intro ax_ hax_
  refine ⟨_, ⟨0, rfl, hax_.sub ⟨rfl, rfl, rfl, rfl, rfl, trivial⟩, S2.pick [0, 1] [_, _] (by decide) ⟨rfl, rfl, trivial⟩, ?hq1f0, ?hq1f1⟩⟩
  case hq1f0 => omega
  case hq1f1 => (intro j hj; omega)
 ·rintro m1 a1 w3 ⟨i, rfl, he1, S3, hi, hno⟩
  clear S2
  refine ws_in he1 (c := EndOf_n8) rfl ?_
  clear he1 a1
  refine ws_seqN EndOf_n9 EndOf_n10 rfl rfl rfl ?_
  refine ws_seqN EndOf_n11 EndOf_n12 rfl rfl rfl ?_
  refine ws_region rfl ?_
  refine wlm 0 1 rfl rfl rfl rfl rfl rfl rfl ?_
  refine wlo 1 2 rfl rfl rfl (wo_run rfl rfl (run_fieldAddr rfl rfl Try.underlying24 rfl (ce22) (nf22)) ?_)
  refine wlo 2 3 rfl rfl rfl (wo_run rfl rfl (run_load1 rfl rfl Try.underlying22 rfl (S3.boxc (i := 1) rfl rfl)) ?_)
  refine wlo 3 4 rfl rfl rfl (wo_run rfl rfl (run_len rfl rfl rfl rfl rfl rfl Try.underlying22) ?_)
  refine wlo 4 5 rfl rfl rfl (wo_run rfl rfl (run_lss rfl rfl rfl) ?_)
  refine wl_end rfl ?_
  refine nm_sub [(1, _), (2, _), (3, _), (6, _), (7, _), (14, _)] ⟨rfl, rfl, rfl, rfl, rfl, rfl, trivial⟩ ?_
  refine nm_thn ?_
  refine ws_condN EndOf_n13 EndOf_n14 rfl rfl rfl rfl (fun hb14 => ?_) (fun hb14 => ?_)
  ·replace hb14 := of_decide_eq_true hb14
   refine ws_skip rfl ?_
   refine nm_sub [(1, _), (2, _), (3, _), (6, _), (7, _)] ⟨rfl, rfl, rfl, rfl, rfl, trivial⟩ ?_
   refine nm_thn ?_
   refine ws_seqN EndOf_n15 EndOf_n16 rfl rfl rfl ?_
   refine ws_blockN EndOf_n17 1 rfl rfl rfl ?_
   refine ws_seqN EndOf_n18 EndOf_n19 rfl rfl rfl ?_
   refine ws_region rfl ?_
   refine wla 0 1 rfl rfl rfl rfl rfl rfl rfl ?_
   refine wl_end rfl ?_
   refine nm_thn ?_
   refine ws_blockN EndOf_n20 2 rfl rfl rfl ?_
   refine ws_loopE (fun mx_ ax_ wx_ => ∃ (k : Nat), mx_ = 4 - k ∧ Env 38 [(1, .int .i64 a), (2, .bool back), (3, .pointer (some ⟨gb1, 0, none⟩)), (6, .pointer (some ⟨gb2, 0, none⟩)), (7, .int .i64 (i : Int)), (8, .int .i64 (k : Int))] ax_ ∧ SH wx_ M X [Rs.box gb2 61 [.int .i64 0, .int .i64 0], Rs.box gb1 24 [.slice dcrsA d.crs.length dcrsc, .int .i64 d.loops]] ∧ k ≤ 4 ∧ (∀ j, j < 4 * i + k → endP d a back j = false)) rfl ?_ ?_
   ·intro ax_ hax_
    refine ⟨_, ⟨0, rfl, hax_.sub ⟨rfl, rfl, rfl, rfl, rfl, rfl, trivial⟩, S3.pick [0, 1] [_, _] (by decide) ⟨rfl, rfl, trivial⟩, ?hq2f0, ?hq2f1⟩⟩
    case hq2f0 => omega
    case hq2f1 => (intro j hj; exact hno j (by omega))
   ·rintro m2 a2 w4 ⟨k, rfl, he2, S4, hk, hno2⟩
    clear S3
    refine ws_in he2 (c := EndOf_n21) rfl ?_
    clear he2 a2
    refine ws_seqN EndOf_n22 EndOf_n23 rfl rfl rfl ?_
    refine ws_seqN EndOf_n24 EndOf_n25 rfl rfl rfl ?_
    refine ws_region rfl ?_
    refine wlm 0 1 rfl rfl rfl rfl rfl rfl rfl ?_
    refine wlo 1 2 rfl rfl rfl (wo_run rfl rfl (run_lss rfl rfl rfl) ?_)
    refine wl_end rfl ?_
    refine nm_sub [(1, _), (2, _), (3, _), (6, _), (7, _), (8, _), (18, _)] ⟨rfl, rfl, rfl, rfl, rfl, rfl, rfl, trivial⟩ ?_
    refine nm_thn ?_
    refine ws_condN EndOf_n26 EndOf_n27 rfl rfl rfl rfl (fun hb18 => ?_) (fun hb18 => ?_)
    ·replace hb18 := of_decide_eq_true hb18
     refine ws_skip rfl ?_
     refine nm_sub [(1, _), (2, _), (3, _), (6, _), (7, _), (8, _)] ⟨rfl, rfl, rfl, rfl, rfl, rfl, trivial⟩ ?_
     refine nm_thn ?_
     refine ws_seqN EndOf_n28 EndOf_n29 rfl rfl rfl ?_
     refine ws_blockN EndOf_n30 3 rfl rfl rfl ?_
     refine ws_seqN EndOf_n31 EndOf_n32 rfl rfl rfl ?_
     refine ws_region rfl ?_
     refine wlm 0 1 rfl rfl rfl rfl rfl rfl rfl ?_
     refine wlm 1 2 rfl rfl rfl rfl rfl rfl rfl ?_
     refine wlo 2 3 rfl rfl rfl (wo_run rfl rfl (run_build (l := [_, _]) rfl rfl st61 rfl rfl) ?_)
     refine wlo 3 4 rfl rfl rfl (wo_alloc (l := [_, _]) rfl rfl rfl zr61 rfl S4 ?_)
     intro gb3 w5 S5; clear S4
     refine wlo 4 5 rfl rfl rfl (wo_storeB (i := 0) (us := [_, _]) (l' := [_, _]) (H' := [_, _, _]) rfl rfl S5 rfl rfl rfl rfl sz61 rfl rfl rfl rfl ?_)
     intro w6 S6; clear S5
     refine wl_end rfl ?_
     refine nm_sub [(1, _), (2, _), (3, _), (6, _), (7, _), (8, _), (9, _)] ⟨rfl, rfl, rfl, rfl, rfl, rfl, rfl, trivial⟩ ?_
     refine nm_thn ?_
     refine ws_seqN EndOf_n33 EndOf_n34 rfl rfl rfl ?_
     refine ws_region rfl ?_
     refine wlo 0 1 rfl rfl rfl (wo_run rfl rfl (run_loadN (us := [_, _]) rfl rfl Try.underlying24 rfl sz24 (S6.boxcs (i := 2) rfl ⟨rfl, rfl, trivial⟩)) ?_)
     refine wlo 1 2 rfl rfl rfl (wo_run rfl rfl (run_loadN (us := [_, _]) rfl rfl Try.underlying61 rfl sz61 (S6.boxcs (i := 0) rfl ⟨rfl, rfl, trivial⟩)) ?_)
     refine wlo 2 3 rfl rfl rfl (wo_cq rfl rfl rfl rfl rfl rfl rfl cf30 S6 (ArcAt_q d i k (hdcrs.mono S6.un_XH) (by omega) (by omega) S6.lend) ?_)
     rintro _ w7 S7 rfl; clear S6
     refine wlm 3 4 rfl rfl rfl rfl rfl rfl rfl ?_
     refine wlo 4 5 rfl rfl rfl (wo_run rfl rfl (run_eql rfl rfl rfl) ?_)
     refine wlm 5 6 rfl rfl rfl rfl rfl rfl rfl ?_
     refine wl_split (t := 29) rfl (fun hg29 => ?_) (fun hg29 => ?_)
     ·replace hg29 := of_decide_eq_true hg29
      refine wl_opG (k := 6) (k' := 7) rfl rfl ⟨_, _, _, rfl, rfl, rfl, rfl⟩ rfl (wo_run rfl rfl (run_loadN (us := [_, _]) rfl rfl Try.underlying24 rfl sz24 (S7.boxcs (i := 2) rfl ⟨rfl, rfl, trivial⟩)) ?_)
      refine wl_opG (k := 7) (k' := 8) rfl rfl ⟨_, _, _, rfl, rfl, rfl, rfl⟩ rfl (wo_run rfl rfl (run_loadN (us := [_, _]) rfl rfl Try.underlying61 rfl sz61 (S7.boxcs (i := 0) rfl ⟨rfl, rfl, trivial⟩)) ?_)
      refine wl_opG (k := 8) (k' := 9) rfl rfl ⟨_, _, _, rfl, rfl, rfl, rfl⟩ rfl (wo_cq rfl rfl rfl rfl rfl rfl rfl cf31 S7 (Entry_q d i k (hdcrs.mono S7.un_XH) (by omega) (by omega) S7.lend) ?_)
      rintro _ w8 S8 rfl; clear S7
      refine wl_opG (k := 9) (k' := 10) rfl rfl ⟨_, _, _, rfl, rfl, rfl, rfl⟩ rfl (wo_run rfl rfl (run_move rfl rfl) ?_)
      refine wl_opG (k := 10) (k' := 11) rfl rfl ⟨_, _, _, rfl, rfl, rfl, rfl⟩ rfl (wo_run rfl rfl (run_bne rfl rfl rfl Try.underlying4) ?_)
      refine wlo 11 12 rfl rfl rfl (wo_run rfl rfl (run_pickT rfl rfl rfl) ?_)
      refine wl_end rfl ?_
      refine nm_sub [(1, _), (2, _), (3, _), (6, _), (7, _), (8, _), (9, _), (35, _)] ⟨rfl, rfl, rfl, rfl, rfl, rfl, rfl, rfl, trivial⟩ ?_
      refine nm_thn ?_
      refine ws_condN EndOf_n35 EndOf_n36 rfl rfl rfl rfl (fun hb35 => ?_) (fun hb35 => ?_)
      ·refine ws_seqN EndOf_n37 EndOf_n38 rfl rfl rfl ?_
       refine ws_region rfl ?_
       refine wlo 0 1 rfl rfl rfl (wo_run rfl rfl (run_loadN (us := [_, _]) rfl rfl Try.underlying61 rfl sz61 (S8.boxcs (i := 0) rfl ⟨rfl, rfl, trivial⟩)) ?_)
       refine wlo 1 2 rfl rfl rfl (wo_storeB (i := 1) (us := [_, _]) (l' := [_, _]) (H' := [_, _, _]) rfl rfl S8 rfl rfl rfl rfl sz61 rfl rfl rfl rfl ?_)
       intro w9 S9; clear S8
       refine wl_end rfl ?_
       refine nm_sub [(6, _)] ⟨rfl, trivial⟩ ?_
       refine nm_thn ?_
       refine ws_ret hC [_] rfl rfl ⟨⟨_, rfl, loadVarN (us := [_, _]) Try.underlying61 rfl sz61 (S9.boxcs (i := 1) rfl ⟨rfl, rfl, trivial⟩)⟩, trivial⟩ ?_
       exact ⟨_, rfl, (S9.pick [] [] (by decide) trivial), (by first | (rw [endOf_miss (fun j hj => hno j (by omega))]; rfl) | (rw [endOf_hit (j := 4 * i + k) (by omega) (by rw [endP_at (by omega), decide_eq_true (by omega)]; simpa using hb35) hno2, show (4 * i + k) / 4 = i by omega, show (4 * i + k) % 4 = k by omega]; rfl))⟩
      ·refine ws_skip rfl ?_
       refine nm_blk ?_
       refine nm_sub [(1, _), (2, _), (3, _), (6, _), (7, _), (8, _)] ⟨rfl, rfl, rfl, rfl, rfl, rfl, trivial⟩ ?_
       refine nm_thn ?_
       refine ws_region rfl ?_
       refine wlm 0 1 rfl rfl rfl rfl rfl rfl rfl ?_
       refine wlo 1 2 rfl rfl rfl (wo_run rfl rfl (run_add rfl rfl rfl (by first | omega | (simp only [lens]; omega))) ?_)
       refine wla 2 3 rfl rfl rfl rfl rfl rfl rfl ?_
       refine wl_end rfl ?_
       refine nm_lp ?_
       intro ax_ hax_
       refine ⟨_, ?hq3m, ⟨k + 1, rfl, hax_.sub ⟨rfl, rfl, rfl, rfl, rfl, rfl, trivial⟩, S8.pick [1, 2] [_, _] (by decide) ⟨rfl, rfl, trivial⟩, ?hq3f0, ?hq3f1⟩⟩
       case hq3f0 => omega
       case hq3f1 => (intro j hj; by_cases h : j = 4 * i + k; (subst h; rw [endP_at (by omega)]; first | (rw [decide_eq_false (by omega)]; rfl) | (rw [Bool.and_eq_false_iff]; right; simpa using hb35)); exact hno2 j (by omega))
       case hq3m => omega
     ·replace hg29 := of_decide_eq_false hg29
      refine wl_no (k := 6) (k' := 7) (d := 30) rfl rfl ⟨_, _, _, rfl, rfl, rfl, rfl⟩ rfl rfl ?_
      refine wl_no (k := 7) (k' := 8) (d := 31) rfl rfl ⟨_, _, _, rfl, rfl, rfl, rfl⟩ rfl rfl ?_
      refine wl_no (k := 8) (k' := 9) (d := 32) rfl rfl ⟨_, _, _, rfl, rfl, rfl, rfl⟩ rfl rfl ?_
      refine wl_no (k := 9) (k' := 10) (d := 33) rfl rfl ⟨_, _, _, rfl, rfl, rfl, rfl⟩ rfl rfl ?_
      refine wl_no (k := 10) (k' := 11) (d := 34) rfl rfl ⟨_, _, _, rfl, rfl, rfl, rfl⟩ rfl rfl ?_
      refine wlo 11 12 rfl rfl rfl (wo_run rfl rfl (run_pickF rfl rfl rfl) ?_)
      refine wl_end rfl ?_
      refine nm_sub [(1, _), (2, _), (3, _), (6, _), (7, _), (8, _), (9, _), (35, _)] ⟨rfl, rfl, rfl, rfl, rfl, rfl, rfl, rfl, trivial⟩ ?_
      refine nm_thn ?_
      refine ws_condFN EndOf_n36 rfl rfl rfl ?_
      refine ws_skip rfl ?_
      refine nm_blk ?_
      refine nm_sub [(1, _), (2, _), (3, _), (6, _), (7, _), (8, _)] ⟨rfl, rfl, rfl, rfl, rfl, rfl, trivial⟩ ?_
      refine nm_thn ?_
      refine ws_region rfl ?_
      refine wlm 0 1 rfl rfl rfl rfl rfl rfl rfl ?_
      refine wlo 1 2 rfl rfl rfl (wo_run rfl rfl (run_add rfl rfl rfl (by first | omega | (simp only [lens]; omega))) ?_)
      refine wla 2 3 rfl rfl rfl rfl rfl rfl rfl ?_
      refine wl_end rfl ?_
      refine nm_lp ?_
      intro ax_ hax_
      refine ⟨_, ?hq4m, ⟨k + 1, rfl, hax_.sub ⟨rfl, rfl, rfl, rfl, rfl, rfl, trivial⟩, S7.pick [1, 2] [_, _] (by decide) ⟨rfl, rfl, trivial⟩, ?hq4f0, ?hq4f1⟩⟩
      case hq4f0 => omega
      case hq4f1 => (intro j hj; by_cases h : j = 4 * i + k; (subst h; rw [endP_at (by omega)]; first | (rw [decide_eq_false (by omega)]; rfl) | (rw [Bool.and_eq_false_iff]; right; simpa using hb35)); exact hno2 j (by omega))
      case hq4m => omega
    ·replace hb18 := of_decide_eq_false hb18
     refine ws_exit rfl rfl ?_
     refine nm_blk ?_
     refine nm_sub [(1, _), (2, _), (3, _), (6, _), (7, _)] ⟨rfl, rfl, rfl, rfl, rfl, trivial⟩ ?_
     refine nm_thn ?_
     refine ws_region rfl ?_
     refine wlm 0 1 rfl rfl rfl rfl rfl rfl rfl ?_
     refine wlo 1 2 rfl rfl rfl (wo_run rfl rfl (run_add rfl rfl rfl (by first | omega | (simp only [lens]; omega))) ?_)
     refine wla 2 3 rfl rfl rfl rfl rfl rfl rfl ?_
     refine wl_end rfl ?_
     refine nm_lp ?_
     intro ax_ hax_
     refine ⟨_, ?hq5m, ⟨i + 1, rfl, hax_.sub ⟨rfl, rfl, rfl, rfl, rfl, trivial⟩, S4.pick [0, 1] [_, _] (by decide) ⟨rfl, rfl, trivial⟩, ?hq5f0, ?hq5f1⟩⟩
     case hq5f0 => omega
     case hq5f1 => (intro j hj; exact hno2 j (by omega))
     case hq5m => omega
  ·replace hb14 := of_decide_eq_false hb14
   refine ws_exit rfl rfl ?_
   refine nm_sub [(6, _)] ⟨rfl, trivial⟩ ?_
   refine nm_thn ?_
   refine ws_seqN EndOf_n39 EndOf_n40 rfl rfl rfl ?_
   refine ws_region rfl ?_
   refine wlo 0 1 rfl rfl rfl (wo_run rfl rfl (run_build (l := [_, _]) rfl rfl st61 rfl rfl) ?_)
   refine wlo 1 2 rfl rfl rfl (wo_storeB (i := 0) (us := [_, _]) (l' := [_, _]) (H' := [_, _]) rfl rfl S3 rfl rfl rfl rfl sz61 rfl rfl rfl rfl ?_)
   intro w10 S10; clear S3
   refine wl_end rfl ?_
   refine nm_sub [(6, _)] ⟨rfl, trivial⟩ ?_
   refine nm_thn ?_
   refine ws_ret hC [_] rfl rfl ⟨⟨_, rfl, loadVarN (us := [_, _]) Try.underlying61 rfl sz61 (S10.boxcs (i := 0) rfl ⟨rfl, rfl, trivial⟩)⟩, trivial⟩ ?_
   exact ⟨_, rfl, (S10.pick [] [] (by decide) trivial), (by first | (rw [endOf_miss (fun j hj => hno j (by omega))]; rfl) | (rw [endOf_hit (j := 4 * i + k) (by omega) (by rw [endP_at (by omega), decide_eq_true (by omega)]; simpa using hb35) hno2, show (4 * i + k) / 4 = i by omega, show (4 * i + k) % 4 = k by omega]; rfl))⟩
end Go.Proofs.Ytefkjfcncpmneaa
namespace Go.Proofs.Ytefkjfcncpmneaa
open Go.ChangeShapes Go.WideShapes Go.ChangeAt Go.RowKit
/-- The labels of the pieces: one arc's step, a round, so many rounds. -/
def stepW (ws : List Int) (x y : Nat) : List Int := if ga ws x < ga ws y then ws.set y (ga ws x) else ws.set x (ga ws y)
def iniW (n : Nat) : Nat → List Int
 | 0 => List.replicate n 0
 | k + 1 => (iniW n k).set k (k : Int)
def endC (d : Dg) (k : Nat) (b : Bool) : Nat := (endOf d ((k + 1 : Nat) : Int) b).1
def roundW (d : Dg) (ws : List Int) : Nat → List Int
 | 0 => ws
 | k + 1 => stepW (roundW d ws k) (endC d k false) (endC d k true)
def rndsW (d : Dg) : Nat → List Int
 | 0 => iniW d.crs.length d.crs.length
 | j + 1 => roundW d (rndsW d j) (2 * d.crs.length)
def whoL (d : Dg) : List Int := rndsW d d.crs.length
theorem stepW_len (ws : List Int) (x y : Nat) : (stepW ws x y).length = ws.length := by
 unfold stepW
 split <;> rw [List.length_set]
theorem iniW_len (n k : Nat) : (iniW n k).length = n := by
 induction k with
 | zero => exact List.length_replicate
 | succ k ih => rw [iniW, List.length_set, ih]
theorem roundW_len (d : Dg) (ws : List Int) (k : Nat) : (roundW d ws k).length = ws.length := by
 induction k with
 | zero => rfl
 | succ k ih => rw [roundW, stepW_len, ih]
theorem rndsW_len (d : Dg) (j : Nat) : (rndsW d j).length = d.crs.length := by
 induction j with
 | zero => exact iniW_len _ _
 | succ j ih => rw [rndsW, roundW_len, ih]
theorem endC_lt {d : Dg} (h : arcsB d = true) {k : Nat} (hk : k < 2 * d.crs.length) (b : Bool) : endC d k b < d.crs.length := (endD h (a := ((k + 1 : Nat) : Int)) (by omega) b).1
noncomputable def PiecesOf_n0 : Code := Try.f32.body.getD .skip
noncomputable def PiecesOf_n1 : Code := cL PiecesOf_n0
noncomputable def PiecesOf_n2 : Code := cR PiecesOf_n0
noncomputable def PiecesOf_n3 : Code := cL PiecesOf_n2
noncomputable def PiecesOf_n4 : Code := cR PiecesOf_n2
noncomputable def PiecesOf_n5 : Code := cL PiecesOf_n4
noncomputable def PiecesOf_n6 : Code := cR PiecesOf_n4
noncomputable def PiecesOf_n7 : Code := cL PiecesOf_n6
noncomputable def PiecesOf_n8 : Code := cR PiecesOf_n6
noncomputable def PiecesOf_n9 : Code := cL PiecesOf_n7
noncomputable def PiecesOf_n10 : Code := cR PiecesOf_n7
noncomputable def PiecesOf_n11 : Code := cL PiecesOf_n10
noncomputable def PiecesOf_n12 : Code := cL PiecesOf_n11
noncomputable def PiecesOf_n13 : Code := cL PiecesOf_n12
noncomputable def PiecesOf_n14 : Code := cR PiecesOf_n12
noncomputable def PiecesOf_n15 : Code := cL PiecesOf_n13
noncomputable def PiecesOf_n16 : Code := cR PiecesOf_n13
noncomputable def PiecesOf_n17 : Code := cL PiecesOf_n16
noncomputable def PiecesOf_n18 : Code := cR PiecesOf_n16
noncomputable def PiecesOf_n19 : Code := cL PiecesOf_n14
noncomputable def PiecesOf_n20 : Code := cR PiecesOf_n14
noncomputable def PiecesOf_n21 : Code := cL PiecesOf_n19
noncomputable def PiecesOf_n22 : Code := cL PiecesOf_n8
noncomputable def PiecesOf_n23 : Code := cR PiecesOf_n8
noncomputable def PiecesOf_n24 : Code := cL PiecesOf_n22
noncomputable def PiecesOf_n25 : Code := cR PiecesOf_n22
noncomputable def PiecesOf_n26 : Code := cL PiecesOf_n25
noncomputable def PiecesOf_n27 : Code := cL PiecesOf_n26
noncomputable def PiecesOf_n28 : Code := cL PiecesOf_n27
noncomputable def PiecesOf_n29 : Code := cR PiecesOf_n27
noncomputable def PiecesOf_n30 : Code := cL PiecesOf_n28
noncomputable def PiecesOf_n31 : Code := cR PiecesOf_n28
noncomputable def PiecesOf_n32 : Code := cL PiecesOf_n31
noncomputable def PiecesOf_n33 : Code := cR PiecesOf_n31
noncomputable def PiecesOf_n34 : Code := cL PiecesOf_n29
noncomputable def PiecesOf_n35 : Code := cR PiecesOf_n29
noncomputable def PiecesOf_n36 : Code := cL PiecesOf_n34
noncomputable def PiecesOf_n37 : Code := cL PiecesOf_n36
noncomputable def PiecesOf_n38 : Code := cR PiecesOf_n36
noncomputable def PiecesOf_n39 : Code := cL PiecesOf_n38
noncomputable def PiecesOf_n40 : Code := cL PiecesOf_n39
noncomputable def PiecesOf_n41 : Code := cL PiecesOf_n40
noncomputable def PiecesOf_n42 : Code := cR PiecesOf_n40
noncomputable def PiecesOf_n43 : Code := cL PiecesOf_n41
noncomputable def PiecesOf_n44 : Code := cR PiecesOf_n41
noncomputable def PiecesOf_n45 : Code := cL PiecesOf_n44
noncomputable def PiecesOf_n46 : Code := cR PiecesOf_n44
noncomputable def PiecesOf_n47 : Code := cL PiecesOf_n42
noncomputable def PiecesOf_n48 : Code := cR PiecesOf_n42
noncomputable def PiecesOf_n49 : Code := cL PiecesOf_n47
noncomputable def PiecesOf_n50 : Code := cL PiecesOf_n49
noncomputable def PiecesOf_n51 : Code := cR PiecesOf_n49
noncomputable def PiecesOf_n52 : Code := cL PiecesOf_n51
noncomputable def PiecesOf_n53 : Code := cR PiecesOf_n51
noncomputable def PiecesOf_n54 : Code := cL PiecesOf_n53
noncomputable def PiecesOf_n55 : Code := cR PiecesOf_n53
noncomputable def PiecesOf_n56 : Code := cL PiecesOf_n23
noncomputable def PiecesOf_n57 : Code := cR PiecesOf_n23
set_option maxHeartbeats 1000000 in
set_option maxRecDepth 10000 in
theorem PiecesOf_t {w : World} {M : Hp} {X : Fr} (d : Dg) {dcrsA : Option Addr} {dcrsc : Nat} (hdcrs : RdA cdCr (M.un X.h) dcrsA dcrsc d.crs) (hn : d.crs.length ≤ 16) (hab : arcsB d = true) (S : SH w M X []) : Ct Try.prog 32 [.agg [.slice dcrsA d.crs.length dcrsc, .int .i64 d.loops].toArray] w M X (fun u M => ∃ A c, u = .slice A (whoL d).length c ∧ RdA cdInt M A c (whoL d)) := by
 unfold Ct
 have rmhdcrs : d.crs.length * 40 ≤ 140737488355328 := hdcrs.room
 refine calls_in (b := PiecesOf_n0) Try.func32 rfl Try.ntmps32 rfl (fun C hC => ?_)
 refine ws_sub [(0, _)] ⟨rfl, trivial⟩ ?_
 refine ws_seqN PiecesOf_n1 PiecesOf_n2 rfl rfl rfl ?_
 refine ws_region rfl ?_
 refine wlo 0 1 rfl rfl rfl (wo_box (l := [_, _]) rfl rfl rfl rfl rfl S ?_)
 intro gb1 w1 S1; clear S
 refine wla 1 2 rfl rfl rfl rfl rfl rfl rfl ?_
 refine wl_end rfl ?_
 refine nm_sub [(1, _)] ⟨rfl, trivial⟩ ?_
 refine nm_thn ?_
 refine ws_seqN PiecesOf_n3 PiecesOf_n4 rfl rfl rfl ?_
 refine ws_region rfl ?_
 refine wlo 0 1 rfl rfl rfl (wo_run rfl rfl (run_fieldAddr rfl rfl Try.underlying24 rfl (ce22) (nf22)) ?_)
 refine wlo 1 2 rfl rfl rfl (wo_run rfl rfl (run_load1 rfl rfl Try.underlying22 rfl (S1.boxc (i := 0) rfl rfl)) ?_)
 refine wlo 2 3 rfl rfl rfl (wo_run rfl rfl (run_len rfl rfl rfl rfl rfl rfl Try.underlying22) ?_)
 refine wla 3 4 rfl rfl rfl rfl rfl rfl rfl ?_
 refine wl_end rfl ?_
 refine nm_sub [(1, _), (3, _)] ⟨rfl, rfl, trivial⟩ ?_
 refine nm_thn ?_
 refine ws_seqN PiecesOf_n5 PiecesOf_n6 rfl rfl rfl ?_
 refine ws_region rfl ?_
 refine wlm 0 1 rfl rfl rfl rfl rfl rfl rfl ?_
 refine wlo 1 2 rfl rfl rfl (wo_make (C := cdInt) d.crs.length rfl rfl rfl rfl rfl sl33 (by first | rfl | omega) (by show _ * 8 ≤ _; first | omega | (simp only [lens]; omega)) S1 ?_)
 intro vr1 w2 S2; clear S1
 refine wla 2 3 rfl rfl rfl rfl rfl rfl rfl ?_
 refine wl_end rfl ?_
 refine nm_sub [(1, _), (3, _), (4, _)] ⟨rfl, rfl, rfl, trivial⟩ ?_
 refine nm_thn ?_
 refine ws_seqN PiecesOf_n7 PiecesOf_n8 rfl rfl rfl ?_
 refine ws_seqN PiecesOf_n9 PiecesOf_n10 rfl rfl rfl ?_
 refine ws_region rfl ?_
 refine wla 0 1 rfl rfl rfl rfl rfl rfl rfl ?_
 refine wl_end rfl ?_
 refine nm_thn ?_
 refine ws_blockN PiecesOf_n11 0 rfl rfl rfl ?_
 refine ws_loopE (fun mx_ ax_ wx_ => ∃ (i : Nat) (ws : List Int) (vrw : Value), mx_ = d.crs.length - i ∧ Env 67 [(1, .pointer (some ⟨gb1, 0, none⟩)), (3, .int .i64 (d.crs.length : Int)), (4, vrw), (5, .int .i64 (i : Int))] ax_ ∧ SH wx_ M X [Rs.row cdInt vrw ws, Rs.box gb1 24 [.slice dcrsA d.crs.length dcrsc, .int .i64 d.loops]] ∧ i ≤ d.crs.length ∧ ws = iniW d.crs.length i) rfl ?_ ?_
 ·intro ax_ hax_
  refine ⟨_, ⟨0, _, _, rfl, hax_.sub ⟨rfl, rfl, rfl, rfl, trivial⟩, S2.pick [0, 1] [_, _] (by decide) ⟨rfl, rfl, trivial⟩, ?hq1f0, ?hq1f1⟩⟩
  case hq1f0 => omega
  case hq1f1 => rfl
 ·rintro m1 a1 w3 ⟨i, ws, vrw, rfl, he1, S3, hi, hw⟩
  clear S2
  refine ws_in he1 (c := PiecesOf_n12) rfl ?_
  clear he1 a1
  have hl1 : ws.length = d.crs.length := by rw [hw, iniW_len]
  refine ws_seqN PiecesOf_n13 PiecesOf_n14 rfl rfl rfl ?_
  refine ws_seqN PiecesOf_n15 PiecesOf_n16 rfl rfl rfl ?_
  refine ws_region rfl ?_
  refine wlm 0 1 rfl rfl rfl rfl rfl rfl rfl ?_
  refine wlm 1 2 rfl rfl rfl rfl rfl rfl rfl ?_
  refine wlo 2 3 rfl rfl rfl (wo_run rfl rfl (run_lss rfl rfl rfl) ?_)
  refine wl_end rfl ?_
  refine nm_sub [(1, _), (3, _), (4, _), (5, _), (17, _)] ⟨rfl, rfl, rfl, rfl, rfl, trivial⟩ ?_
  refine nm_thn ?_
  refine ws_condN PiecesOf_n17 PiecesOf_n18 rfl rfl rfl rfl (fun hb17 => ?_) (fun hb17 => ?_)
  ·replace hb17 := of_decide_eq_true hb17
   refine ws_skip rfl ?_
   refine nm_sub [(1, _), (3, _), (4, _), (5, _)] ⟨rfl, rfl, rfl, rfl, trivial⟩ ?_
   refine nm_thn ?_
   refine ws_seqN PiecesOf_n19 PiecesOf_n20 rfl rfl rfl ?_
   refine ws_blockN PiecesOf_n21 1 rfl rfl rfl ?_
   refine ws_region rfl ?_
   refine wlm 0 1 rfl rfl rfl rfl rfl rfl rfl ?_
   refine wlm 1 2 rfl rfl rfl rfl rfl rfl rfl ?_
   refine wlm 2 3 rfl rfl rfl rfl rfl rfl rfl ?_
   refine wlo 3 4 rfl rfl rfl (wo_run rfl rfl (run_indexR (C := cdInt) (i := 0) i rfl rfl rfl sl33 S3 rfl (by first | rfl | omega) (by first | omega | (simp only [lens]; omega))) ?_)
   refine wlo 4 5 rfl rfl rfl (wo_storeR (C := cdInt) (i := 0) (e := i) (j := 0) (us := [_]) (H' := [_, _]) (i : Int) rfl rfl S3 rfl (by first | omega | (simp only [lens]; omega)) rfl rfl rfl sz3 rfl rfl rfl rfl ?_)
   intro w4 S4; clear S3
   refine wl_end rfl ?_
   refine nm_blk ?_
   refine nm_sub [(1, _), (3, _), (4, _), (5, _)] ⟨rfl, rfl, rfl, rfl, trivial⟩ ?_
   refine nm_thn ?_
   refine ws_region rfl ?_
   refine wlm 0 1 rfl rfl rfl rfl rfl rfl rfl ?_
   refine wlo 1 2 rfl rfl rfl (wo_run rfl rfl (run_add rfl rfl rfl (by first | omega | (simp only [lens]; omega))) ?_)
   refine wla 2 3 rfl rfl rfl rfl rfl rfl rfl ?_
   refine wl_end rfl ?_
   refine nm_lp ?_
   intro ax_ hax_
   refine ⟨_, ?hq2m, ⟨i + 1, _, _, rfl, hax_.sub ⟨rfl, rfl, rfl, rfl, trivial⟩, S4.pick [0, 1] [_, _] (by decide) ⟨rfl, rfl, trivial⟩, ?hq2f0, ?hq2f1⟩⟩
   case hq2f0 => omega
   case hq2f1 => (rw [hw]; rfl)
   case hq2m => omega
  ·replace hb17 := of_decide_eq_false hb17
   refine ws_exit rfl rfl ?_
   refine nm_sub [(1, _), (3, _), (4, _)] ⟨rfl, rfl, rfl, trivial⟩ ?_
   refine nm_thn ?_
   refine ws_seqN PiecesOf_n22 PiecesOf_n23 rfl rfl rfl ?_
   refine ws_seqN PiecesOf_n24 PiecesOf_n25 rfl rfl rfl ?_
   refine ws_region rfl ?_
   refine wla 0 1 rfl rfl rfl rfl rfl rfl rfl ?_
   refine wl_end rfl ?_
   refine nm_thn ?_
   refine ws_blockN PiecesOf_n26 2 rfl rfl rfl ?_
   refine ws_loopE (fun mx_ ax_ wx_ => ∃ (j : Nat) (ws2 : List Int) (vrw2 : Value), mx_ = d.crs.length - j ∧ Env 67 [(1, .pointer (some ⟨gb1, 0, none⟩)), (3, .int .i64 (d.crs.length : Int)), (4, vrw2), (6, .int .i64 (j : Int))] ax_ ∧ SH wx_ M X [Rs.row cdInt vrw2 ws2, Rs.box gb1 24 [.slice dcrsA d.crs.length dcrsc, .int .i64 d.loops]] ∧ j ≤ d.crs.length ∧ ws2 = rndsW d j) rfl ?_ ?_
   ·intro ax_ hax_
    refine ⟨_, ⟨0, _, _, rfl, hax_.sub ⟨rfl, rfl, rfl, rfl, trivial⟩, S3.pick [0, 1] [_, _] (by decide) ⟨rfl, rfl, trivial⟩, ?hq3f0, ?hq3f1⟩⟩
    case hq3f0 => omega
    case hq3f1 => (obtain rfl : i = d.crs.length := (by omega); exact hw)
   ·rintro m2 a2 w5 ⟨j, ws2, vrw2, rfl, he2, S5, hj, hw2⟩
    clear S3
    refine ws_in he2 (c := PiecesOf_n27) rfl ?_
    clear he2 a2
    have hl2 : ws2.length = d.crs.length := by rw [hw2, rndsW_len]
    refine ws_seqN PiecesOf_n28 PiecesOf_n29 rfl rfl rfl ?_
    refine ws_seqN PiecesOf_n30 PiecesOf_n31 rfl rfl rfl ?_
    refine ws_region rfl ?_
    refine wlm 0 1 rfl rfl rfl rfl rfl rfl rfl ?_
    refine wlm 1 2 rfl rfl rfl rfl rfl rfl rfl ?_
    refine wlo 2 3 rfl rfl rfl (wo_run rfl rfl (run_lss rfl rfl rfl) ?_)
    refine wl_end rfl ?_
    refine nm_sub [(1, _), (3, _), (4, _), (6, _), (26, _)] ⟨rfl, rfl, rfl, rfl, rfl, trivial⟩ ?_
    refine nm_thn ?_
    refine ws_condN PiecesOf_n32 PiecesOf_n33 rfl rfl rfl rfl (fun hb26 => ?_) (fun hb26 => ?_)
    ·replace hb26 := of_decide_eq_true hb26
     refine ws_skip rfl ?_
     refine nm_sub [(1, _), (3, _), (4, _), (6, _)] ⟨rfl, rfl, rfl, rfl, trivial⟩ ?_
     refine nm_thn ?_
     refine ws_seqN PiecesOf_n34 PiecesOf_n35 rfl rfl rfl ?_
     refine ws_blockN PiecesOf_n36 3 rfl rfl rfl ?_
     refine ws_seqN PiecesOf_n37 PiecesOf_n38 rfl rfl rfl ?_
     refine ws_region rfl ?_
     refine wla 0 1 rfl rfl rfl rfl rfl rfl rfl ?_
     refine wl_end rfl ?_
     refine nm_thn ?_
     refine ws_blockN PiecesOf_n39 4 rfl rfl rfl ?_
     refine ws_loopE (fun mx_ ax_ wx_ => ∃ (k : Nat) (ws3 : List Int) (vrw3 : Value), mx_ = 2 * d.crs.length - k ∧ Env 67 [(1, .pointer (some ⟨gb1, 0, none⟩)), (3, .int .i64 (d.crs.length : Int)), (4, vrw3), (6, .int .i64 (j : Int)), (7, .int .i64 ((k + 1 : Nat) : Int))] ax_ ∧ SH wx_ M X [Rs.row cdInt vrw3 ws3, Rs.box gb1 24 [.slice dcrsA d.crs.length dcrsc, .int .i64 d.loops]] ∧ k ≤ 2 * d.crs.length ∧ ws3 = roundW d ws2 k) rfl ?_ ?_
     ·intro ax_ hax_
      refine ⟨_, ⟨0, _, _, rfl, hax_.sub ⟨rfl, rfl, rfl, rfl, rfl, trivial⟩, S5.pick [0, 1] [_, _] (by decide) ⟨rfl, rfl, trivial⟩, ?hq4f0, ?hq4f1⟩⟩
      case hq4f0 => omega
      case hq4f1 => rfl
     ·rintro m3 a3 w6 ⟨k, ws3, vrw3, rfl, he3, S6, hk, hw3⟩
      clear S5
      refine ws_in he3 (c := PiecesOf_n40) rfl ?_
      clear he3 a3
      have hl3 : ws3.length = d.crs.length := by rw [hw3, roundW_len, hw2, rndsW_len]
      refine ws_seqN PiecesOf_n41 PiecesOf_n42 rfl rfl rfl ?_
      refine ws_seqN PiecesOf_n43 PiecesOf_n44 rfl rfl rfl ?_
      refine ws_region rfl ?_
      refine wlm 0 1 rfl rfl rfl rfl rfl rfl rfl ?_
      refine wlm 1 2 rfl rfl rfl rfl rfl rfl rfl ?_
      refine wlo 2 3 rfl rfl rfl (wo_run rfl rfl (run_mul rfl rfl rfl (by first | omega | (simp only [lens]; omega))) ?_)
      refine wlo 3 4 rfl rfl rfl (wo_run rfl rfl (run_leq rfl rfl rfl) ?_)
      refine wl_end rfl ?_
      refine nm_sub [(1, _), (3, _), (4, _), (6, _), (7, _), (32, _)] ⟨rfl, rfl, rfl, rfl, rfl, rfl, trivial⟩ ?_
      refine nm_thn ?_
      refine ws_condN PiecesOf_n45 PiecesOf_n46 rfl rfl rfl rfl (fun hb32 => ?_) (fun hb32 => ?_)
      ·replace hb32 := of_decide_eq_true hb32
       have hx := endC_lt hab (k := k) (by omega) false
       have hy := endC_lt hab (k := k) (by omega) true
       refine ws_skip rfl ?_
       refine nm_sub [(1, _), (3, _), (4, _), (6, _), (7, _)] ⟨rfl, rfl, rfl, rfl, rfl, trivial⟩ ?_
       refine nm_thn ?_
       refine ws_seqN PiecesOf_n47 PiecesOf_n48 rfl rfl rfl ?_
       refine ws_blockN PiecesOf_n49 5 rfl rfl rfl ?_
       refine ws_seqN PiecesOf_n50 PiecesOf_n51 rfl rfl rfl ?_
       refine ws_draw rfl (by kernel_rfl) S6 10 rfl ?_
       clear S6
       refine wa_take (i := 0) (d := 35) 9 rfl (by kernel_rfl) (by kernel_rfl) (by kernel_rfl) rfl rfl rfl (fun M1 N1 w7 hle4 S7 => .inl (run_loadN (us := [_, _]) rfl rfl Try.underlying24 rfl sz24 (S7.suf.boxcs (i := 1) rfl ⟨rfl, rfl, trivial⟩))) ?_
       refine wa_takeP (i := 1) (d := 36) 8 rfl (by kernel_rfl) (by kernel_rfl) (by kernel_rfl) rfl rfl rfl (fun w8 => run_move rfl rfl) ?_
       refine wa_take (i := 2) (d := 37) 7 rfl (by kernel_rfl) (by kernel_rfl) (by kernel_rfl) rfl rfl rfl (fun M3 N3 w9 hle6 S9 => yield_cq rfl rfl rfl rfl rfl cf68 S9 (EndOf_q d ((k + 1 : Nat) : Int) false ((hdcrs.mono (Hp.un_mono hle6 S9.mx)).mono S9.un_XH) S9.lend)) ?_
       refine wa_takeP (i := 3) (d := 38) 6 rfl (by kernel_rfl) (by kernel_rfl) (by kernel_rfl) rfl rfl rfl (fun w10 => run_field0 rfl rfl Try.underlying61 rfl Try.underlying3 rfl rfl) ?_
       refine wa_take (i := 4) (d := 39) 5 rfl (by kernel_rfl) (by kernel_rfl) (by kernel_rfl) rfl rfl rfl (fun M5 N5 w11 hle8 S11 => .inl (run_loadN (us := [_, _]) rfl rfl Try.underlying24 rfl sz24 (S11.suf.boxcs (i := 1) rfl ⟨rfl, rfl, trivial⟩))) ?_
       refine wa_takeP (i := 5) (d := 40) 4 rfl (by kernel_rfl) (by kernel_rfl) (by kernel_rfl) rfl rfl rfl (fun w12 => run_move rfl rfl) ?_
       refine wa_take (i := 6) (d := 41) 3 rfl (by kernel_rfl) (by kernel_rfl) (by kernel_rfl) rfl rfl rfl (fun M7 N7 w13 hle10 S13 => yield_cq rfl rfl rfl rfl rfl cf68 S13 (EndOf_q d ((k + 1 : Nat) : Int) true ((hdcrs.mono (Hp.un_mono hle10 S13.mx)).mono S13.un_XH) S13.lend)) ?_
       refine wa_takeP (i := 7) (d := 42) 2 rfl (by kernel_rfl) (by kernel_rfl) (by kernel_rfl) rfl rfl rfl (fun w14 => run_field0 rfl rfl Try.underlying61 rfl Try.underlying3 rfl rfl) ?_
       refine wa_takeP (i := 8) (d := 8) 1 rfl (by kernel_rfl) (by kernel_rfl) (by kernel_rfl) rfl rfl rfl (fun w15 => run_assign rfl rfl) ?_
       refine wa_takeP (i := 9) (d := 9) 0 rfl (by kernel_rfl) (by kernel_rfl) (by kernel_rfl) rfl rfl rfl (fun w16 => run_assign rfl rfl) ?_
       refine wa_end (by kernel_rfl) (fun w17 S17 => ?_)
       refine nm_sub [(1, _), (3, _), (4, _), (6, _), (7, _), (8, _), (9, _)] ⟨rfl, rfl, rfl, rfl, rfl, rfl, rfl, trivial⟩ ?_
       refine nm_thn ?_
       refine ws_seqN PiecesOf_n52 PiecesOf_n53 rfl rfl rfl ?_
       refine ws_eq 8 (.int .i64 ((endC d k false : Nat) : Int)) rfl (int_eq rfl) ?_
       refine ws_eq 9 (.int .i64 ((endC d k true : Nat) : Int)) rfl (int_eq rfl) ?_
       refine ws_draw rfl (by kernel_rfl) S17 9 rfl ?_
       clear S17
       refine wa_takeP (i := 0) (d := 43) 8 rfl (by kernel_rfl) (by kernel_rfl) (by kernel_rfl) rfl rfl rfl (fun w18 => run_move rfl rfl) ?_
       refine wa_takeP (i := 1) (d := 44) 7 rfl (by kernel_rfl) (by kernel_rfl) (by kernel_rfl) rfl rfl rfl (fun w19 => run_move rfl rfl) ?_
       refine wa_take (i := 2) (d := 45) 6 rfl (by kernel_rfl) (by kernel_rfl) (by kernel_rfl) rfl rfl rfl (fun M13 N13 w20 hle16 S20 => .inl (run_indexR (C := cdInt) (i := 0) (endC d k false) rfl rfl rfl sl33 S20.suf rfl (by first | rfl | omega) (by first | omega | (simp only [lens]; omega)))) ?_
       refine wa_take (i := 3) (d := 46) 5 rfl (by kernel_rfl) (by kernel_rfl) (by kernel_rfl) rfl rfl rfl (fun M14 N14 w21 hle17 S21 => .inl (run_load1 rfl rfl Try.underlying3 rfl (S21.suf.rowc (i := 0) (e := endC d k false) (j := 0) rfl (by first | omega | (simp only [lens]; omega)) rfl rfl))) ?_
       refine wa_takeP (i := 4) (d := 47) 4 rfl (by kernel_rfl) (by kernel_rfl) (by kernel_rfl) rfl rfl rfl (fun w22 => run_move rfl rfl) ?_
       refine wa_takeP (i := 5) (d := 48) 3 rfl (by kernel_rfl) (by kernel_rfl) (by kernel_rfl) rfl rfl rfl (fun w23 => run_move rfl rfl) ?_
       refine wa_take (i := 6) (d := 49) 2 rfl (by kernel_rfl) (by kernel_rfl) (by kernel_rfl) rfl rfl rfl (fun M17 N17 w24 hle20 S24 => .inl (run_indexR (C := cdInt) (i := 0) (endC d k true) rfl rfl rfl sl33 S24.suf rfl (by first | rfl | omega) (by first | omega | (simp only [lens]; omega)))) ?_
       refine wa_take (i := 7) (d := 50) 1 rfl (by kernel_rfl) (by kernel_rfl) (by kernel_rfl) rfl rfl rfl (fun M18 N18 w25 hle21 S25 => .inl (run_load1 rfl rfl Try.underlying3 rfl (S25.suf.rowc (i := 0) (e := endC d k true) (j := 0) rfl (by first | omega | (simp only [lens]; omega)) rfl rfl))) ?_
       refine wa_takeP (i := 8) (d := 51) 0 rfl (by kernel_rfl) (by kernel_rfl) (by kernel_rfl) rfl rfl rfl (fun w26 => run_lss rfl rfl rfl) ?_
       refine wa_end (by kernel_rfl) (fun w27 S27 => ?_)
       refine nm_sub [(1, _), (3, _), (4, _), (6, _), (7, _), (8, _), (9, _), (51, _)] ⟨rfl, rfl, rfl, rfl, rfl, rfl, rfl, rfl, trivial⟩ ?_
       refine nm_thn ?_
       refine ws_condN PiecesOf_n54 PiecesOf_n55 rfl rfl rfl rfl (fun hb51 => ?_) (fun hb51 => ?_)
       ·replace hb51 := of_decide_eq_true hb51
        refine ws_region rfl ?_
        refine wlm 0 1 rfl rfl rfl rfl rfl rfl rfl ?_
        refine wlm 1 2 rfl rfl rfl rfl rfl rfl rfl ?_
        refine wlm 2 3 rfl rfl rfl rfl rfl rfl rfl ?_
        refine wlm 3 4 rfl rfl rfl rfl rfl rfl rfl ?_
        refine wlo 4 5 rfl rfl rfl (wo_run rfl rfl (run_indexR (C := cdInt) (i := 0) (endC d k false) rfl rfl rfl sl33 S27 rfl (by first | rfl | omega) (by first | omega | (simp only [lens]; omega))) ?_)
        refine wlo 5 6 rfl rfl rfl (wo_run rfl rfl (run_load1 rfl rfl Try.underlying3 rfl (S27.rowc (i := 0) (e := endC d k false) (j := 0) rfl (by first | omega | (simp only [lens]; omega)) rfl rfl)) ?_)
        refine wlo 6 7 rfl rfl rfl (wo_run rfl rfl (run_indexR (C := cdInt) (i := 0) (endC d k true) rfl rfl rfl sl33 S27 rfl (by first | rfl | omega) (by first | omega | (simp only [lens]; omega))) ?_)
        refine wlo 7 8 rfl rfl rfl (wo_storeR (C := cdInt) (i := 0) (e := endC d k true) (j := 0) (us := [_]) (H' := [_, _]) (ga ws3 (endC d k false)) rfl rfl S27 rfl (by first | omega | (simp only [lens]; omega)) rfl rfl rfl sz3 rfl rfl rfl rfl ?_)
        intro w28 S28; clear S27
        refine wl_end rfl ?_
        refine nm_blk ?_
        refine nm_sub [(1, _), (3, _), (4, _), (6, _), (7, _)] ⟨rfl, rfl, rfl, rfl, rfl, trivial⟩ ?_
        refine nm_thn ?_
        refine ws_region rfl ?_
        refine wlm 0 1 rfl rfl rfl rfl rfl rfl rfl ?_
        refine wlo 1 2 rfl rfl rfl (wo_run rfl rfl (run_add rfl rfl rfl (by first | omega | (simp only [lens]; omega))) ?_)
        refine wla 2 3 rfl rfl rfl rfl rfl rfl rfl ?_
        refine wl_end rfl ?_
        refine nm_lp ?_
        intro ax_ hax_
        refine ⟨_, ?hq5m, ⟨k + 1, _, _, rfl, hax_.sub ⟨rfl, rfl, rfl, rfl, rfl, trivial⟩, S28.pick [0, 1] [_, _] (by decide) ⟨rfl, rfl, trivial⟩, ?hq5f0, ?hq5f1⟩⟩
        case hq5f0 => omega
        case hq5f1 => (show _ = stepW _ _ _; rw [← hw3]; unfold stepW; first | rw [if_pos (by omega)] | rw [if_neg (by omega)])
        case hq5m => omega
       ·replace hb51 := of_decide_eq_false hb51
        refine ws_region rfl ?_
        refine wlm 0 1 rfl rfl rfl rfl rfl rfl rfl ?_
        refine wlm 1 2 rfl rfl rfl rfl rfl rfl rfl ?_
        refine wlm 2 3 rfl rfl rfl rfl rfl rfl rfl ?_
        refine wlm 3 4 rfl rfl rfl rfl rfl rfl rfl ?_
        refine wlo 4 5 rfl rfl rfl (wo_run rfl rfl (run_indexR (C := cdInt) (i := 0) (endC d k true) rfl rfl rfl sl33 S27 rfl (by first | rfl | omega) (by first | omega | (simp only [lens]; omega))) ?_)
        refine wlo 5 6 rfl rfl rfl (wo_run rfl rfl (run_load1 rfl rfl Try.underlying3 rfl (S27.rowc (i := 0) (e := endC d k true) (j := 0) rfl (by first | omega | (simp only [lens]; omega)) rfl rfl)) ?_)
        refine wlo 6 7 rfl rfl rfl (wo_run rfl rfl (run_indexR (C := cdInt) (i := 0) (endC d k false) rfl rfl rfl sl33 S27 rfl (by first | rfl | omega) (by first | omega | (simp only [lens]; omega))) ?_)
        refine wlo 7 8 rfl rfl rfl (wo_storeR (C := cdInt) (i := 0) (e := endC d k false) (j := 0) (us := [_]) (H' := [_, _]) (ga ws3 (endC d k true)) rfl rfl S27 rfl (by first | omega | (simp only [lens]; omega)) rfl rfl rfl sz3 rfl rfl rfl rfl ?_)
        intro w29 S29; clear S27
        refine wl_end rfl ?_
        refine nm_blk ?_
        refine nm_sub [(1, _), (3, _), (4, _), (6, _), (7, _)] ⟨rfl, rfl, rfl, rfl, rfl, trivial⟩ ?_
        refine nm_thn ?_
        refine ws_region rfl ?_
        refine wlm 0 1 rfl rfl rfl rfl rfl rfl rfl ?_
        refine wlo 1 2 rfl rfl rfl (wo_run rfl rfl (run_add rfl rfl rfl (by first | omega | (simp only [lens]; omega))) ?_)
        refine wla 2 3 rfl rfl rfl rfl rfl rfl rfl ?_
        refine wl_end rfl ?_
        refine nm_lp ?_
        intro ax_ hax_
        refine ⟨_, ?hq6m, ⟨k + 1, _, _, rfl, hax_.sub ⟨rfl, rfl, rfl, rfl, rfl, trivial⟩, S29.pick [0, 1] [_, _] (by decide) ⟨rfl, rfl, trivial⟩, ?hq6f0, ?hq6f1⟩⟩
        case hq6f0 => omega
        case hq6f1 => (show _ = stepW _ _ _; rw [← hw3]; unfold stepW; first | rw [if_pos (by omega)] | rw [if_neg (by omega)])
        case hq6m => omega
      ·replace hb32 := of_decide_eq_false hb32
       refine ws_exit rfl rfl ?_
       refine nm_blk ?_
       refine nm_sub [(1, _), (3, _), (4, _), (6, _)] ⟨rfl, rfl, rfl, rfl, trivial⟩ ?_
       refine nm_thn ?_
       refine ws_region rfl ?_
       refine wlm 0 1 rfl rfl rfl rfl rfl rfl rfl ?_
       refine wlo 1 2 rfl rfl rfl (wo_run rfl rfl (run_add rfl rfl rfl (by first | omega | (simp only [lens]; omega))) ?_)
       refine wla 2 3 rfl rfl rfl rfl rfl rfl rfl ?_
       refine wl_end rfl ?_
       refine nm_lp ?_
       intro ax_ hax_
       refine ⟨_, ?hq7m, ⟨j + 1, _, _, rfl, hax_.sub ⟨rfl, rfl, rfl, rfl, trivial⟩, S6.pick [0, 1] [_, _] (by decide) ⟨rfl, rfl, trivial⟩, ?hq7f0, ?hq7f1⟩⟩
       case hq7f0 => omega
       case hq7f1 => (obtain rfl : k = 2 * d.crs.length := (by omega); rw [hw3, hw2]; rfl)
       case hq7m => omega
    ·replace hb26 := of_decide_eq_false hb26
     refine ws_exit rfl rfl ?_
     refine nm_sub [(4, _)] ⟨rfl, trivial⟩ ?_
     refine nm_thn ?_
     refine ws_seqN PiecesOf_n56 PiecesOf_n57 rfl rfl rfl ?_
     refine ws_region rfl ?_
     refine wlm 0 1 rfl rfl rfl rfl rfl rfl rfl ?_
     refine wla 1 2 rfl rfl rfl rfl rfl rfl rfl ?_
     refine wl_end rfl ?_
     refine nm_sub [(2, _)] ⟨rfl, trivial⟩ ?_
     refine nm_thn ?_
     obtain ⟨M20, hle23, S30, ⟨A1, c1, e1, hr1⟩⟩ := S5.pubrow (i := 0) (H' := [_, _]) rfl rfl (by show _ * 8 ≤ _; first | omega | (simp only [lens]; omega))
     clear S5; subst e1
     replace hdcrs := hdcrs.mono (Hp.un_mono hle23 S30.mx)
     refine ws_ret hC [_] rfl rfl ⟨rfl, trivial⟩ ?_
     refine ⟨_, rfl, _, hle23, (S30.pick [] [] (by decide) trivial), ?_⟩
     obtain rfl : j = d.crs.length := by omega
     subst hw2
     exact ⟨_, _, rfl, hr1⟩
end Go.Proofs.Ytefkjfcncpmneaa
namespace Go.Proofs.Ytefkjfcncpmneaa
open Go.ChangeShapes Go.WideShapes Go.ChangeAt Go.RowKit Go.Sort
def srt (xs : List Int) : List Int := xs.mergeSort fun x y => decide (x ≤ y)
theorem srt_perm (xs : List Int) : (srt xs).Perm xs := List.mergeSort_perm _ _
theorem srt_len (xs : List Int) : (srt xs).length = xs.length := (srt_perm xs).length_eq
theorem srt_mem {xs : List Int} {x : Int} : x ∈ srt xs ↔ x ∈ xs := (srt_perm xs).mem_iff
theorem flat_int (xs : List Int) : xs.flatMap cdInt.f = xs.map (Value.int .i64) := by
  induction xs with
  | nil => rfl
  | cons x xs ih => simp only [List.flatMap_cons, ih, List.map_cons]; rfl
theorem SH.sorted {w : World} {M : Hp} {X : Fr} {g cap n : Nat} {xs ys : List Int} {os : Array Obj} (S : SH w M X [Rs.row cdInt (.slice (some ⟨g, 0, none⟩) xs.length cap) xs]) (hl : ys.length = xs.length) :
    SH (Go.Sort.grow (putRow (Value.int .i64) (Go.Sort.ahead w n) g 0 ys.toArray) os) M X [Rs.row cdInt (.slice (some ⟨g, 0, none⟩) xs.length cap) ys] := by
  have hok : RowOk cdInt (.slice (some ⟨g, 0, none⟩) xs.length cap) xs (hp w) := S.get (i := 0) rfl
  rcases hok with ⟨h1, _⟩ | ⟨g', cap', cur, h1, h2, h3, h4, h5, h6⟩
  · cases h1
  cases h1
  have gb := grownBy_sortedI (w := w) (g := g) (n := n) (os := os) ys.toArray
  have h5' : cur.size = cap := h5.trans (Nat.mul_one _)
  refine S.step (i := 0) (H' := [Rs.row cdInt (.slice (some ⟨g, 0, none⟩) xs.length cap) ys]) rfl rfl ⟨gb.os, gb.tape, gb.output, gb.size⟩ (fun b hb hn => ?_) ?_ (fun b hb => ⟨.inl hb, ?_⟩)
  · exact gb.block b hb (fun e => hn (by injection e with e; subst e; simp [Rs.row, Value.ownBlock]))
  · refine .inr ⟨g, cap, _, by rw [hl], heap_sortedI _ h2, by rw [hl]; exact h3, h4, by simp [putCells, h5'] ; exact (Nat.mul_one _).symm, ?_⟩
    rw [flat_int, show ys.length * cdInt.k = ys.length from Nat.mul_one _]
    exact take_putCellsI cur ys (by omega)
  · have hg : g < w.heap.size := hp_lt h2
    have e : b = g := by simpa [Rs.row, Value.ownBlock] using hb
    subst e
    exact Nat.lt_of_lt_of_le hg gb.size
theorem SH.holdsI {w : World} {M : Hp} {X : Fr} {g cap : Nat} {xs : List Int} (S : SH w M X [Rs.row cdInt (.slice (some ⟨g, 0, none⟩) xs.length cap) xs]) : Holds (Value.int .i64) w g 0 xs.toArray ∧ g < w.heap.size := by
  have hok : RowOk cdInt (.slice (some ⟨g, 0, none⟩) xs.length cap) xs (hp w) := S.get (i := 0) rfl
  rcases hok with ⟨h1, _⟩ | ⟨g', cap', cur, h1, h2, h3, h4, h5, h6⟩
  · cases h1
  cases h1
  refine ⟨holds_of_blockI h2 ?_, hp_lt h2⟩
  rw [flat_int, show xs.length * cdInt.k = xs.length from Nat.mul_one _] at h6
  exact h6
/-- slices.Sort: the row holds the same numbers, sorted. -/
theorem c1_sort {P : Program} {ρ : Go.Shelf.Ren} (L : Lays.n189 P ρ) {w : World} {M : Hp} {X : Fr} {v : Value} {xs : List Int} (hsz : xs.length < 4611686018427387904) (S : SH w M X [Rs.row cdInt v xs]) :
    C1 P (ρ.f 189) [v] w M X fun u M' r' => u = .tuple #[] ∧ M' = M ∧ r' = Rs.row cdInt v (srt xs) := by
  have hok : RowOk cdInt v xs (hp w) := S.get (i := 0) rfl
  rcases hok with ⟨h1, h2⟩ | ⟨g, cap, cur, h1, _⟩
  · subst h1; subst h2
    refine (Any.slices_Sort_int_none L none 0 w).mono ?_
    rintro e w' ⟨rfl, rfl⟩
    exact ⟨_, rfl, M, _, Hp.le_refl _, S, rfl, rfl, by simp [srt]⟩
  · subst h1
    obtain ⟨hH, hb⟩ := S.holdsI
    refine (Any.slices_Sort_int L g 0 cap xs w hH hb hsz).mono ?_
    rintro e w' ⟨rfl, n, os, rfl⟩
    exact ⟨_, rfl, M, _, Hp.le_refl _, S.sorted (srt_len xs), rfl, rfl, rfl⟩
end Go.Proofs.Ytefkjfcncpmneaa
namespace Go.Proofs.Ytefkjfcncpmneaa
open Go.Shelf
def srtL_ren : Go.Shelf.Ren := ⟨fun | 189 => 97 | 125 => 120 | 257 => 119 | 128 => 135 | 129 => 136 | 294 => 126 | 295 => 127 | 296 => 128 | 297 => 129 | 298 => 130 | 299 => 131 | 216 => 132 | 300 => 133 | 301 => 134 | 328 => 139 | 329 => 140 | 330 => 141 | 331 => 142 | 332 => 143 | 215 => 121 | 343 => 145 | n => n, fun | 28 => 33 | 3 => 3 | 46 => 151 | 0 => 0 | 51 => 177 | 53 => 180 | 4 => 4 | 183 => 198 | 182 => 197 | 131 => 115 | 5 => 5 | 9 => 9 | 218 => 208 | 222 => 212 | 228 => 214 | 229 => 215 | n => n, fun | n => n⟩
theorem srtL : Go.Proofs.Lays.n189 Try.prog srtL_ren := {
  mixed := by kernel_rfl
  f125 := Try.func120.trans (congrArg some (by kernel_rfl))
  f128 := Try.func135.trans (congrArg some (by kernel_rfl))
  f129 := Try.func136.trans (congrArg some (by kernel_rfl))
  f189 := Try.func97.trans (congrArg some (by kernel_rfl))
  f215 := Try.func121.trans (congrArg some (by kernel_rfl))
  f216 := Try.func132.trans (congrArg some (by kernel_rfl))
  f257 := Try.func119.trans (congrArg some (by kernel_rfl))
  f294 := Try.func126.trans (congrArg some (by kernel_rfl))
  f295 := Try.func127.trans (congrArg some (by kernel_rfl))
  f296 := Try.func128.trans (congrArg some (by kernel_rfl))
  f297 := Try.func129.trans (congrArg some (by kernel_rfl))
  f298 := Try.func130.trans (congrArg some (by kernel_rfl))
  f299 := Try.func131.trans (congrArg some (by kernel_rfl))
  f300 := Try.func133.trans (congrArg some (by kernel_rfl))
  f301 := Try.func134.trans (congrArg some (by kernel_rfl))
  f328 := Try.func139.trans (congrArg some (by kernel_rfl))
  f329 := Try.func140.trans (congrArg some (by kernel_rfl))
  f330 := Try.func141.trans (congrArg some (by kernel_rfl))
  f331 := Try.func142.trans (congrArg some (by kernel_rfl))
  f332 := Try.func143.trans (congrArg some (by kernel_rfl))
  f343 := Try.func145.trans (congrArg some (by kernel_rfl))
  t0 := Try.underlying0
  a0 := Try.isAgg0
  z0 := Try.sizeOf0
  v0 := Try.zeroValue0
  t3 := Try.underlying3
  a3 := Try.isAgg3
  z3 := Try.sizeOf3
  v3 := Try.zeroValue3
  t4 := Try.underlying4
  a4 := Try.isAgg4
  z4 := Try.sizeOf4
  v4 := Try.zeroValue4
  t5 := Try.underlying5
  a5 := Try.isAgg5
  z5 := Try.sizeOf5
  v5 := Try.zeroValue5
  t9 := Try.underlying9
  a9 := Try.isAgg9
  z9 := Try.sizeOf9
  v9 := Try.zeroValue9
  t28 := Try.underlying33
  a28 := Try.isAgg33
  z28 := Try.sizeOf33
  v28 := Try.zeroValue33
  t46 := Try.underlying151
  a46 := Try.isAgg151
  z46 := Try.sizeOf151
  v46 := Try.zeroValue151
  t51 := Try.underlying177
  a51 := Try.isAgg177
  z51 := Try.sizeOf177
  v51 := Try.zeroValue177
  t53 := Try.underlying180
  a53 := Try.isAgg180
  z53 := Try.sizeOf180
  v53 := Try.zeroValue180
  t131 := Try.underlying115
  a131 := Try.isAgg115
  z131 := Try.sizeOf115
  v131 := Try.zeroValue115
  t182 := Try.underlying197
  a182 := Try.isAgg197
  z182 := Try.sizeOf197
  v182 := Try.zeroValue197
  t183 := Try.underlying198
  a183 := Try.isAgg198
  z183 := Try.sizeOf198
  v183 := Try.zeroValue198
  t218 := Try.underlying208
  a218 := Try.isAgg208
  z218 := Try.sizeOf208
  v218 := Try.zeroValue208
  t222 := Try.underlying212
  a222 := Try.isAgg212
  z222 := Try.sizeOf212
  v222 := Try.zeroValue212
  t228 := Try.underlying214
  a228 := Try.isAgg214
  z228 := Try.sizeOf214
  v228 := Try.zeroValue214
  t229 := Try.underlying215
  a229 := Try.isAgg215
  z229 := Try.sizeOf215
  v229 := Try.zeroValue215 }
theorem sort_w {w : World} {M : Hp} {X : Fr} {v : Value} {xs : List Int} (hsz : xs.length < 4611686018427387904) (S : SH w M X [Rs.row cdInt v xs]) :
    C1 Try.prog 97 [v] w M X fun u M' r' => u = .tuple #[] ∧ M' = M ∧ r' = Rs.row cdInt v (srt xs) := c1_sort srtL hsz S
end Go.Proofs.Ytefkjfcncpmneaa
