/- Part 2 of the proof of the law PolyReads: the walks through its functions and the plain laws that they need. -/
import Derived.Test.YtklcecpjgingpaaDoorPrZ1
import Derived.Test.YtklcecpjgingpaaDoorRows
import Derived.Shelf.Strings.Prefix
import Derived.Shelf.Strings.Split
import Derived.Shelf.Strings.Cut
import Derived.Shelf.Strconv.AtoiAll
import Derived.Shelf.Strconv.Itoa3
import Derived.Lib.LaidTab
import Derived.Lib.AtoiAllCases
import Derived.LaidHandle
import Derived.LaidMore
import Derived.Stop.Joined
set_option linter.unusedSimpArgs false
set_option linter.unusedVariables false
namespace Go.Proofs.YtklcecpjgingpaaDoor
open Go.ChangeShapes Go.WideShapes Go.ChangeAt Go.RowKit
theorem sz3 : (Tryd.prog.info? 3).map (·.size) = some 1 := by kernel_rfl
theorem ce3 : Nat.blt 0 (Tryd.prog.cellsOf 3) = true := by kernel_rfl
theorem nf3 : ∃ i, Tryd.prog.info? 3 = some i := Option.isSome_iff_exists.1 (by kernel_rfl)
theorem sz38 : (Tryd.prog.info? 38).map (·.size) = some 2 := by kernel_rfl
theorem zr38 : (Tryd.prog.info? 38).map (·.zero) = some (some (.agg [.int .i64 0, .int .i64 0].toArray)) := by kernel_rfl
theorem st38 : StOf Tryd.prog 38 [(0, 1), (1, 1)] [.int .i64 0, .int .i64 0] := ⟨_, Tryd.underlying38, by kernel_rfl, ⟨⟨rfl, by kernel_rfl⟩, ⟨rfl, by kernel_rfl⟩, trivial⟩⟩
theorem cf5 : ∀ args w, (callFunc 5 args).run Tryd.prog w = .ok (.enter 5 args) w := enter_ok (c := Tryd.f5.body.getD .skip) Tryd.func5 (by decide) rfl
theorem cf6 : ∀ args w, (callFunc 6 args).run Tryd.prog w = .ok (.enter 6 args) w := enter_ok (c := Tryd.f6.body.getD .skip) Tryd.func6 (by decide) rfl
theorem cf7 : ∀ args w, (callFunc 7 args).run Tryd.prog w = .ok (.enter 7 args) w := enter_ok (c := Tryd.f7.body.getD .skip) Tryd.func7 (by decide) rfl
theorem cf11 : ∀ args w, (callFunc 11 args).run Tryd.prog w = .ok (.enter 11 args) w := enter_ok (c := Tryd.f11.body.getD .skip) Tryd.func11 (by decide) rfl
theorem cf12 : ∀ args w, (callFunc 12 args).run Tryd.prog w = .ok (.enter 12 args) w := enter_ok (c := Tryd.f12.body.getD .skip) Tryd.func12 (by decide) rfl
theorem cf13 : ∀ args w, (callFunc 13 args).run Tryd.prog w = .ok (.enter 13 args) w := enter_ok (c := Tryd.f13.body.getD .skip) Tryd.func13 (by decide) rfl
theorem cf14 : ∀ args w, (callFunc 14 args).run Tryd.prog w = .ok (.enter 14 args) w := enter_ok (c := Tryd.f14.body.getD .skip) Tryd.func14 (by decide) rfl
theorem cf15 : ∀ args w, (callFunc 15 args).run Tryd.prog w = .ok (.enter 15 args) w := enter_ok (c := Tryd.f15.body.getD .skip) Tryd.func15 (by decide) rfl
theorem cf16 : ∀ args w, (callFunc 16 args).run Tryd.prog w = .ok (.enter 16 args) w := enter_ok (c := Tryd.f16.body.getD .skip) Tryd.func16 (by decide) rfl
theorem cf17 : ∀ args w, (callFunc 17 args).run Tryd.prog w = .ok (.enter 17 args) w := enter_ok (c := Tryd.f17.body.getD .skip) Tryd.func17 (by decide) rfl
theorem cf18 : ∀ args w, (callFunc 18 args).run Tryd.prog w = .ok (.enter 18 args) w := enter_ok (c := Tryd.f18.body.getD .skip) Tryd.func18 (by decide) rfl
theorem cf26 : ∀ args w, (callFunc 26 args).run Tryd.prog w = .ok (.enter 26 args) w := enter_ok (c := Tryd.f26.body.getD .skip) Tryd.func26 (by decide) rfl
theorem cf28 : ∀ args w, (callFunc 28 args).run Tryd.prog w = .ok (.enter 28 args) w := enter_ok (c := Tryd.f28.body.getD .skip) Tryd.func28 (by decide) rfl
theorem cf29 : ∀ args w, (callFunc 29 args).run Tryd.prog w = .ok (.enter 29 args) w := enter_ok (c := Tryd.f29.body.getD .skip) Tryd.func29 (by decide) rfl
theorem cf30 : ∀ args w, (callFunc 30 args).run Tryd.prog w = .ok (.enter 30 args) w := enter_ok (c := Tryd.f30.body.getD .skip) Tryd.func30 (by decide) rfl
theorem cf31 : ∀ args w, (callFunc 31 args).run Tryd.prog w = .ok (.enter 31 args) w := enter_ok (c := Tryd.f31.body.getD .skip) Tryd.func31 (by decide) rfl
theorem cf32 : ∀ args w, (callFunc 32 args).run Tryd.prog w = .ok (.enter 32 args) w := enter_ok (c := Tryd.f32.body.getD .skip) Tryd.func32 (by decide) rfl
theorem cf33 : ∀ args w, (callFunc 33 args).run Tryd.prog w = .ok (.enter 33 args) w := enter_ok (c := Tryd.f33.body.getD .skip) Tryd.func33 (by decide) rfl
theorem cf34 : ∀ args w, (callFunc 34 args).run Tryd.prog w = .ok (.enter 34 args) w := enter_ok (c := Tryd.f34.body.getD .skip) Tryd.func34 (by decide) rfl
theorem cf48 : ∀ args w, (callFunc 48 args).run Tryd.prog w = .ok (.enter 48 args) w := enter_ok (c := Tryd.f48.body.getD .skip) Tryd.func48 (by decide) rfl
end Go.Proofs.YtklcecpjgingpaaDoor
namespace Go.Proofs.YtklcecpjgingpaaDoor
open Go.ChangeShapes Go.WideShapes Go.ChangeAt Go.RowKit
theorem se38 : StEq Tryd.prog 38 [(0, false), (1, false)] := ⟨[_, _], Tryd.underlying38, ⟨⟨by kernel_rfl, rfl, ⟨_, Tryd.underlying3⟩⟩, ⟨by kernel_rfl, rfl, ⟨_, Tryd.underlying3⟩⟩, trivial⟩, by kernel_rfl, by kernel_rfl⟩
end Go.Proofs.YtklcecpjgingpaaDoor
namespace Go.Proofs.YtklcecpjgingpaaDoor
open Go.ChangeShapes Go.WideShapes Go.ChangeAt Go.RowKit
theorem sl35 : SlOf Tryd.prog 35 cdStr := ⟨.string ⟨#[]⟩, Tryd.underlying35, by kernel_rfl, rfl, by decide, by decide⟩
theorem sl83 : SlOf Tryd.prog 83 cdB := ⟨.int .u8 0, Tryd.underlying83, by kernel_rfl, rfl, by decide, by decide⟩
end Go.Proofs.YtklcecpjgingpaaDoor
namespace Go.Proofs.YtklcecpjgingpaaDoor
open Go.ChangeShapes Go.WideShapes Go.ChangeAt Go.RowKit
def TbW (N : Hp) (g : Nat) (l : List Value) : Prop := ∀ w : World, N.le (hp w) → ∀ o u, nth l o = some u → w.cell? ⟨g, o, none⟩ = some u
theorem TbW.mono {N N' : Hp} {g : Nat} {l : List Value} (h : TbW N g l) (k : N.le N') : TbW N' g l := fun w hw => h w (k.trans hw)
theorem TbW.cell {N : Hp} {w : World} {g : Nat} {l : List Value} (h : TbW N g l) (hN : N.le (hp w)) {o : Nat} {u : Value} (hu : nth l o = some u) : w.cell? ⟨g, o, none⟩ = some u := h w hN o u hu
theorem TbW.cells {N : Hp} {w : World} {g off : Nat} {l : List Value} (h : TbW N g l) (hN : N.le (hp w)) {us : List Value} (hp : piece l off us) : ∀ j u, us[j]? = some u → w.cell? ⟨g, off + j, none⟩ = some u :=
  fun j u hu => h.cell hN (piece_at hp j u hu)
theorem TbW.start {W : World} {g : Nat} {l : List Value} {T : TypeId} {q : Nat × Nat} (h : W.heap[g]? = some (.cells l.toArray T q)) : TbW (hp W) g l := fun w hw o u hu => by
  have h2 : w.heap[g]? = some (.cells l.toArray T q) := hw g _ h
  rw [cell_of_row w g o _ T q h2]
  rw [nth_eq] at hu
  simpa using hu
end Go.Proofs.YtklcecpjgingpaaDoor
namespace Go.Proofs.YtklcecpjgingpaaDoor
open Go.ChangeShapes Go.WideShapes Go.ChangeAt Go.RowKit
section
variable {P : Program} {o : Oper} {L : List (Nat × Value)} {w : World} {x y : Operand} {t t' src dst : TypeId} {a b : Int} {k k2 : IntKind}
theorem run_binK {bo : BinOp} {v : Value} (ho : o.op = .binOp bo t x y t') (hx : oev L x = some (.int k a)) (hy : oev L y = some (.int k2 b)) (h : ∀ w, (binOp bo t (.int k a) (.int k2 b)).run P w = .ok v w) : Run P o L w v w := by
  intro n c hc
  unfold execOp
  simp only [ho, hc.eval hx, hc.eval hy]
  have : ∀ w, (eqGuard bo t x y (.int k a) (.int k2 b)).run P w = .ok () w := by
    intro w
    unfold eqGuard
    split <;> simp
  simp [this, h]
theorem run_convI (ho : o.op = .convert src dst x) (hx : oev L x = some (.int k a)) (hs : ∃ d, P.underlying src = some d) (hd : P.underlying dst = some (.int k2)) : Run P o L w (.int k2 (k2.wrap a)) w := by
  intro n c he
  obtain ⟨d, hs⟩ := hs
  unfold execOp
  simp only [ho, he.eval hx, convert, Sem.run_bind, run_underlying hs, run_underlying hd, Result.andThen_ok, Conv.intToInt, Sem.run_pure]
end
end Go.Proofs.YtklcecpjgingpaaDoor
namespace Go.Proofs.YtklcecpjgingpaaDoor
open Go.ChangeShapes Go.WideShapes Go.ChangeAt Go.RowKit
section
variable {P : Program} {o : Oper} {L : List (Nat × Value)} {w w' : World} {x y z : Operand} {t t' T E src dst : TypeId} {v u : Value} {n d : Nat} {a b : List UInt8}
/-- s[i] -/
theorem run_indexS (i : Nat) (ho : o.op = .index T x y) (hx : oev L x = some (.string (sB a))) (hy : oev L y = some (.int .i64 (i : Int))) (hu : P.underlying T = some .string) (h : i < a.length) : Run P o L w (.int .u8 (((ga a i).toNat : Nat) : Int)) w := by
  intro n c he
  unfold execOp
  have hs : (i : Int).toNat < (sB a).size := by rw [sB_size]; omega
  have h1 := run_index_string (P := P) w T (sB a) .i64 (i : Int) hu
  rw [dif_pos ⟨by omega, by rw [sB_size]; omega⟩] at h1
  have h2 : (sB a)[(i : Int).toNat]'hs = ga a i := by
    show a.toArray[(i : Int).toNat]'_ = _
    rw [ga_eq h]
    simp
  rw [h2] at h1
  simp only [ho, he.eval hx, he.eval hy, Sem.run_bind, h1, Result.andThen_ok, Sem.run_pure]
theorem run_lenS {ca : Call} {xs : List Operand} {ts : List TypeId} (ho : o.op = .call ca) (hca : ca.callee = .builtin .len) (hxs : ca.args = xs.toArray) (hts : ca.argTypes = ts.toArray) (hx : oevs L xs = some [.string (sB a)]) (ht : nth ts 0 = some t) (hu : P.underlying t = some .string) : Run P o L w (.int .i64 (a.length : Int)) w := by
  intro n c hc
  rw [nth_eq] at ht
  have ht' : ts.toArray[0]? = some t := by simpa using ht
  unfold execOp
  simp only [ho, resolve, hca, hxs, hts, List.map_toArray, hc.evals hx, invoke, builtin, Builtin.len_, Sem.run_bind, Sem.run_pure, Result.andThen_ok, ht', List.getElem?_toArray, List.getElem?_cons_zero, run_underlying hu, goInt, sB_size]
theorem sB_drop (k : Nat) (a : List UInt8) : (sB a).extract k (sB a).size = sB (a.drop k) := by
  apply ByteArray.ext
  rw [ByteArray.data_extract, sB_size]
  show a.toArray.extract k a.length = (a.drop k).toArray
  apply Array.ext'
  simp
  exact List.take_of_length_le (by simp)
/-- s[k:] -/
theorem run_dropS (k : Nat) {lx : Operand} (hop : o.op = .slice T x (some lx) none none) (hx : oev L x = some (.string (sB a))) (hl : oev L lx = some (.int .i64 (k : Int))) (hu : P.underlying T = some .string) (h : k ≤ a.length) : Run P o L w (.string (sB (a.drop k))) w := by
  intro n c he
  have e1 : (0 : Int) ≤ (k : Int) ∧ (k : Int) ≤ ((sB a).size : Int) := by rw [sB_size]; omega
  unfold execOp
  simp only [hop, he.eval hx, he.eval hl, Instr.sliceAt, Instr.slice, Instr.sliceBounds, Instr.sliceBound, asIntOf, Option.map_none, Option.map_some, Sem.run_bind, Sem.run_pure, Result.andThen_ok, run_underlying hu, e1, and_self, if_true, Option.isSome_none, Bool.false_eq_true, if_false]
  rw [Int.toNat_natCast, sB_drop]
theorem run_neqD (ho : o.op = .binOp .neq t x y t') (hx : oev L x = some (.string (sB a))) (hy : oev L y = some (.string (sB b))) : Run P o L w (.bool (decide (¬ a = b))) w := by
  intro n c hc
  unfold execOp
  have h1 : ∀ w, (eqGuard .neq t x y (.string (sB a)) (.string (sB b))).run P w = .ok () w := by
    intro w; unfold eqGuard; simp
  have h2 : (!((sB a).toList == (sB b).toList)) = decide (¬ a = b) := by
    rw [ByteArray.toList_eq, ByteArray.toList_eq]
    show (!(a.toArray.toList == b.toArray.toList)) = _
    by_cases h : a = b
    · subst h; simp
    · simp [h]
  simp only [ho, hc.eval hx, hc.eval hy, h1, binOp, Op.stringOp, Sem.run_bind, Result.andThen_ok, Sem.run_pure, h2]
theorem u8_nat {p q : UInt8} : ((p.toNat : Nat) : Int) = ((q.toNat : Nat) : Int) ↔ p = q := ⟨fun h => UInt8.toNat_inj.1 (by omega), fun h => by rw [h]⟩
theorem run_eqlB {p q : UInt8} (ho : o.op = .binOp .eql t x y t') (hx : oev L x = some (.int .u8 ((p.toNat : Nat) : Int))) (hy : oev L y = some (.int .u8 ((q.toNat : Nat) : Int))) : Run P o L w (.bool (decide (p = q))) w := run_binK ho hx hy fun w => by
  have h2 : (((p.toNat : Nat) : Int) == ((q.toNat : Nat) : Int)) = decide (p = q) := by
    by_cases h : p = q
    · subst h; simp
    · have : ¬ ((p.toNat : Nat) : Int) = ((q.toNat : Nat) : Int) := fun e => h (u8_nat.1 e)
      simp only [beq_eq_false_iff_ne.2 this, decide_eq_false h]
  simp only [binOp, Op.intCmp, h2, ne_eq, not_true, if_false, Sem.run_pure]
theorem run_neqB {p q : UInt8} (ho : o.op = .binOp .neq t x y t') (hx : oev L x = some (.int .u8 ((p.toNat : Nat) : Int))) (hy : oev L y = some (.int .u8 ((q.toNat : Nat) : Int))) : Run P o L w (.bool (decide (¬ p = q))) w := run_binK ho hx hy fun w => by
  have h2 : (((p.toNat : Nat) : Int) != ((q.toNat : Nat) : Int)) = decide (¬ p = q) := by
    by_cases h : p = q
    · subst h; simp
    · have h3 : ¬ ((p.toNat : Nat) : Int) = ((q.toNat : Nat) : Int) := fun e => h (u8_nat.1 e)
      simp only [bne_iff_ne.2 h3, decide_eq_true (show ¬ p = q from h)]
  simp only [binOp, Op.intCmp, h2, ne_eq, not_true, if_false, Sem.run_pure]
theorem run_geqB {p q : Nat} (ho : o.op = .binOp .geq t x y t') (hx : oev L x = some (.int .u8 (p : Int))) (hy : oev L y = some (.int .u8 (q : Int))) : Run P o L w (.bool (decide (q ≤ p))) w := run_binK ho hx hy fun w => by simp [binOp, Op.intCmp]
theorem run_leqB {p q : Nat} (ho : o.op = .binOp .leq t x y t') (hx : oev L x = some (.int .u8 (p : Int))) (hy : oev L y = some (.int .u8 (q : Int))) : Run P o L w (.bool (decide (p ≤ q))) w := run_binK ho hx hy fun w => by simp [binOp, Op.intCmp]
theorem run_subB {p q : Nat} (ho : o.op = .binOp .sub t x y t') (hx : oev L x = some (.int .u8 (p : Int))) (hy : oev L y = some (.int .u8 (q : Int))) (h : q ≤ p ∧ p < 256) : Run P o L w (.int .u8 ((p - q : Nat) : Int)) w := run_binK ho hx hy fun w => by
  have e : IntKind.u8.wrap ((p : Int) - (q : Int)) = ((p - q : Nat) : Int) := by
    show ((p : Int) - (q : Int)) % 256 = _
    omega
  simp only [binOp, Op.intArith, e, ne_eq, not_true, if_false, Sem.run_pure]
theorem run_convU {s : Nat} (ho : o.op = .convert src dst x) (hx : oev L x = some (.int .u8 (s : Int))) (hs : ∃ d, P.underlying src = some d) (hd : P.underlying dst = some (.int .i64)) (h : s < 256) : Run P o L w (.int .i64 (s : Int)) w := by
  have h1 := run_convI (w := w) ho hx hs hd
  have e : IntKind.i64.wrap (s : Int) = (s : Int) := by rw [IntKind.wrap_i64]; omega
  rw [e] at h1
  exact h1
end
end Go.Proofs.YtklcecpjgingpaaDoor
namespace Go.Proofs.YtklcecpjgingpaaDoor
open Go.Shelf Go.ChangeShapes Go.WideShapes Go.ChangeAt Go.RowKit
def hpL_ren : Go.Shelf.Ren := ⟨fun | 99 => 11 | 206 => 26 | n => n, fun | 9 => 9 | 4 => 4 | 3 => 3 | n => n, fun | n => n⟩
theorem hpL : Go.Proofs.Lays.n99 Tryd.prog hpL_ren := {
  mixed := by kernel_rfl
  f99 := Tryd.func11.trans (congrArg some (by kernel_rfl))
  f206 := Tryd.func26.trans (congrArg some (by kernel_rfl))
  t3 := Tryd.underlying3
  a3 := Tryd.isAgg3
  z3 := Tryd.sizeOf3
  v3 := Tryd.zeroValue3
  t4 := Tryd.underlying4
  a4 := Tryd.isAgg4
  z4 := Tryd.sizeOf4
  v4 := Tryd.zeroValue4
  t9 := Tryd.underlying9
  a9 := Tryd.isAgg9
  z9 := Tryd.sizeOf9
  v9 := Tryd.zeroValue9 }
def hpLl_ren : Go.Shelf.Ren := ⟨fun | 206 => 26 | n => n, fun | 9 => 9 | 4 => 4 | 3 => 3 | n => n, fun | n => n⟩
theorem hpLl : Go.Proofs.Lays.n206 Tryd.prog hpLl_ren := {
  mixed := by kernel_rfl
  f206 := Tryd.func26.trans (congrArg some (by kernel_rfl))
  t3 := Tryd.underlying3
  a3 := Tryd.isAgg3
  z3 := Tryd.sizeOf3
  v3 := Tryd.zeroValue3
  t4 := Tryd.underlying4
  a4 := Tryd.isAgg4
  z4 := Tryd.sizeOf4
  v4 := Tryd.zeroValue4
  t9 := Tryd.underlying9
  a9 := Tryd.isAgg9
  z9 := Tryd.sizeOf9
  v9 := Tryd.zeroValue9 }
def splitL_ren : Go.Shelf.Ren := ⟨fun | 146 => 12 | 221 => 27 | 268 => 42 | 138 => 43 | 143 => 44 | 195 => 54 | 197 => 36 | 218 => 55 | 219 => 56 | 260 => 50 | 217 => 73 | 225 => 74 | 224 => 75 | 267 => 76 | 266 => 88 | 314 => 89 | n => n, fun | 9 => 9 | 31 => 35 | 3 => 3 | 4 => 4 | 0 => 0 | 105 => 67 | 21 => 21 | 5 => 5 | 46 => 95 | 119 => 94 | 139 => 98 | 138 => 97 | 146 => 130 | 51 => 129 | n => n, fun | 1 => 2 | 3 => 0 | 4 => 1 | n => n⟩
theorem splitL : Go.Proofs.Lays.n146 Tryd.prog splitL_ren := {
  mixed := by kernel_rfl
  f138 := Tryd.func43.trans (congrArg some (by kernel_rfl))
  f143 := Tryd.func44.trans (congrArg some (by kernel_rfl))
  f146 := Tryd.func12.trans (congrArg some (by kernel_rfl))
  f195 := Tryd.func54.trans (congrArg some (by kernel_rfl))
  f197 := Tryd.func36.trans (congrArg some (by kernel_rfl))
  f217 := Tryd.func73.trans (congrArg some (by kernel_rfl))
  f218 := Tryd.func55.trans (congrArg some (by kernel_rfl))
  f219 := Tryd.func56.trans (congrArg some (by kernel_rfl))
  f221 := Tryd.func27.trans (congrArg some (by kernel_rfl))
  f224 := Tryd.func75.trans (congrArg some (by kernel_rfl))
  f225 := Tryd.func74.trans (congrArg some (by kernel_rfl))
  f260 := Tryd.func50.trans (congrArg some (by kernel_rfl))
  f266 := Tryd.func88.trans (congrArg some (by kernel_rfl))
  f267 := Tryd.func76.trans (congrArg some (by kernel_rfl))
  f268 := Tryd.func42.trans (congrArg some (by kernel_rfl))
  f314 := Tryd.func89.trans (congrArg some (by kernel_rfl))
  t0 := Tryd.underlying0
  a0 := Tryd.isAgg0
  z0 := Tryd.sizeOf0
  v0 := Tryd.zeroValue0
  t3 := Tryd.underlying3
  a3 := Tryd.isAgg3
  z3 := Tryd.sizeOf3
  v3 := Tryd.zeroValue3
  t4 := Tryd.underlying4
  a4 := Tryd.isAgg4
  z4 := Tryd.sizeOf4
  v4 := Tryd.zeroValue4
  t5 := Tryd.underlying5
  a5 := Tryd.isAgg5
  z5 := Tryd.sizeOf5
  v5 := Tryd.zeroValue5
  t9 := Tryd.underlying9
  a9 := Tryd.isAgg9
  z9 := Tryd.sizeOf9
  v9 := Tryd.zeroValue9
  t21 := Tryd.underlying21
  a21 := Tryd.isAgg21
  z21 := Tryd.sizeOf21
  v21 := Tryd.zeroValue21
  t31 := Tryd.underlying35
  a31 := Tryd.isAgg35
  z31 := Tryd.sizeOf35
  v31 := Tryd.zeroValue35
  t46 := Tryd.underlying95
  a46 := Tryd.isAgg95
  z46 := Tryd.sizeOf95
  v46 := Tryd.zeroValue95
  t51 := Tryd.underlying129
  a51 := Tryd.isAgg129
  z51 := Tryd.sizeOf129
  v51 := Tryd.zeroValue129
  t105 := Tryd.underlying67
  a105 := Tryd.isAgg67
  z105 := Tryd.sizeOf67
  v105 := Tryd.zeroValue67
  t119 := Tryd.underlying94
  a119 := Tryd.isAgg94
  z119 := Tryd.sizeOf94
  t138 := Tryd.underlying97
  a138 := Tryd.isAgg97
  z138 := Tryd.sizeOf97
  v138 := Tryd.zeroValue97
  t139 := Tryd.underlying98
  a139 := Tryd.isAgg98
  z139 := Tryd.sizeOf98
  v139 := Tryd.zeroValue98
  t146 := Tryd.underlying130
  a146 := Tryd.isAgg130
  z146 := Tryd.sizeOf130
  v146 := Tryd.zeroValue130
  g1 := by kernel_rfl
  g3 := by kernel_rfl
  g4 := by kernel_rfl }
def cutL_ren : Go.Shelf.Ren := ⟨fun | 145 => 28 | 220 => 45 | 219 => 56 | 217 => 73 | 225 => 74 | 224 => 75 | 267 => 76 | 266 => 88 | 314 => 89 | n => n, fun | 9 => 9 | 4 => 4 | 59 => 57 | 3 => 3 | 5 => 5 | 46 => 95 | 146 => 130 | 51 => 129 | n => n, fun | 1 => 2 | n => n⟩
theorem cutL : Go.Proofs.Lays.n145 Tryd.prog cutL_ren := {
  mixed := by kernel_rfl
  f145 := Tryd.func28.trans (congrArg some (by kernel_rfl))
  f217 := Tryd.func73.trans (congrArg some (by kernel_rfl))
  f219 := Tryd.func56.trans (congrArg some (by kernel_rfl))
  f220 := Tryd.func45.trans (congrArg some (by kernel_rfl))
  f224 := Tryd.func75.trans (congrArg some (by kernel_rfl))
  f225 := Tryd.func74.trans (congrArg some (by kernel_rfl))
  f266 := Tryd.func88.trans (congrArg some (by kernel_rfl))
  f267 := Tryd.func76.trans (congrArg some (by kernel_rfl))
  f314 := Tryd.func89.trans (congrArg some (by kernel_rfl))
  t3 := Tryd.underlying3
  a3 := Tryd.isAgg3
  z3 := Tryd.sizeOf3
  v3 := Tryd.zeroValue3
  t4 := Tryd.underlying4
  a4 := Tryd.isAgg4
  z4 := Tryd.sizeOf4
  v4 := Tryd.zeroValue4
  t5 := Tryd.underlying5
  a5 := Tryd.isAgg5
  z5 := Tryd.sizeOf5
  v5 := Tryd.zeroValue5
  t9 := Tryd.underlying9
  a9 := Tryd.isAgg9
  z9 := Tryd.sizeOf9
  v9 := Tryd.zeroValue9
  t46 := Tryd.underlying95
  a46 := Tryd.isAgg95
  z46 := Tryd.sizeOf95
  v46 := Tryd.zeroValue95
  t51 := Tryd.underlying129
  a51 := Tryd.isAgg129
  z51 := Tryd.sizeOf129
  v51 := Tryd.zeroValue129
  t59 := Tryd.underlying57
  a59 := Tryd.isAgg57
  z59 := Tryd.sizeOf57
  v59 := Tryd.zeroValue57
  t146 := Tryd.underlying130
  a146 := Tryd.isAgg130
  z146 := Tryd.sizeOf130
  v146 := Tryd.zeroValue130
  g1 := by kernel_rfl }
def atoiL_ren : Go.Shelf.Ren := ⟨fun | 172 => 29 | 244 => 46 | 245 => 47 | 247 => 57 | 279 => 58 | 280 => 59 | 281 => 60 | 282 => 61 | 287 => 77 | 316 => 78 | 171 => 31 | 205 => 79 | 321 => 90 | 322 => 91 | 243 => 49 | 246 => 62 | 283 => 80 | 284 => 81 | 285 => 82 | 286 => 83 | 129 => 93 | 317 => 92 | 318 => 94 | 319 => 95 | 320 => 96 | 337 => 99 | 338 => 100 | n => n, fun | 9 => 9 | 3 => 3 | 75 => 60 | 76 => 61 | 4 => 4 | 5 => 5 | 167 => 87 | 37 => 83 | 0 => 0 | 85 => 88 | 2 => 2 | 168 => 90 | 53 => 114 | 175 => 115 | 46 => 95 | 210 => 119 | 127 => 133 | 145 => 136 | 143 => 134 | 21 => 21 | 171 => 121 | 173 => 124 | 212 => 138 | 51 => 129 | 20 => 20 | 213 => 139 | 232 => 144 | 233 => 145 | 80 => 148 | n => n, fun | 15 => 3 | 16 => 4 | 17 => 5 | 18 => 6 | 19 => 7 | n => n⟩
theorem atoiL : Go.Proofs.LaysC.n172 Tryd.prog atoiL_ren := {
  mixed := by kernel_rfl
  f129 := Tryd.func93.trans (congrArg some (by kernel_rfl))
  f171 := Tryd.func31.trans (congrArg some (by kernel_rfl))
  f172 := Tryd.func29.trans (congrArg some (by kernel_rfl))
  f205 := Tryd.func79.trans (congrArg some (by kernel_rfl))
  f243 := Tryd.func49.trans (congrArg some (by kernel_rfl))
  f244 := Tryd.func46.trans (congrArg some (by kernel_rfl))
  f245 := Tryd.func47.trans (congrArg some (by kernel_rfl))
  f246 := Tryd.func62.trans (congrArg some (by kernel_rfl))
  f247 := Tryd.func57.trans (congrArg some (by kernel_rfl))
  f279 := Tryd.func58.trans (congrArg some (by kernel_rfl))
  f280 := Tryd.func59.trans (congrArg some (by kernel_rfl))
  f281 := Tryd.func60.trans (congrArg some (by kernel_rfl))
  f282 := Tryd.func61.trans (congrArg some (by kernel_rfl))
  f283 := Tryd.func80.trans (congrArg some (by kernel_rfl))
  f284 := Tryd.func81.trans (congrArg some (by kernel_rfl))
  f285 := Tryd.func82.trans (congrArg some (by kernel_rfl))
  f286 := Tryd.func83.trans (congrArg some (by kernel_rfl))
  f287 := Tryd.func77.trans (congrArg some (by kernel_rfl))
  f316 := Tryd.func78.trans (congrArg some (by kernel_rfl))
  f317 := Tryd.func92.trans (congrArg some (by kernel_rfl))
  f318 := Tryd.func94.trans (congrArg some (by kernel_rfl))
  f319 := Tryd.func95.trans (congrArg some (by kernel_rfl))
  f320 := Tryd.func96.trans (congrArg some (by kernel_rfl))
  f321 := Tryd.func90.trans (congrArg some (by kernel_rfl))
  f322 := Tryd.func91.trans (congrArg some (by kernel_rfl))
  f337 := Tryd.func99.trans (congrArg some (by kernel_rfl))
  f338 := Tryd.func100.trans (congrArg some (by kernel_rfl))
  t0 := Tryd.underlying0
  a0 := Tryd.isAgg0
  z0 := Tryd.sizeOf0
  v0 := Tryd.zeroValue0
  t2 := Tryd.underlying2
  a2 := Tryd.isAgg2
  z2 := Tryd.sizeOf2
  v2 := Tryd.zeroValue2
  t3 := Tryd.underlying3
  a3 := Tryd.isAgg3
  z3 := Tryd.sizeOf3
  v3 := Tryd.zeroValue3
  t4 := Tryd.underlying4
  a4 := Tryd.isAgg4
  z4 := Tryd.sizeOf4
  v4 := Tryd.zeroValue4
  t5 := Tryd.underlying5
  a5 := Tryd.isAgg5
  z5 := Tryd.sizeOf5
  v5 := Tryd.zeroValue5
  t9 := Tryd.underlying9
  a9 := Tryd.isAgg9
  z9 := Tryd.sizeOf9
  v9 := Tryd.zeroValue9
  t20 := Tryd.underlying20
  a20 := Tryd.isAgg20
  z20 := Tryd.sizeOf20
  v20 := Tryd.zeroValue20
  t21 := Tryd.underlying21
  a21 := Tryd.isAgg21
  z21 := Tryd.sizeOf21
  v21 := Tryd.zeroValue21
  t37 := Tryd.underlying83
  a37 := Tryd.isAgg83
  z37 := Tryd.sizeOf83
  v37 := Tryd.zeroValue83
  t46 := Tryd.underlying95
  a46 := Tryd.isAgg95
  z46 := Tryd.sizeOf95
  v46 := Tryd.zeroValue95
  t51 := Tryd.underlying129
  a51 := Tryd.isAgg129
  z51 := Tryd.sizeOf129
  v51 := Tryd.zeroValue129
  t53 := Tryd.underlying114
  a53 := Tryd.isAgg114
  z53 := Tryd.sizeOf114
  v53 := Tryd.zeroValue114
  t75 := Tryd.underlying60
  a75 := Tryd.isAgg60
  z75 := Tryd.sizeOf60
  v75 := Tryd.zeroValue60
  t76 := Tryd.underlying61
  a76 := Tryd.isAgg61
  z76 := Tryd.sizeOf61
  v76 := Tryd.zeroValue61
  t85 := Tryd.underlying88
  a85 := Tryd.isAgg88
  z85 := Tryd.sizeOf88
  v85 := Tryd.zeroValue88
  t127 := Tryd.underlying133
  a127 := Tryd.isAgg133
  z127 := Tryd.sizeOf133
  v127 := Tryd.zeroValue133
  t143 := Tryd.underlying134
  a143 := Tryd.isAgg134
  z143 := Tryd.sizeOf134
  v143 := Tryd.zeroValue134
  t145 := Tryd.underlying136
  a145 := Tryd.isAgg136
  z145 := Tryd.sizeOf136
  v145 := Tryd.zeroValue136
  t167 := Tryd.underlying87
  a167 := Tryd.isAgg87
  z167 := Tryd.sizeOf87
  v167 := Tryd.zeroValue87
  t168 := Tryd.underlying90
  a168 := Tryd.isAgg90
  z168 := Tryd.sizeOf90
  v168 := Tryd.zeroValue90
  t171 := Tryd.underlying121
  a171 := Tryd.isAgg121
  z171 := Tryd.sizeOf121
  v171 := Tryd.zeroValue121
  t173 := Tryd.underlying124
  a173 := Tryd.isAgg124
  z173 := Tryd.sizeOf124
  v173 := Tryd.zeroValue124
  t175 := Tryd.underlying115
  a175 := Tryd.isAgg115
  z175 := Tryd.sizeOf115
  v175 := Tryd.zeroValue115
  t210 := Tryd.underlying119
  a210 := Tryd.isAgg119
  z210 := Tryd.sizeOf119
  v210 := Tryd.zeroValue119
  t212 := Tryd.underlying138
  a212 := Tryd.isAgg138
  z212 := Tryd.sizeOf138
  v212 := Tryd.zeroValue138
  t213 := Tryd.underlying139
  a213 := Tryd.isAgg139
  z213 := Tryd.sizeOf139
  t232 := Tryd.underlying144
  a232 := Tryd.isAgg144
  z232 := Tryd.sizeOf144
  v232 := Tryd.zeroValue144
  t233 := Tryd.underlying145
  a233 := Tryd.isAgg145
  z233 := Tryd.sizeOf145
  v233 := Tryd.zeroValue145
  g15 := by kernel_rfl
  g16 := by kernel_rfl
  g17 := by kernel_rfl
  g18 := by kernel_rfl
  g19 := by kernel_rfl
  t80 := Tryd.underlying148
  a80 := Tryd.isAgg148
  z80 := Tryd.sizeOf148
  v80 := Tryd.zeroValue148
  i0 := by kernel_rfl
  i2 := by kernel_rfl
  i3 := by kernel_rfl
  i4 := by kernel_rfl
  i5 := by kernel_rfl
  i9 := by kernel_rfl
  i20 := by kernel_rfl
  i21 := by kernel_rfl
  i37 := by kernel_rfl
  i46 := by kernel_rfl
  i51 := by kernel_rfl
  i53 := by kernel_rfl
  i75 := by kernel_rfl
  i76 := by kernel_rfl
  i80 := by kernel_rfl
  i85 := by kernel_rfl
  i127 := by kernel_rfl
  i143 := by kernel_rfl
  i145 := by kernel_rfl
  i167 := by kernel_rfl
  i168 := by kernel_rfl
  i171 := by kernel_rfl
  i173 := by kernel_rfl
  i175 := by kernel_rfl
  i210 := by kernel_rfl
  i212 := by kernel_rfl
  i232 := by kernel_rfl
  i233 := by kernel_rfl
  m15 := by kernel_rfl
  m16 := by kernel_rfl
  m17 := by kernel_rfl
  m18 := by kernel_rfl
  m19 := by kernel_rfl
  c0 := by kernel_rfl
  c2 := by kernel_rfl
  c3 := by kernel_rfl
  c4 := by kernel_rfl
  c5 := by kernel_rfl
  c9 := by kernel_rfl
  c20 := by kernel_rfl
  c21 := by kernel_rfl
  c37 := by kernel_rfl
  c46 := by kernel_rfl
  c51 := by kernel_rfl
  c53 := by kernel_rfl
  c75 := by kernel_rfl
  c76 := by kernel_rfl
  c80 := by kernel_rfl
  c85 := by kernel_rfl
  c127 := by kernel_rfl
  c143 := by kernel_rfl
  c145 := by kernel_rfl
  c167 := by kernel_rfl
  c168 := by kernel_rfl
  c171 := by kernel_rfl
  c173 := by kernel_rfl
  c175 := by kernel_rfl
  c210 := by kernel_rfl
  c212 := by kernel_rfl
  c213 := by kernel_rfl
  c232 := by kernel_rfl
  c233 := by kernel_rfl }
def itoaM_ren : Go.Shelf.Ren := ⟨fun | 171 => 31 | 243 => 49 | 246 => 62 | 283 => 80 | 284 => 81 | 285 => 82 | 286 => 83 | 129 => 93 | 317 => 92 | 318 => 94 | 319 => 95 | 320 => 96 | 337 => 99 | 338 => 100 | n => n, fun | 3 => 3 | 9 => 9 | 2 => 2 | 4 => 4 | 171 => 121 | 0 => 0 | 53 => 114 | 37 => 83 | 5 => 5 | 173 => 124 | 212 => 138 | 51 => 129 | 20 => 20 | 213 => 139 | 46 => 95 | 232 => 144 | 233 => 145 | n => n, fun | 17 => 5 | 18 => 6 | 19 => 7 | n => n⟩
theorem itoaM : Go.Proofs.LaysM.n171 Tryd.prog itoaM_ren := {
  mixed := by kernel_rfl
  f129 := Tryd.func93.trans (congrArg some (by kernel_rfl))
  f171 := Tryd.func31.trans (congrArg some (by kernel_rfl))
  f243 := Tryd.func49.trans (congrArg some (by kernel_rfl))
  f246 := Tryd.func62.trans (congrArg some (by kernel_rfl))
  f283 := Tryd.func80.trans (congrArg some (by kernel_rfl))
  f284 := Tryd.func81.trans (congrArg some (by kernel_rfl))
  f285 := Tryd.func82.trans (congrArg some (by kernel_rfl))
  f286 := Tryd.func83.trans (congrArg some (by kernel_rfl))
  f317 := Tryd.func92.trans (congrArg some (by kernel_rfl))
  f318 := Tryd.func94.trans (congrArg some (by kernel_rfl))
  f319 := Tryd.func95.trans (congrArg some (by kernel_rfl))
  f320 := Tryd.func96.trans (congrArg some (by kernel_rfl))
  f337 := Tryd.func99.trans (congrArg some (by kernel_rfl))
  f338 := Tryd.func100.trans (congrArg some (by kernel_rfl))
  t0 := Tryd.underlying0
  a0 := Tryd.isAgg0
  z0 := Tryd.sizeOf0
  v0 := Tryd.zeroValue0
  t2 := Tryd.underlying2
  a2 := Tryd.isAgg2
  z2 := Tryd.sizeOf2
  v2 := Tryd.zeroValue2
  t3 := Tryd.underlying3
  a3 := Tryd.isAgg3
  z3 := Tryd.sizeOf3
  v3 := Tryd.zeroValue3
  t4 := Tryd.underlying4
  a4 := Tryd.isAgg4
  z4 := Tryd.sizeOf4
  v4 := Tryd.zeroValue4
  t5 := Tryd.underlying5
  a5 := Tryd.isAgg5
  z5 := Tryd.sizeOf5
  v5 := Tryd.zeroValue5
  t9 := Tryd.underlying9
  a9 := Tryd.isAgg9
  z9 := Tryd.sizeOf9
  v9 := Tryd.zeroValue9
  t20 := Tryd.underlying20
  a20 := Tryd.isAgg20
  z20 := Tryd.sizeOf20
  v20 := Tryd.zeroValue20
  t37 := Tryd.underlying83
  a37 := Tryd.isAgg83
  z37 := Tryd.sizeOf83
  v37 := Tryd.zeroValue83
  t46 := Tryd.underlying95
  a46 := Tryd.isAgg95
  z46 := Tryd.sizeOf95
  v46 := Tryd.zeroValue95
  t51 := Tryd.underlying129
  a51 := Tryd.isAgg129
  z51 := Tryd.sizeOf129
  v51 := Tryd.zeroValue129
  t53 := Tryd.underlying114
  a53 := Tryd.isAgg114
  z53 := Tryd.sizeOf114
  v53 := Tryd.zeroValue114
  t171 := Tryd.underlying121
  a171 := Tryd.isAgg121
  z171 := Tryd.sizeOf121
  v171 := Tryd.zeroValue121
  t173 := Tryd.underlying124
  a173 := Tryd.isAgg124
  z173 := Tryd.sizeOf124
  v173 := Tryd.zeroValue124
  t212 := Tryd.underlying138
  a212 := Tryd.isAgg138
  z212 := Tryd.sizeOf138
  v212 := Tryd.zeroValue138
  t213 := Tryd.underlying139
  a213 := Tryd.isAgg139
  z213 := Tryd.sizeOf139
  t232 := Tryd.underlying144
  a232 := Tryd.isAgg144
  z232 := Tryd.sizeOf144
  v232 := Tryd.zeroValue144
  t233 := Tryd.underlying145
  a233 := Tryd.isAgg145
  z233 := Tryd.sizeOf145
  v233 := Tryd.zeroValue145
  g17 := by kernel_rfl
  g18 := by kernel_rfl
  g19 := by kernel_rfl
  i0 := by kernel_rfl
  i2 := by kernel_rfl
  i3 := by kernel_rfl
  i4 := by kernel_rfl
  i5 := by kernel_rfl
  i9 := by kernel_rfl
  i20 := by kernel_rfl
  i37 := by kernel_rfl
  i46 := by kernel_rfl
  i51 := by kernel_rfl
  i53 := by kernel_rfl
  i171 := by kernel_rfl
  i173 := by kernel_rfl
  i212 := by kernel_rfl
  i232 := by kernel_rfl
  i233 := by kernel_rfl
  m17 := by kernel_rfl
  m18 := by kernel_rfl
  m19 := by kernel_rfl }
/-- The table of powers of ten lies in a part of memory. -/
def TabU (N : Hp) : Prop := ∀ w : World, N.le (hp w) → Lib.TabIs Tryd.prog w "internal/strconv.uint64pow10" .u64 Lib.pow10Tab
theorem TabU.mono {N N' : Hp} (h : TabU N) (k : N.le N') : TabU N' := fun w hw => h w (k.trans hw)
theorem TabU.start {W : World} (h : Lib.TabIs Tryd.prog W "internal/strconv.uint64pow10" .u64 Lib.pow10Tab) : TabU (hp W) := fun w hw => by
  unfold Lib.TabIs World.var? at h ⊢
  cases hg : (Tryd.prog).globalNamed "internal/strconv.uint64pow10" with
  | none => rw [hg] at h; cases h
  | some g =>
    rw [hg] at h
    simp only [Option.bind_some] at h ⊢
    cases hb : W.heap[g]? with
    | none => rw [hb] at h; cases h
    | some ob =>
      have := hw g ob hb
      have h2 : w.heap[g]? = some ob := this
      rw [h2]
      rw [hb] at h
      exact h
/-- What the library's variables hold: a number, two errors. -/
structure LibOk (N : Hp) : Prop where
  ml : ∃ m : Int, TbW N 2 [.int .i64 m]
  es : ∃ te pe, TbW N 3 [.iface te pe]
  er : ∃ te pe, TbW N 4 [.iface te pe]
  tb : TabU N
theorem LibOk.mono {N N' : Hp} (h : LibOk N) (k : N.le N') : LibOk N' := ⟨h.ml.imp fun _ h => h.mono k, h.es.imp fun _ h => h.imp fun _ h => h.mono k, h.er.imp fun _ h => h.imp fun _ h => h.mono k, h.tb.mono k⟩
theorem below_grow9 (w : World) (k : Nat) (os : Array Obj) : Below w.heap.size w (Go.Sort.grow (w.drewN k) os) :=
  ⟨rfl, rfl, rfl, by show w.heap.size ≤ (w.heap ++ os).size; rw [Array.size_append]; omega, fun j hj => by show (w.heap ++ os)[j]? = _; rw [Array.getElem?_append_left hj]⟩
section
variable {w : World} {M : Hp} {X : Fr}
theorem sB_dt (a : List UInt8) : (sB a).data.toList = a := by simp [sB]
theorem itoa_t (n : Int) (h0 : -9223372036854775808 ≤ n ∧ n ≤ 9223372036854775807) (ht : TabU (M.un X.h)) (S : SH w M X []) : Cq Tryd.prog 31 [.int .i64 n] w M X (fun u => u = .string (sB (Lib.itoa n))) :=
  (Any.strconv_Itoa itoaM n h0.1 h0.2 w (ht w S.um)).mono fun e w' ⟨he, k, os, hw⟩ => ⟨_, he, by rw [hw]; exact S.of_below (below_grow9 w k os), rfl⟩
theorem hasP_q (s p : List UInt8) (S : SH w M X []) : Cq Tryd.prog 11 [.string (sB s), .string (sB p)] w M X (fun u => u = .bool (p.isPrefixOf s)) :=
  (Any.strings_HasPrefix hpL (sB s) (sB p) w).mono fun e w' ⟨he, hw⟩ => ⟨_, he, by rw [hw]; exact S, by rw [sB_dt, sB_dt]; rfl⟩
theorem hasPl_q (s p : List UInt8) (S : SH w M X []) : Cq Tryd.prog 26 [.string (sB s), .string (sB p)] w M X (fun u => u = .bool (p.isPrefixOf s)) :=
  (Any.stringslite_HasPrefix hpLl (sB s) (sB p) w).mono fun e w' ⟨he, hw⟩ => ⟨_, he, by rw [hw]; exact S, by rw [sB_dt, sB_dt]; rfl⟩
theorem cut_q (s p : List UInt8) (hs : s.length < 4294967281) (h : LibOk (M.un X.h)) (S : SH w M X []) : Cq Tryd.prog 28 [.string (sB s), .string (sB p)] w M X (fun u => u = .tuple [.string (sB (Lib.cut s p).1), .string (sB (Lib.cut s p).2.1), .bool (Lib.cut s p).2.2].toArray) := by
  obtain ⟨m, hm⟩ := h.ml
  refine (Any.strings_Cut cutL (sB s) (sB p) m w (by rw [sB_size]; exact hs) (hm w S.um 0 _ rfl)).mono ?_
  rintro e w' ⟨he, n, rfl⟩
  rw [sB_dt, sB_dt] at he
  exact ⟨_, he, S.kp ⟨rfl, rfl, rfl, Nat.le_refl _⟩ (fun _ _ => rfl), rfl⟩
theorem splitB_sB (s p : List UInt8) : Lib.splitB (sB p) 0 (Lib.countB (sB s) (sB p)) (sB s) = (Lib.split s p).map sB := by
  have h := Lib.splitB_data (sB p) 0 (Lib.countB (sB s) (sB p)) (sB s)
  unfold Lib.countB at h ⊢
  rw [sB_dt, sB_dt] at h
  rw [sB_dt, sB_dt]
  unfold Lib.split
  rw [← h, List.map_map]
  conv => lhs; rw [← List.map_id (Lib.splitB _ _ _ _)]
  exact List.map_congr_left fun x _ => (sB_data x).symm
theorem split_t (s p : List UInt8) (hs : s.length < 4294967281) (hp1 : 1 ≤ p.length) (h : LibOk (M.un X.h)) (S : SH w M X []) : Ct Tryd.prog 12 [.string (sB s), .string (sB p)] w M X (fun u N => ∃ A c, u = .slice A (Lib.split s p).length c ∧ RdA cdStr N A c (Lib.split s p)) := by
  obtain ⟨m, hm⟩ := h.ml
  have hlen := Lib.splitB_all (sB p) (by rw [sB_size]; exact hp1) 0 _ (sB s) rfl
  have hle := Lib.countB_le (sB p) (by rw [sB_size]; exact hp1) (sB s).size (sB s) (Nat.le_refl _)
  rw [sB_size] at hle
  rw [splitB_sB, List.length_map] at hlen
  unfold Ct
  refine (Any.strings_Split splitL (by kernel_rfl) (sB s) (sB p) m w (by rw [sB_size]; exact hs) (hm w S.um 0 _ rfl) (by rw [sB_size]; exact hp1)).mono ?_
  rintro e w' ⟨he, hw⟩
  rw [splitB_sB] at hw
  have S1 := S.newbox cdStr.E (((Lib.split s p).map sB).map Value.string)
  have hg := S1.get (i := 0) rfl
  obtain ⟨h1, h2, h3⟩ := S1.pub (i := 0) (H' := [Rs.emp]) rfl rfl
  refine ⟨_, he, _, h1, ?_, some ⟨w.heap.size, 0, none⟩, Lib.countB (sB s) (sB p) + 1, ?_, ?_⟩
  · rw [hw]; exact h2.pick [] [] (by decide) trivial
  · rw [hlen]
  · refine ⟨by rw [hlen]; exact Nat.le_refl _, ?_, fun _ => ⟨rfl, (((Lib.split s p).map sB).map Value.string).toArray, cdStr.E, (0, 0), ?_, ?_⟩⟩
    · rw [hlen]; show _ * 16 ≤ _; omega
    · exact (h3 w.heap.size (by simp [Rs.box])).trans hg
    · intro j u hu
      rw [flatS] at hu
      show (((Lib.split s p).map sB).map Value.string).toArray[0 + j]? = some u
      rw [Nat.zero_add, List.getElem?_toArray, List.map_map]
      exact hu
end
/-- What Atoi hands out as a number, its error not asked for. -/
def atoiV (l : List UInt8) : Int := match Lib.atoiAll l with
  | .ok v => v
  | .range => Lib.atoiSat l
  | _ => 0
theorem atoi_t {w : World} {M : Hp} {X : Fr} (s : List UInt8) (hs : s.length ≤ 281474976710656) (h : LibOk (M.un X.h)) (S : SH w M X []) : Ct Tryd.prog 29 [.string (sB s)] w M X (fun u _ => ∃ e, u = .tuple [.int .i64 (atoiV s), e].toArray) := by
  obtain ⟨te1, pe1, hS⟩ := h.es
  obtain ⟨te2, pe2, hR⟩ := h.er
  unfold Ct
  cases hA : Lib.atoiAll s with
  | ok v =>
    have hv : atoiV s = v := by unfold atoiV; rw [hA]
    refine (Any.strconv_Atoi_ok atoiL (sB s) (by rw [sB_size]; omega) v (by rw [sB_dt]; exact hA) w).mono ?_
    rintro e w' ⟨he, hw⟩
    refine ⟨_, he, M, Hp.le_refl _, ?_, _, by rw [hv]⟩
    rcases hw with rfl | ⟨t, rfl⟩
    · exact S
    · exact S.of_below (Lib.bytesWorld_below _ _ _)
  | range =>
    have hv : atoiV s = Lib.atoiSat s := by unfold atoiV; rw [hA]
    refine (Any.strconv_Atoi_range atoiL (sB s) (by rw [sB_size]; exact hs) (by rw [sB_dt]; exact hA) _ w (hR w S.um 0 _ rfl) (.inr ⟨_, _, rfl⟩)).mono ?_
    rintro e w' ⟨N, he, _, _, hb⟩
    rw [sB_dt] at he
    exact ⟨_, he, M, Hp.le_refl _, S.of_below hb, _, by rw [hv]⟩
  | _ =>
    have hv : atoiV s = 0 := by unfold atoiV; rw [hA]
    refine (Any.strconv_Atoi_syntax atoiL (sB s) (by rw [sB_size]; exact hs) (by rw [sB_dt]; exact hA) _ w (hS w S.um 0 _ rfl) (.inr ⟨_, _, rfl⟩)).mono ?_
    rintro e w' ⟨N, he, _, _, hb⟩
    exact ⟨_, he, M, Hp.le_refl _, S.of_below hb, _, by rw [hv]⟩
end Go.Proofs.YtklcecpjgingpaaDoor
namespace Go.Proofs.YtklcecpjgingpaaDoor
open Go.ChangeShapes Go.WideShapes Go.ChangeAt Go.RowKit
theorem dec_small {m : Nat} (h : m < 10) : Lib.decDigits m = [UInt8.ofNat (48 + m)] := by
 rw [Lib.decDigits, dif_pos h]
theorem dec_big {m : Nat} (h : ¬ m < 10) : Lib.decDigits m = Lib.decDigits (m / 10) ++ [UInt8.ofNat (48 + m % 10)] := by
 rw [Lib.decDigits, dif_neg h]
end Go.Proofs.YtklcecpjgingpaaDoor
namespace Go.Proofs.YtklcecpjgingpaaDoor
open Go.ChangeShapes Go.WideShapes Go.ChangeAt Go.RowKit
theorem decs_len : ∀ (k m : Nat), 1 ≤ k → m < 10 ^ k → (Lib.decDigits m).length ≤ k := by
 intro k
 induction k with
 | zero => intro m h; omega
 | succ k ih =>
  intro m _ hm
  by_cases h1 : m < 10
  ·rw [dec_small h1]; simp
  ·rw [dec_big h1, List.length_append]
   simp only [List.length_cons, List.length_nil]
   have hk : 1 ≤ k := by
    rcases Nat.eq_zero_or_pos k with h | h
    ·subst h; simp at hm; omega
    ·exact h
   have := ih (m / 10) hk (by rw [Nat.pow_succ] at hm; omega)
   omega
theorem dec7 {m : Nat} (h : m < 10000000) : (Lib.decDigits m).length ≤ 7 := decs_len 7 m (by decide) h
theorem itoa_pos {v : Int} (h : 0 ≤ v) : Lib.itoa v = Lib.decDigits v.toNat := by
 unfold Lib.itoa; rw [if_neg (by omega)]
theorem itoa_neg {v : Int} (h : v < 0) : Lib.itoa v = 45 :: Lib.decDigits v.natAbs := by
 unfold Lib.itoa; rw [if_pos h]
theorem itoa8 {v : Int} (h : -10000000 < v ∧ v < 10000000) : (Lib.itoa v).length ≤ 8 := by
 by_cases h1 : v < 0
 ·rw [itoa_neg h1, List.length_cons]; have := dec7 (m := v.natAbs) (by omega); omega
 ·rw [itoa_pos (by omega)]; have := dec7 (m := v.toNat) (by omega); omega
theorem dec_one {m : Nat} : Lib.decDigits m = [49] ↔ m = 1 := by
 constructor
 ·intro h
  by_cases h1 : m < 10
  ·rw [dec_small h1] at h
   have h2 : m = 0 ∨ m = 1 ∨ m = 2 ∨ m = 3 ∨ m = 4 ∨ m = 5 ∨ m = 6 ∨ m = 7 ∨ m = 8 ∨ m = 9 := by omega
   rcases h2 with rfl | rfl | rfl | rfl | rfl | rfl | rfl | rfl | rfl | rfl <;> first | rfl | (exact absurd h (by decide))
  ·rw [dec_big h1] at h
   have h3 := congrArg List.length h
   rw [List.length_append] at h3
   simp only [List.length_cons, List.length_nil] at h3
   have h4 : (Lib.decDigits (m / 10)).length = 0 := by omega
   by_cases h5 : m / 10 < 10
   ·rw [dec_small h5] at h4; simp at h4
   ·rw [dec_big h5, List.length_append] at h4; simp at h4
 ·rintro rfl
  rw [dec_small (by decide)]; rfl
noncomputable def DecS_n0 : Code := Tryd.f33.body.getD .skip
noncomputable def DecS_n1 : Code := cL DecS_n0
noncomputable def DecS_n2 : Code := cR DecS_n0
noncomputable def DecS_n3 : Code := cL DecS_n2
noncomputable def DecS_n4 : Code := cR DecS_n2
noncomputable def DecS_n5 : Code := cL DecS_n3
noncomputable def DecS_n6 : Code := cR DecS_n3
noncomputable def DecS_n7 : Code := cL DecS_n6
noncomputable def DecS_n8 : Code := cR DecS_n6
noncomputable def DecS_n9 : Code := cL DecS_n4
noncomputable def DecS_n10 : Code := cR DecS_n4
noncomputable def DecS_n11 : Code := cL DecS_n9
noncomputable def DecS_n12 : Code := cR DecS_n9
noncomputable def DecS_n13 : Code := cL DecS_n12
noncomputable def DecS_n14 : Code := cR DecS_n12
noncomputable def DecS_n15 : Code := cL DecS_n13
noncomputable def DecS_n16 : Code := cR DecS_n13
noncomputable def DecS_n17 : Code := cL DecS_n10
noncomputable def DecS_n18 : Code := cR DecS_n10
set_option maxRecDepth 10000 in
theorem dec_step {w : World} {M : Hp} {X : Fr} (m : Nat) (hm : m < 10000000) (ih : ∀ (m2 : Nat), m2 < m → ∀ (w : World) (M : Hp) (X : Fr), SH w M X [] → Cq Tryd.prog 33 [.int .i64 (m2 : Int)] w M X (fun u => u = .string (sB (Lib.decDigits m2)))) (S : SH w M X []) : Cq Tryd.prog 33 [.int .i64 (m : Int)] w M X (fun u => u = .string (sB (Lib.decDigits m))) := by
 unfold Cq
 refine calls_in (b := DecS_n0) Tryd.func33 rfl Tryd.ntmps33 rfl (fun C hC => ?_)
 refine ws_sub [(0, _)] ⟨rfl, trivial⟩ ?_
 refine ws_seqN DecS_n1 DecS_n2 rfl rfl rfl ?_
 refine ws_region rfl ?_
 refine wla 0 1 rfl rfl rfl rfl rfl rfl rfl ?_
 refine wl_end rfl ?_
 refine nm_sub [(0, _)] ⟨rfl, trivial⟩ ?_
 refine nm_thn ?_
 refine ws_seqN DecS_n3 DecS_n4 rfl rfl rfl ?_
 refine ws_seqN DecS_n5 DecS_n6 rfl rfl rfl ?_
 refine ws_region rfl ?_
 refine wlm 0 1 rfl rfl rfl rfl rfl rfl rfl ?_
 refine wlo 1 2 rfl rfl rfl (wo_run rfl rfl (run_lss rfl rfl rfl) ?_)
 refine wl_end rfl ?_
 refine nm_sub [(0, _), (4, _)] ⟨rfl, rfl, trivial⟩ ?_
 refine nm_thn ?_
 refine ws_condN DecS_n7 DecS_n8 rfl rfl rfl rfl (fun hb4 => ?_) (fun hb4 => ?_)
 ·replace hb4 := of_decide_eq_true hb4
  exfalso; omega
 ·replace hb4 := of_decide_eq_false hb4
  refine ws_skip rfl ?_
  refine nm_sub [(0, _)] ⟨rfl, trivial⟩ ?_
  refine nm_thn ?_
  refine ws_seqN DecS_n9 DecS_n10 rfl rfl rfl ?_
  refine ws_seqN DecS_n11 DecS_n12 rfl rfl rfl ?_
  refine ws_region rfl ?_
  refine wlm 0 1 rfl rfl rfl rfl rfl rfl rfl ?_
  refine wlo 1 2 rfl rfl rfl (wo_run rfl rfl (run_lss rfl rfl rfl) ?_)
  refine wl_end rfl ?_
  refine nm_sub [(0, _), (10, _)] ⟨rfl, rfl, trivial⟩ ?_
  refine nm_thn ?_
  refine ws_condN DecS_n13 DecS_n14 rfl rfl rfl rfl (fun hb10 => ?_) (fun hb10 => ?_)
  ·replace hb10 := of_decide_eq_true hb10
   refine ws_seqN DecS_n15 DecS_n16 rfl rfl rfl ?_
   refine ws_region rfl ?_
   refine wlm 0 1 rfl rfl rfl rfl rfl rfl rfl ?_
   refine wlo 1 2 rfl rfl rfl (wo_run rfl rfl (run_add rfl rfl rfl (by first | omega | (simp only [lens]; omega))) ?_)
   refine wlo 2 3 rfl rfl rfl (wo_run rfl rfl (run_convB (s := (48 + m)) rfl (by first | rfl | exact congrArg (fun z => some (Value.int .i64 z)) (by omega)) ⟨_, Tryd.underlying3⟩ Tryd.underlying5 (by first | omega | (simp only [lens]; omega))) ?_)
   refine wlo 3 4 rfl rfl rfl (wo_buildSlice1 (C := cdB) (l := [_]) rfl rfl rfl rfl sl83 rfl rfl rfl rfl S ?_)
   intro gb1 w1 S1; clear S
   refine wlo 4 5 rfl rfl rfl (wo_run rfl rfl (run_text1 (s := (48 + m)) (i := 0) rfl rfl Tryd.underlying83 Tryd.underlying9 Tryd.underlying5 S1 rfl) ?_)
   refine wla 5 6 rfl rfl rfl rfl rfl rfl rfl ?_
   refine wl_end rfl ?_
   refine nm_sub [(2, _)] ⟨rfl, trivial⟩ ?_
   refine nm_thn ?_
   refine ws_ret hC [_] rfl rfl ⟨rfl, trivial⟩ ?_
   exact ⟨_, rfl, (S1.pick [] [] (by decide) trivial), (by rw [dec_small (by omega)]; rfl)⟩
  ·replace hb10 := of_decide_eq_false hb10
   have hdl := dec7 (m := m / 10) (by omega)
   refine ws_skip rfl ?_
   refine nm_sub [(0, _)] ⟨rfl, trivial⟩ ?_
   refine nm_thn ?_
   refine ws_seqN DecS_n17 DecS_n18 rfl rfl rfl ?_
   refine ws_draw rfl (by kernel_rfl) S 11 rfl ?_
   clear S
   refine wa_takeP (i := 0) (d := 16) 10 rfl (by kernel_rfl) (by kernel_rfl) (by kernel_rfl) rfl rfl rfl (fun w2 => run_move rfl rfl) ?_
   refine wa_takeP (i := 1) (d := 17) 9 rfl (by kernel_rfl) (by kernel_rfl) (by kernel_rfl) rfl rfl rfl (fun w3 => run_quo rfl rfl rfl (by first | omega | (simp only [lens]; omega))) ?_
   refine wa_take (i := 2) (d := 18) 8 rfl (by kernel_rfl) (by kernel_rfl) (by kernel_rfl) rfl rfl rfl (fun M3 N3 w4 hle3 S4 => yield_cq rfl rfl rfl rfl rfl cf33 S4 (ih (m / 10) (by omega) _ _ _ S4.lend)) ?_
   refine wa_takeP (i := 3) (d := 19) 7 rfl (by kernel_rfl) (by kernel_rfl) (by kernel_rfl) rfl rfl rfl (fun w5 => run_move rfl rfl) ?_
   refine wa_takeP (i := 4) (d := 20) 6 rfl (by kernel_rfl) (by kernel_rfl) (by kernel_rfl) rfl rfl rfl (fun w6 => run_rem rfl rfl rfl (by first | omega | (simp only [lens]; omega))) ?_
   refine wa_takeP (i := 5) (d := 21) 5 rfl (by kernel_rfl) (by kernel_rfl) (by kernel_rfl) rfl rfl rfl (fun w7 => run_add rfl rfl rfl (by first | omega | (simp only [lens]; omega))) ?_
   refine wa_take (i := 6) (d := 22) 4 rfl (by kernel_rfl) (by kernel_rfl) (by kernel_rfl) rfl rfl rfl (fun M7 N7 w8 hle7 S8 => .inl (run_convB (s := (48 + m % 10)) rfl (by first | rfl | exact congrArg (fun z => some (Value.int .i64 z)) (by omega)) ⟨_, Tryd.underlying3⟩ Tryd.underlying5 (by first | omega | (simp only [lens]; omega)))) ?_
   refine wa_only (i := 7) 3 rfl (by kernel_rfl) rfl rfl (fun w10 S10 => ?_)
   refine (wo_buildSlice1 (C := cdB) (l := [_]) rfl rfl rfl rfl sl83 rfl rfl rfl rfl S10 ?_)
   intro gb2 w11 S11; clear S10
   refine LeftW.grow [_] (Hp.le_refl _) S11 ?_; clear S11
   change WA _ _ _ _ _ _ _ _ _ _ _ _ [_]
   refine wa_base ?_
   refine wa_take (i := 8) (d := 24) 2 rfl (by kernel_rfl) (by kernel_rfl) (by kernel_rfl) rfl rfl rfl (fun M9 N9 w12 hle9 S12 => .inl (run_text1 (s := (48 + m % 10)) (i := 0) rfl rfl Tryd.underlying83 Tryd.underlying9 Tryd.underlying5 S12.suf rfl)) ?_
   refine wa_takeP (i := 9) (d := 25) 1 rfl (by kernel_rfl) (by kernel_rfl) (by kernel_rfl) rfl rfl rfl (fun w13 => run_addS rfl rfl rfl ((by (try simp only [List.length_append, List.length_cons, List.length_nil]); first | omega | (simp only [lens]; omega)))) ?_
   refine wa_takeP (i := 10) (d := 2) 0 rfl (by kernel_rfl) (by kernel_rfl) (by kernel_rfl) rfl rfl rfl (fun w14 => run_assign rfl rfl) ?_
   refine wa_end (by kernel_rfl) (fun w15 S15 => ?_)
   refine nm_sub [(2, _)] ⟨rfl, trivial⟩ ?_
   refine nm_thn ?_
   refine ws_ret hC [_] rfl rfl ⟨rfl, trivial⟩ ?_
   exact ⟨_, rfl, (S15.pick [] [] (by decide) trivial), (by rw [dec_big (by omega)]; rfl)⟩
theorem dec_all : ∀ (N m : Nat), m < N → m < 10000000 → ∀ (w : World) (M : Hp) (X : Fr), SH w M X [] → Cq Tryd.prog 33 [.int .i64 (m : Int)] w M X (fun u => u = .string (sB (Lib.decDigits m))) := by
 intro N
 induction N with
 | zero => intro m h; omega
 | succ N ih =>
  intro m hN hm w M X S
  exact dec_step m hm (fun m2 h2 w M X S => ih m2 (by omega) (by omega) w M X S) S
theorem dec_u {w : World} {M : Hp} {X : Fr} (v : Int) (hv : 0 ≤ v ∧ v < 10000000) (S : SH w M X []) : Cq Tryd.prog 33 [.int .i64 v] w M X (fun u => u = .string (sB (Lib.decDigits v.toNat))) := by
 obtain ⟨m, rfl⟩ : ∃ m : Nat, v = (m : Int) := ⟨v.toNat, by omega⟩
 exact dec_all (m + 1) m (by omega) (by omega) _ _ _ S
noncomputable def DecN_n0 : Code := Tryd.f33.body.getD .skip
noncomputable def DecN_n1 : Code := cL DecN_n0
noncomputable def DecN_n2 : Code := cR DecN_n0
noncomputable def DecN_n3 : Code := cL DecN_n2
noncomputable def DecN_n4 : Code := cR DecN_n2
noncomputable def DecN_n5 : Code := cL DecN_n3
noncomputable def DecN_n6 : Code := cR DecN_n3
noncomputable def DecN_n7 : Code := cL DecN_n6
noncomputable def DecN_n8 : Code := cR DecN_n6
noncomputable def DecN_n9 : Code := cL DecN_n7
noncomputable def DecN_n10 : Code := cR DecN_n7
set_option maxRecDepth 10000 in
theorem dec_neg {w : World} {M : Hp} {X : Fr} (v : Int) (hv : -10000000 < v ∧ v < 0) (S : SH w M X []) : Cq Tryd.prog 33 [.int .i64 v] w M X (fun u => u = .string (sB (Lib.itoa v))) := by
 unfold Cq
 refine calls_in (b := DecN_n0) Tryd.func33 rfl Tryd.ntmps33 rfl (fun C hC => ?_)
 refine ws_sub [(0, _)] ⟨rfl, trivial⟩ ?_
 refine ws_seqN DecN_n1 DecN_n2 rfl rfl rfl ?_
 refine ws_region rfl ?_
 refine wla 0 1 rfl rfl rfl rfl rfl rfl rfl ?_
 refine wl_end rfl ?_
 refine nm_sub [(0, _)] ⟨rfl, trivial⟩ ?_
 refine nm_thn ?_
 refine ws_seqN DecN_n3 DecN_n4 rfl rfl rfl ?_
 refine ws_seqN DecN_n5 DecN_n6 rfl rfl rfl ?_
 refine ws_region rfl ?_
 refine wlm 0 1 rfl rfl rfl rfl rfl rfl rfl ?_
 refine wlo 1 2 rfl rfl rfl (wo_run rfl rfl (run_lss rfl rfl rfl) ?_)
 refine wl_end rfl ?_
 refine nm_sub [(0, _), (4, _)] ⟨rfl, rfl, trivial⟩ ?_
 refine nm_thn ?_
 refine ws_condN DecN_n7 DecN_n8 rfl rfl rfl rfl (fun hb4 => ?_) (fun hb4 => ?_)
 ·replace hb4 := of_decide_eq_true hb4
  have hdl := dec7 (m := (-v).toNat) (by omega)
  refine ws_seqN DecN_n9 DecN_n10 rfl rfl rfl ?_
  refine ws_region rfl ?_
  refine wlm 0 1 rfl rfl rfl rfl rfl rfl rfl ?_
  refine wlo 1 2 rfl rfl rfl (wo_run rfl rfl (run_neg rfl rfl (by first | omega | (simp only [lens]; omega))) ?_)
  refine wlo 2 3 rfl rfl rfl (wo_cq rfl rfl rfl rfl rfl rfl rfl cf33 S (dec_u (-v) ((by omega)) S.lend) ?_)
  rintro _ w1 S1 rfl; clear S
  refine wlo 3 4 rfl rfl rfl (wo_run rfl rfl (run_addS rfl rfl rfl ((by (try simp only [List.length_append, List.length_cons, List.length_nil]); first | omega | (simp only [lens]; omega)))) ?_)
  refine wla 4 5 rfl rfl rfl rfl rfl rfl rfl ?_
  refine wl_end rfl ?_
  refine nm_sub [(2, _)] ⟨rfl, trivial⟩ ?_
  refine nm_thn ?_
  refine ws_ret hC [_] rfl rfl ⟨rfl, trivial⟩ ?_
  exact ⟨_, rfl, (S1.pick [] [] (by decide) trivial), (by rw [itoa_neg (by omega), show v.natAbs = (-v).toNat by omega]; rfl)⟩
 ·replace hb4 := of_decide_eq_false hb4
  exfalso; omega
theorem dec_z {w : World} {M : Hp} {X : Fr} (v : Int) (hv : -10000000 < v ∧ v < 10000000) (S : SH w M X []) : Cq Tryd.prog 33 [.int .i64 v] w M X (fun u => u = .string (sB (Lib.itoa v))) := by
 by_cases h : v < 0
 ·exact dec_neg v ⟨hv.1, h⟩ S
 ·rw [itoa_pos (by omega)]
  exact dec_u v ⟨by omega, by omega⟩ S
structure Tm where
 e : Int
 c : Int
instance : Inhabited Tm := ⟨⟨0, 0⟩⟩
def tmF (t : Tm) : List Value := [.int .i64 t.e, .int .i64 t.c]
def cdTm : Cd Tm := ⟨tmF, 2, 16, 38, ⟨0, 0⟩, fun _ => rfl, by
 intro x u hu
 simp [tmF] at hu
 rcases hu with rfl | rfl <;> rfl⟩
/-- A list of terms that may be handed in. -/
def okT (a : List Tm) (i : Nat) : Prop := (-1000 ≤ (ga a i).e ∧ (ga a i).e ≤ 1000) ∧ (-1000000 ≤ (ga a i).c ∧ (ga a i).c ≤ 1000000) ∧ (ga a i).c ≠ 0 ∧ (0 < i → (ga a ((i : Int) - 1).toNat).e < (ga a i).e)
instance (a : List Tm) (i : Nat) : Decidable (okT a i) := by unfold okT; infer_instance
def mayT (a : List Tm) : Bool := decide (a.length ≤ 64 ∧ ∀ i, i < a.length → okT a i)
theorem mayT_may {a : List Tm} (h : mayT a = true) : a.length ≤ 64 ∧ ∀ i, i < a.length → okT a i := of_decide_eq_true h
theorem sl22 : SlOf Tryd.prog 22 cdTm := ⟨.agg [.int .i64 0, .int .i64 0].toArray, Tryd.underlying22, by kernel_rfl, rfl, by decide, by decide⟩
noncomputable def May_n0 : Code := Tryd.f14.body.getD .skip
noncomputable def May_n1 : Code := cL May_n0
noncomputable def May_n2 : Code := cR May_n0
noncomputable def May_n3 : Code := cL May_n2
noncomputable def May_n4 : Code := cR May_n2
noncomputable def May_n5 : Code := cL May_n3
noncomputable def May_n6 : Code := cR May_n3
noncomputable def May_n7 : Code := cL May_n6
noncomputable def May_n8 : Code := cR May_n6
noncomputable def May_n9 : Code := cL May_n7
noncomputable def May_n10 : Code := cR May_n7
noncomputable def May_n11 : Code := cL May_n4
noncomputable def May_n12 : Code := cR May_n4
noncomputable def May_n13 : Code := cL May_n11
noncomputable def May_n14 : Code := cR May_n11
noncomputable def May_n15 : Code := cL May_n14
noncomputable def May_n16 : Code := cL May_n15
noncomputable def May_n17 : Code := cL May_n16
noncomputable def May_n18 : Code := cR May_n16
noncomputable def May_n19 : Code := cL May_n18
noncomputable def May_n20 : Code := cR May_n18
noncomputable def May_n21 : Code := cL May_n19
noncomputable def May_n22 : Code := cR May_n19
noncomputable def May_n23 : Code := cL May_n20
noncomputable def May_n24 : Code := cR May_n20
noncomputable def May_n25 : Code := cL May_n23
noncomputable def May_n26 : Code := cL May_n25
noncomputable def May_n27 : Code := cR May_n25
noncomputable def May_n28 : Code := cL May_n27
noncomputable def May_n29 : Code := cR May_n27
noncomputable def May_n30 : Code := cL May_n29
noncomputable def May_n31 : Code := cR May_n29
noncomputable def May_n32 : Code := cL May_n30
noncomputable def May_n33 : Code := cR May_n30
noncomputable def May_n34 : Code := cL May_n12
noncomputable def May_n35 : Code := cR May_n12
set_option maxHeartbeats 1000000 in
set_option maxRecDepth 10000 in
theorem May_q {w : World} {M : Hp} {X : Fr} (a : List Tm) {aA : Option Addr} {ac : Nat} (ha : RdA cdTm (M.un X.h) aA ac a) (S : SH w M X []) : Cq Tryd.prog 14 [.slice aA a.length ac] w M X (fun u => u = .bool (mayT a)) := by
 unfold Cq
 have rmha : a.length * 16 ≤ 140737488355328 := ha.room
 refine calls_in (b := May_n0) Tryd.func14 rfl Tryd.ntmps14 rfl (fun C hC => ?_)
 refine ws_sub [(0, _)] ⟨rfl, trivial⟩ ?_
 refine ws_seqN May_n1 May_n2 rfl rfl rfl ?_
 refine ws_region rfl ?_
 refine wla 0 1 rfl rfl rfl rfl rfl rfl rfl ?_
 refine wl_end rfl ?_
 refine nm_sub [(0, _)] ⟨rfl, trivial⟩ ?_
 refine nm_thn ?_
 refine ws_seqN May_n3 May_n4 rfl rfl rfl ?_
 refine ws_seqN May_n5 May_n6 rfl rfl rfl ?_
 refine ws_region rfl ?_
 refine wlm 0 1 rfl rfl rfl rfl rfl rfl rfl ?_
 refine wlo 1 2 rfl rfl rfl (wo_run rfl rfl (run_len rfl rfl rfl rfl rfl rfl Tryd.underlying22) ?_)
 refine wlo 2 3 rfl rfl rfl (wo_run rfl rfl (run_gtr rfl rfl rfl) ?_)
 refine wl_end rfl ?_
 refine nm_sub [(0, _), (7, _)] ⟨rfl, rfl, trivial⟩ ?_
 refine nm_thn ?_
 refine ws_condN May_n7 May_n8 rfl rfl rfl rfl (fun hb7 => ?_) (fun hb7 => ?_)
 ·replace hb7 := of_decide_eq_true hb7
  refine ws_seqN May_n9 May_n10 rfl rfl rfl ?_
  refine ws_region rfl ?_
  refine wla 0 1 rfl rfl rfl rfl rfl rfl rfl ?_
  refine wl_end rfl ?_
  refine nm_sub [(2, _)] ⟨rfl, trivial⟩ ?_
  refine nm_thn ?_
  refine ws_ret hC [_] rfl rfl ⟨rfl, trivial⟩ ?_
  exact ⟨_, rfl, (S.pick [] [] (by decide) trivial), (congrArg Value.bool (Eq.symm (decide_eq_false (fun h => by first | (have := h.1; omega) | (have h9 := h.2 i (by omega); unfold okT at h9; omega)))))⟩
 ·replace hb7 := of_decide_eq_false hb7
  refine ws_skip rfl ?_
  refine nm_sub [(0, _)] ⟨rfl, trivial⟩ ?_
  refine nm_thn ?_
  refine ws_seqN May_n11 May_n12 rfl rfl rfl ?_
  refine ws_seqN May_n13 May_n14 rfl rfl rfl ?_
  refine ws_region rfl ?_
  refine wlm 0 1 rfl rfl rfl rfl rfl rfl rfl ?_
  refine wlo 1 2 rfl rfl rfl (wo_run rfl rfl (run_len rfl rfl rfl rfl rfl rfl Tryd.underlying22) ?_)
  refine wlm 2 3 rfl rfl rfl rfl rfl rfl rfl ?_
  refine wl_end rfl ?_
  refine nm_thn ?_
  refine ws_blockN May_n15 0 rfl rfl rfl ?_
  refine ws_loopE (fun mx_ ax_ wx_ => ∃ (i : Nat), mx_ = a.length - i ∧ Env 54 [(0, .slice aA a.length ac), (8, .slice aA a.length ac), (9, .int .i64 (a.length : Int)), (10, .int .i64 (i : Int))] ax_ ∧ SH wx_ M X [] ∧ i ≤ a.length ∧ (∀ j, j < i → okT a j)) rfl ?_ ?_
  ·intro ax_ hax_
   refine ⟨_, ⟨0, rfl, hax_.sub ⟨rfl, rfl, rfl, rfl, trivial⟩, S.pick [] [] (by decide) trivial, ?hq1f0, ?hq1f1⟩⟩
   case hq1f0 => omega
   case hq1f1 => (intro j hj; omega)
  ·rintro m1 a1 w1 ⟨i, rfl, he1, S1, hi, hok⟩
   clear S
   refine ws_in he1 (c := May_n16) rfl ?_
   clear he1 a1
   refine ws_seqN May_n17 May_n18 rfl rfl rfl ?_
   refine ws_region rfl ?_
   refine wlo 0 1 rfl rfl rfl (wo_run rfl rfl (run_lss rfl rfl rfl) ?_)
   refine wl_end rfl ?_
   refine nm_thn ?_
   refine ws_seqN May_n19 May_n20 rfl rfl rfl ?_
   refine ws_condN May_n21 May_n22 rfl rfl rfl rfl (fun hb11 => ?_) (fun hb11 => ?_)
   ·replace hb11 := of_decide_eq_true hb11
    refine ws_skip rfl ?_
    refine nm_sub [(0, _), (8, _), (9, _), (10, _)] ⟨rfl, rfl, rfl, rfl, trivial⟩ ?_
    refine nm_thn ?_
    refine ws_seqN May_n23 May_n24 rfl rfl rfl ?_
    refine ws_blockN May_n25 1 rfl rfl rfl ?_
    refine ws_seqN May_n26 May_n27 rfl rfl rfl ?_
    refine ws_region rfl ?_
    refine wlm 0 1 rfl rfl rfl rfl rfl rfl rfl ?_
    refine wlo 1 2 rfl rfl rfl (wo_run rfl rfl (run_indexM (C := cdTm) i rfl rfl rfl sl22 (by first | rfl | omega) ha (by first | omega | (simp only [lens]; omega))) ?_)
    refine wlo 2 3 rfl rfl rfl (wo_run rfl rfl (run_loadN (us := [_, _]) rfl rfl Tryd.underlying38 rfl sz38 (ha.cellsAt S1.um (e := i) (by first | omega | (simp only [lens]; omega)) (j := 0) ⟨rfl, rfl, trivial⟩)) ?_)
    refine wlo 3 4 rfl rfl rfl (wo_alloc (l := [_, _]) rfl rfl rfl zr38 rfl S1 ?_)
    intro gb1 w2 S2; clear S1
    refine wla 4 5 rfl rfl rfl rfl rfl rfl rfl ?_
    refine wlo 5 6 rfl rfl rfl (wo_storeB (i := 0) (us := [_, _]) (l' := [_, _]) (H' := [_]) rfl rfl S2 rfl rfl rfl rfl sz38 rfl rfl rfl rfl ?_)
    intro w3 S3; clear S2
    refine wl_end rfl ?_
    refine nm_sub [(0, _), (8, _), (9, _), (10, _), (4, _), (3, _)] ⟨rfl, rfl, rfl, rfl, rfl, rfl, trivial⟩ ?_
    refine nm_thn ?_
    refine ws_seqN May_n28 May_n29 rfl rfl rfl ?_
    refine ws_draw rfl (by kernel_rfl) S3 38 rfl ?_
    clear S3
    refine wa_takeP (i := 0) (d := 15) 37 rfl (by kernel_rfl) (by kernel_rfl) (by kernel_rfl) rfl rfl rfl (fun w4 => run_fieldAddr rfl rfl Tryd.underlying38 rfl (ce3) (nf3)) ?_
    refine wa_take (i := 1) (d := 16) 36 rfl (by kernel_rfl) (by kernel_rfl) (by kernel_rfl) rfl rfl rfl (fun M2 N2 w5 hle3 S5 => .inl (run_load1 rfl rfl Tryd.underlying3 rfl (S5.suf.boxc (i := 0) rfl rfl))) ?_
    refine wa_takeP (i := 2) (d := 17) 35 rfl (by kernel_rfl) (by kernel_rfl) (by kernel_rfl) rfl rfl rfl (fun w6 => run_lss rfl rfl rfl) ?_
    refine wa_takeP (i := 3) (d := 18) 34 rfl (by kernel_rfl) (by kernel_rfl) (by kernel_rfl) rfl rfl rfl (fun w7 => run_move rfl rfl) ?_
    refine wa_split (t := 18) rfl (fun hg18 => ?_) (fun hg18 => ?_)
    ·replace hg18 := of_decide_eq_true hg18
     refine wa_no (i := 4) (d := 19) 33 rfl (by kernel_rfl) (by kernel_rfl) (by kernel_rfl) ⟨_, _, _, rfl, rfl, rfl, rfl⟩ rfl rfl ?_
     refine wa_no (i := 5) (d := 20) 32 rfl (by kernel_rfl) (by kernel_rfl) (by kernel_rfl) ⟨_, _, _, rfl, rfl, rfl, rfl⟩ rfl rfl ?_
     refine wa_no (i := 6) (d := 21) 31 rfl (by kernel_rfl) (by kernel_rfl) (by kernel_rfl) ⟨_, _, _, rfl, rfl, rfl, rfl⟩ rfl rfl ?_
     refine wa_takeP (i := 7) (d := 22) 30 rfl (by kernel_rfl) (by kernel_rfl) (by kernel_rfl) rfl rfl rfl (fun w8 => run_pickT rfl rfl rfl) ?_
     refine wa_takeP (i := 8) (d := 23) 29 rfl (by kernel_rfl) (by kernel_rfl) (by kernel_rfl) rfl rfl rfl (fun w9 => run_move rfl rfl) ?_
     refine wa_no (i := 9) (d := 24) 28 rfl (by kernel_rfl) (by kernel_rfl) (by kernel_rfl) ⟨_, _, _, rfl, rfl, rfl, rfl⟩ rfl rfl ?_
     refine wa_no (i := 10) (d := 25) 27 rfl (by kernel_rfl) (by kernel_rfl) (by kernel_rfl) ⟨_, _, _, rfl, rfl, rfl, rfl⟩ rfl rfl ?_
     refine wa_no (i := 11) (d := 26) 26 rfl (by kernel_rfl) (by kernel_rfl) (by kernel_rfl) ⟨_, _, _, rfl, rfl, rfl, rfl⟩ rfl rfl ?_
     refine wa_takeP (i := 12) (d := 27) 25 rfl (by kernel_rfl) (by kernel_rfl) (by kernel_rfl) rfl rfl rfl (fun w10 => run_pickT rfl rfl rfl) ?_
     refine wa_takeP (i := 13) (d := 28) 24 rfl (by kernel_rfl) (by kernel_rfl) (by kernel_rfl) rfl rfl rfl (fun w11 => run_move rfl rfl) ?_
     refine wa_no (i := 14) (d := 29) 23 rfl (by kernel_rfl) (by kernel_rfl) (by kernel_rfl) ⟨_, _, _, rfl, rfl, rfl, rfl⟩ rfl rfl ?_
     refine wa_no (i := 15) (d := 30) 22 rfl (by kernel_rfl) (by kernel_rfl) (by kernel_rfl) ⟨_, _, _, rfl, rfl, rfl, rfl⟩ rfl rfl ?_
     refine wa_no (i := 16) (d := 31) 21 rfl (by kernel_rfl) (by kernel_rfl) (by kernel_rfl) ⟨_, _, _, rfl, rfl, rfl, rfl⟩ rfl rfl ?_
     refine wa_takeP (i := 17) (d := 32) 20 rfl (by kernel_rfl) (by kernel_rfl) (by kernel_rfl) rfl rfl rfl (fun w12 => run_pickT rfl rfl rfl) ?_
     refine wa_takeP (i := 18) (d := 33) 19 rfl (by kernel_rfl) (by kernel_rfl) (by kernel_rfl) rfl rfl rfl (fun w13 => run_move rfl rfl) ?_
     refine wa_no (i := 19) (d := 34) 18 rfl (by kernel_rfl) (by kernel_rfl) (by kernel_rfl) ⟨_, _, _, rfl, rfl, rfl, rfl⟩ rfl rfl ?_
     refine wa_no (i := 20) (d := 35) 17 rfl (by kernel_rfl) (by kernel_rfl) (by kernel_rfl) ⟨_, _, _, rfl, rfl, rfl, rfl⟩ rfl rfl ?_
     refine wa_no (i := 21) (d := 36) 16 rfl (by kernel_rfl) (by kernel_rfl) (by kernel_rfl) ⟨_, _, _, rfl, rfl, rfl, rfl⟩ rfl rfl ?_
     refine wa_takeP (i := 22) (d := 37) 15 rfl (by kernel_rfl) (by kernel_rfl) (by kernel_rfl) rfl rfl rfl (fun w14 => run_pickT rfl rfl rfl) ?_
     refine wa_takeP (i := 23) (d := 38) 14 rfl (by kernel_rfl) (by kernel_rfl) (by kernel_rfl) rfl rfl rfl (fun w15 => run_move rfl rfl) ?_
     refine wa_no (i := 24) (d := 39) 13 rfl (by kernel_rfl) (by kernel_rfl) (by kernel_rfl) ⟨_, _, _, rfl, rfl, rfl, rfl⟩ rfl rfl ?_
     refine wa_no (i := 25) (d := 40) 12 rfl (by kernel_rfl) (by kernel_rfl) (by kernel_rfl) ⟨_, _, _, rfl, rfl, rfl, rfl⟩ rfl rfl ?_
     refine wa_no (i := 26) (d := 41) 11 rfl (by kernel_rfl) (by kernel_rfl) (by kernel_rfl) ⟨_, _, _, rfl, rfl, rfl, rfl⟩ rfl rfl ?_
     refine wa_no (i := 27) (d := 42) 10 rfl (by kernel_rfl) (by kernel_rfl) (by kernel_rfl) ⟨_, _, _, rfl, rfl, rfl, rfl⟩ rfl rfl ?_
     refine wa_no (i := 28) (d := 43) 9 rfl (by kernel_rfl) (by kernel_rfl) (by kernel_rfl) ⟨_, _, _, rfl, rfl, rfl, rfl⟩ rfl rfl ?_
     refine wa_no (i := 29) (d := 44) 8 rfl (by kernel_rfl) (by kernel_rfl) (by kernel_rfl) ⟨_, _, _, rfl, rfl, rfl, rfl⟩ rfl rfl ?_
     refine wa_no (i := 30) (d := 45) 7 rfl (by kernel_rfl) (by kernel_rfl) (by kernel_rfl) ⟨_, _, _, rfl, rfl, rfl, rfl⟩ rfl rfl ?_
     refine wa_no (i := 31) (d := 46) 6 rfl (by kernel_rfl) (by kernel_rfl) (by kernel_rfl) ⟨_, _, _, rfl, rfl, rfl, rfl⟩ rfl rfl ?_
     refine wa_no (i := 32) (d := 47) 5 rfl (by kernel_rfl) (by kernel_rfl) (by kernel_rfl) ⟨_, _, _, rfl, rfl, rfl, rfl⟩ rfl rfl ?_
     refine wa_no (i := 33) (d := 48) 4 rfl (by kernel_rfl) (by kernel_rfl) (by kernel_rfl) ⟨_, _, _, rfl, rfl, rfl, rfl⟩ rfl rfl ?_
     refine wa_no (i := 34) (d := 49) 3 rfl (by kernel_rfl) (by kernel_rfl) (by kernel_rfl) ⟨_, _, _, rfl, rfl, rfl, rfl⟩ rfl rfl ?_
     refine wa_no (i := 35) (d := 50) 2 rfl (by kernel_rfl) (by kernel_rfl) (by kernel_rfl) ⟨_, _, _, rfl, rfl, rfl, rfl⟩ rfl rfl ?_
     refine wa_no (i := 36) (d := 51) 1 rfl (by kernel_rfl) (by kernel_rfl) (by kernel_rfl) ⟨_, _, _, rfl, rfl, rfl, rfl⟩ rfl rfl ?_
     refine wa_takeP (i := 37) (d := 52) 0 rfl (by kernel_rfl) (by kernel_rfl) (by kernel_rfl) rfl rfl rfl (fun w16 => run_pickT rfl rfl rfl) ?_
     refine wa_end (by kernel_rfl) (fun w17 S17 => ?_)
     refine nm_sub [(0, _), (8, _), (9, _), (10, _), (52, _)] ⟨rfl, rfl, rfl, rfl, rfl, trivial⟩ ?_
     refine nm_thn ?_
     refine ws_condTN May_n30 rfl rfl rfl ?_
     refine ws_seqN May_n32 May_n33 rfl rfl rfl ?_
     refine ws_region rfl ?_
     refine wla 0 1 rfl rfl rfl rfl rfl rfl rfl ?_
     refine wl_end rfl ?_
     refine nm_sub [(2, _)] ⟨rfl, trivial⟩ ?_
     refine nm_thn ?_
     refine ws_ret hC [_] rfl rfl ⟨rfl, trivial⟩ ?_
     exact ⟨_, rfl, (S17.pick [] [] (by decide) trivial), (congrArg Value.bool (Eq.symm (decide_eq_false (fun h => by first | (have := h.1; omega) | (have h9 := h.2 i (by omega); unfold okT at h9; omega)))))⟩
    ·replace hg18 := of_decide_eq_false hg18
     refine wa_takeP (i := 4) (d := 19) 33 rfl (by kernel_rfl) (by kernel_rfl) (by kernel_rfl) ⟨_, _, _, rfl, rfl, rfl, rfl⟩ rfl rfl (fun w18 => run_fieldAddr rfl rfl Tryd.underlying38 rfl (ce3) (nf3)) ?_
     refine wa_take (i := 5) (d := 20) 32 rfl (by kernel_rfl) (by kernel_rfl) (by kernel_rfl) ⟨_, _, _, rfl, rfl, rfl, rfl⟩ rfl rfl (fun M15 N15 w19 hle16 S19 => .inl (run_load1 rfl rfl Tryd.underlying3 rfl (S19.suf.boxc (i := 0) rfl rfl))) ?_
     refine wa_takeP (i := 6) (d := 21) 31 rfl (by kernel_rfl) (by kernel_rfl) (by kernel_rfl) ⟨_, _, _, rfl, rfl, rfl, rfl⟩ rfl rfl (fun w20 => run_gtr rfl rfl rfl) ?_
     refine wa_takeP (i := 7) (d := 22) 30 rfl (by kernel_rfl) (by kernel_rfl) (by kernel_rfl) rfl rfl rfl (fun w21 => run_pickF rfl rfl rfl) ?_
     refine wa_takeP (i := 8) (d := 23) 29 rfl (by kernel_rfl) (by kernel_rfl) (by kernel_rfl) rfl rfl rfl (fun w22 => run_move rfl rfl) ?_
     refine wa_split (t := 23) rfl (fun hg23 => ?_) (fun hg23 => ?_)
     ·replace hg23 := of_decide_eq_true hg23
      refine wa_no (i := 9) (d := 24) 28 rfl (by kernel_rfl) (by kernel_rfl) (by kernel_rfl) ⟨_, _, _, rfl, rfl, rfl, rfl⟩ rfl rfl ?_
      refine wa_no (i := 10) (d := 25) 27 rfl (by kernel_rfl) (by kernel_rfl) (by kernel_rfl) ⟨_, _, _, rfl, rfl, rfl, rfl⟩ rfl rfl ?_
      refine wa_no (i := 11) (d := 26) 26 rfl (by kernel_rfl) (by kernel_rfl) (by kernel_rfl) ⟨_, _, _, rfl, rfl, rfl, rfl⟩ rfl rfl ?_
      refine wa_takeP (i := 12) (d := 27) 25 rfl (by kernel_rfl) (by kernel_rfl) (by kernel_rfl) rfl rfl rfl (fun w23 => run_pickT rfl rfl rfl) ?_
      refine wa_takeP (i := 13) (d := 28) 24 rfl (by kernel_rfl) (by kernel_rfl) (by kernel_rfl) rfl rfl rfl (fun w24 => run_move rfl rfl) ?_
      refine wa_no (i := 14) (d := 29) 23 rfl (by kernel_rfl) (by kernel_rfl) (by kernel_rfl) ⟨_, _, _, rfl, rfl, rfl, rfl⟩ rfl rfl ?_
      refine wa_no (i := 15) (d := 30) 22 rfl (by kernel_rfl) (by kernel_rfl) (by kernel_rfl) ⟨_, _, _, rfl, rfl, rfl, rfl⟩ rfl rfl ?_
      refine wa_no (i := 16) (d := 31) 21 rfl (by kernel_rfl) (by kernel_rfl) (by kernel_rfl) ⟨_, _, _, rfl, rfl, rfl, rfl⟩ rfl rfl ?_
      refine wa_takeP (i := 17) (d := 32) 20 rfl (by kernel_rfl) (by kernel_rfl) (by kernel_rfl) rfl rfl rfl (fun w25 => run_pickT rfl rfl rfl) ?_
      refine wa_takeP (i := 18) (d := 33) 19 rfl (by kernel_rfl) (by kernel_rfl) (by kernel_rfl) rfl rfl rfl (fun w26 => run_move rfl rfl) ?_
      refine wa_no (i := 19) (d := 34) 18 rfl (by kernel_rfl) (by kernel_rfl) (by kernel_rfl) ⟨_, _, _, rfl, rfl, rfl, rfl⟩ rfl rfl ?_
      refine wa_no (i := 20) (d := 35) 17 rfl (by kernel_rfl) (by kernel_rfl) (by kernel_rfl) ⟨_, _, _, rfl, rfl, rfl, rfl⟩ rfl rfl ?_
      refine wa_no (i := 21) (d := 36) 16 rfl (by kernel_rfl) (by kernel_rfl) (by kernel_rfl) ⟨_, _, _, rfl, rfl, rfl, rfl⟩ rfl rfl ?_
      refine wa_takeP (i := 22) (d := 37) 15 rfl (by kernel_rfl) (by kernel_rfl) (by kernel_rfl) rfl rfl rfl (fun w27 => run_pickT rfl rfl rfl) ?_
      refine wa_takeP (i := 23) (d := 38) 14 rfl (by kernel_rfl) (by kernel_rfl) (by kernel_rfl) rfl rfl rfl (fun w28 => run_move rfl rfl) ?_
      refine wa_no (i := 24) (d := 39) 13 rfl (by kernel_rfl) (by kernel_rfl) (by kernel_rfl) ⟨_, _, _, rfl, rfl, rfl, rfl⟩ rfl rfl ?_
      refine wa_no (i := 25) (d := 40) 12 rfl (by kernel_rfl) (by kernel_rfl) (by kernel_rfl) ⟨_, _, _, rfl, rfl, rfl, rfl⟩ rfl rfl ?_
      refine wa_no (i := 26) (d := 41) 11 rfl (by kernel_rfl) (by kernel_rfl) (by kernel_rfl) ⟨_, _, _, rfl, rfl, rfl, rfl⟩ rfl rfl ?_
      refine wa_no (i := 27) (d := 42) 10 rfl (by kernel_rfl) (by kernel_rfl) (by kernel_rfl) ⟨_, _, _, rfl, rfl, rfl, rfl⟩ rfl rfl ?_
      refine wa_no (i := 28) (d := 43) 9 rfl (by kernel_rfl) (by kernel_rfl) (by kernel_rfl) ⟨_, _, _, rfl, rfl, rfl, rfl⟩ rfl rfl ?_
      refine wa_no (i := 29) (d := 44) 8 rfl (by kernel_rfl) (by kernel_rfl) (by kernel_rfl) ⟨_, _, _, rfl, rfl, rfl, rfl⟩ rfl rfl ?_
      refine wa_no (i := 30) (d := 45) 7 rfl (by kernel_rfl) (by kernel_rfl) (by kernel_rfl) ⟨_, _, _, rfl, rfl, rfl, rfl⟩ rfl rfl ?_
      refine wa_no (i := 31) (d := 46) 6 rfl (by kernel_rfl) (by kernel_rfl) (by kernel_rfl) ⟨_, _, _, rfl, rfl, rfl, rfl⟩ rfl rfl ?_
      refine wa_no (i := 32) (d := 47) 5 rfl (by kernel_rfl) (by kernel_rfl) (by kernel_rfl) ⟨_, _, _, rfl, rfl, rfl, rfl⟩ rfl rfl ?_
      refine wa_no (i := 33) (d := 48) 4 rfl (by kernel_rfl) (by kernel_rfl) (by kernel_rfl) ⟨_, _, _, rfl, rfl, rfl, rfl⟩ rfl rfl ?_
      refine wa_no (i := 34) (d := 49) 3 rfl (by kernel_rfl) (by kernel_rfl) (by kernel_rfl) ⟨_, _, _, rfl, rfl, rfl, rfl⟩ rfl rfl ?_
      refine wa_no (i := 35) (d := 50) 2 rfl (by kernel_rfl) (by kernel_rfl) (by kernel_rfl) ⟨_, _, _, rfl, rfl, rfl, rfl⟩ rfl rfl ?_
      refine wa_no (i := 36) (d := 51) 1 rfl (by kernel_rfl) (by kernel_rfl) (by kernel_rfl) ⟨_, _, _, rfl, rfl, rfl, rfl⟩ rfl rfl ?_
      refine wa_takeP (i := 37) (d := 52) 0 rfl (by kernel_rfl) (by kernel_rfl) (by kernel_rfl) rfl rfl rfl (fun w29 => run_pickT rfl rfl rfl) ?_
      refine wa_end (by kernel_rfl) (fun w30 S30 => ?_)
      refine nm_sub [(0, _), (8, _), (9, _), (10, _), (52, _)] ⟨rfl, rfl, rfl, rfl, rfl, trivial⟩ ?_
      refine nm_thn ?_
      refine ws_condTN May_n30 rfl rfl rfl ?_
      refine ws_seqN May_n32 May_n33 rfl rfl rfl ?_
      refine ws_region rfl ?_
      refine wla 0 1 rfl rfl rfl rfl rfl rfl rfl ?_
      refine wl_end rfl ?_
      refine nm_sub [(2, _)] ⟨rfl, trivial⟩ ?_
      refine nm_thn ?_
      refine ws_ret hC [_] rfl rfl ⟨rfl, trivial⟩ ?_
      exact ⟨_, rfl, (S30.pick [] [] (by decide) trivial), (congrArg Value.bool (Eq.symm (decide_eq_false (fun h => by first | (have := h.1; omega) | (have h9 := h.2 i (by omega); unfold okT at h9; omega)))))⟩
     ·replace hg23 := of_decide_eq_false hg23
      refine wa_takeP (i := 9) (d := 24) 28 rfl (by kernel_rfl) (by kernel_rfl) (by kernel_rfl) ⟨_, _, _, rfl, rfl, rfl, rfl⟩ rfl rfl (fun w31 => run_fieldAddr rfl rfl Tryd.underlying38 rfl (ce3) (nf3)) ?_
      refine wa_take (i := 10) (d := 25) 27 rfl (by kernel_rfl) (by kernel_rfl) (by kernel_rfl) ⟨_, _, _, rfl, rfl, rfl, rfl⟩ rfl rfl (fun M27 N27 w32 hle28 S32 => .inl (run_load1 rfl rfl Tryd.underlying3 rfl (S32.suf.boxc (i := 0) rfl rfl))) ?_
      refine wa_takeP (i := 11) (d := 26) 26 rfl (by kernel_rfl) (by kernel_rfl) (by kernel_rfl) ⟨_, _, _, rfl, rfl, rfl, rfl⟩ rfl rfl (fun w33 => run_lss rfl rfl rfl) ?_
      refine wa_takeP (i := 12) (d := 27) 25 rfl (by kernel_rfl) (by kernel_rfl) (by kernel_rfl) rfl rfl rfl (fun w34 => run_pickF rfl rfl rfl) ?_
      refine wa_takeP (i := 13) (d := 28) 24 rfl (by kernel_rfl) (by kernel_rfl) (by kernel_rfl) rfl rfl rfl (fun w35 => run_move rfl rfl) ?_
      refine wa_split (t := 28) rfl (fun hg28 => ?_) (fun hg28 => ?_)
      ·replace hg28 := of_decide_eq_true hg28
       refine wa_no (i := 14) (d := 29) 23 rfl (by kernel_rfl) (by kernel_rfl) (by kernel_rfl) ⟨_, _, _, rfl, rfl, rfl, rfl⟩ rfl rfl ?_
       refine wa_no (i := 15) (d := 30) 22 rfl (by kernel_rfl) (by kernel_rfl) (by kernel_rfl) ⟨_, _, _, rfl, rfl, rfl, rfl⟩ rfl rfl ?_
       refine wa_no (i := 16) (d := 31) 21 rfl (by kernel_rfl) (by kernel_rfl) (by kernel_rfl) ⟨_, _, _, rfl, rfl, rfl, rfl⟩ rfl rfl ?_
       refine wa_takeP (i := 17) (d := 32) 20 rfl (by kernel_rfl) (by kernel_rfl) (by kernel_rfl) rfl rfl rfl (fun w36 => run_pickT rfl rfl rfl) ?_
       refine wa_takeP (i := 18) (d := 33) 19 rfl (by kernel_rfl) (by kernel_rfl) (by kernel_rfl) rfl rfl rfl (fun w37 => run_move rfl rfl) ?_
       refine wa_no (i := 19) (d := 34) 18 rfl (by kernel_rfl) (by kernel_rfl) (by kernel_rfl) ⟨_, _, _, rfl, rfl, rfl, rfl⟩ rfl rfl ?_
       refine wa_no (i := 20) (d := 35) 17 rfl (by kernel_rfl) (by kernel_rfl) (by kernel_rfl) ⟨_, _, _, rfl, rfl, rfl, rfl⟩ rfl rfl ?_
       refine wa_no (i := 21) (d := 36) 16 rfl (by kernel_rfl) (by kernel_rfl) (by kernel_rfl) ⟨_, _, _, rfl, rfl, rfl, rfl⟩ rfl rfl ?_
       refine wa_takeP (i := 22) (d := 37) 15 rfl (by kernel_rfl) (by kernel_rfl) (by kernel_rfl) rfl rfl rfl (fun w38 => run_pickT rfl rfl rfl) ?_
       refine wa_takeP (i := 23) (d := 38) 14 rfl (by kernel_rfl) (by kernel_rfl) (by kernel_rfl) rfl rfl rfl (fun w39 => run_move rfl rfl) ?_
       refine wa_no (i := 24) (d := 39) 13 rfl (by kernel_rfl) (by kernel_rfl) (by kernel_rfl) ⟨_, _, _, rfl, rfl, rfl, rfl⟩ rfl rfl ?_
       refine wa_no (i := 25) (d := 40) 12 rfl (by kernel_rfl) (by kernel_rfl) (by kernel_rfl) ⟨_, _, _, rfl, rfl, rfl, rfl⟩ rfl rfl ?_
       refine wa_no (i := 26) (d := 41) 11 rfl (by kernel_rfl) (by kernel_rfl) (by kernel_rfl) ⟨_, _, _, rfl, rfl, rfl, rfl⟩ rfl rfl ?_
       refine wa_no (i := 27) (d := 42) 10 rfl (by kernel_rfl) (by kernel_rfl) (by kernel_rfl) ⟨_, _, _, rfl, rfl, rfl, rfl⟩ rfl rfl ?_
       refine wa_no (i := 28) (d := 43) 9 rfl (by kernel_rfl) (by kernel_rfl) (by kernel_rfl) ⟨_, _, _, rfl, rfl, rfl, rfl⟩ rfl rfl ?_
       refine wa_no (i := 29) (d := 44) 8 rfl (by kernel_rfl) (by kernel_rfl) (by kernel_rfl) ⟨_, _, _, rfl, rfl, rfl, rfl⟩ rfl rfl ?_
       refine wa_no (i := 30) (d := 45) 7 rfl (by kernel_rfl) (by kernel_rfl) (by kernel_rfl) ⟨_, _, _, rfl, rfl, rfl, rfl⟩ rfl rfl ?_
       refine wa_no (i := 31) (d := 46) 6 rfl (by kernel_rfl) (by kernel_rfl) (by kernel_rfl) ⟨_, _, _, rfl, rfl, rfl, rfl⟩ rfl rfl ?_
       refine wa_no (i := 32) (d := 47) 5 rfl (by kernel_rfl) (by kernel_rfl) (by kernel_rfl) ⟨_, _, _, rfl, rfl, rfl, rfl⟩ rfl rfl ?_
       refine wa_no (i := 33) (d := 48) 4 rfl (by kernel_rfl) (by kernel_rfl) (by kernel_rfl) ⟨_, _, _, rfl, rfl, rfl, rfl⟩ rfl rfl ?_
       refine wa_no (i := 34) (d := 49) 3 rfl (by kernel_rfl) (by kernel_rfl) (by kernel_rfl) ⟨_, _, _, rfl, rfl, rfl, rfl⟩ rfl rfl ?_
       refine wa_no (i := 35) (d := 50) 2 rfl (by kernel_rfl) (by kernel_rfl) (by kernel_rfl) ⟨_, _, _, rfl, rfl, rfl, rfl⟩ rfl rfl ?_
       refine wa_no (i := 36) (d := 51) 1 rfl (by kernel_rfl) (by kernel_rfl) (by kernel_rfl) ⟨_, _, _, rfl, rfl, rfl, rfl⟩ rfl rfl ?_
       refine wa_takeP (i := 37) (d := 52) 0 rfl (by kernel_rfl) (by kernel_rfl) (by kernel_rfl) rfl rfl rfl (fun w40 => run_pickT rfl rfl rfl) ?_
       refine wa_end (by kernel_rfl) (fun w41 S41 => ?_)
       refine nm_sub [(0, _), (8, _), (9, _), (10, _), (52, _)] ⟨rfl, rfl, rfl, rfl, rfl, trivial⟩ ?_
       refine nm_thn ?_
       refine ws_condTN May_n30 rfl rfl rfl ?_
       refine ws_seqN May_n32 May_n33 rfl rfl rfl ?_
       refine ws_region rfl ?_
       refine wla 0 1 rfl rfl rfl rfl rfl rfl rfl ?_
       refine wl_end rfl ?_
       refine nm_sub [(2, _)] ⟨rfl, trivial⟩ ?_
       refine nm_thn ?_
       refine ws_ret hC [_] rfl rfl ⟨rfl, trivial⟩ ?_
       exact ⟨_, rfl, (S41.pick [] [] (by decide) trivial), (congrArg Value.bool (Eq.symm (decide_eq_false (fun h => by first | (have := h.1; omega) | (have h9 := h.2 i (by omega); unfold okT at h9; omega)))))⟩
      ·replace hg28 := of_decide_eq_false hg28
       refine wa_takeP (i := 14) (d := 29) 23 rfl (by kernel_rfl) (by kernel_rfl) (by kernel_rfl) ⟨_, _, _, rfl, rfl, rfl, rfl⟩ rfl rfl (fun w42 => run_fieldAddr rfl rfl Tryd.underlying38 rfl (ce3) (nf3)) ?_
       refine wa_take (i := 15) (d := 30) 22 rfl (by kernel_rfl) (by kernel_rfl) (by kernel_rfl) ⟨_, _, _, rfl, rfl, rfl, rfl⟩ rfl rfl (fun M37 N37 w43 hle38 S43 => .inl (run_load1 rfl rfl Tryd.underlying3 rfl (S43.suf.boxc (i := 0) rfl rfl))) ?_
       refine wa_takeP (i := 16) (d := 31) 21 rfl (by kernel_rfl) (by kernel_rfl) (by kernel_rfl) ⟨_, _, _, rfl, rfl, rfl, rfl⟩ rfl rfl (fun w44 => run_gtr rfl rfl rfl) ?_
       refine wa_takeP (i := 17) (d := 32) 20 rfl (by kernel_rfl) (by kernel_rfl) (by kernel_rfl) rfl rfl rfl (fun w45 => run_pickF rfl rfl rfl) ?_
       refine wa_takeP (i := 18) (d := 33) 19 rfl (by kernel_rfl) (by kernel_rfl) (by kernel_rfl) rfl rfl rfl (fun w46 => run_move rfl rfl) ?_
       refine wa_split (t := 33) rfl (fun hg33 => ?_) (fun hg33 => ?_)
       ·replace hg33 := of_decide_eq_true hg33
        refine wa_no (i := 19) (d := 34) 18 rfl (by kernel_rfl) (by kernel_rfl) (by kernel_rfl) ⟨_, _, _, rfl, rfl, rfl, rfl⟩ rfl rfl ?_
        refine wa_no (i := 20) (d := 35) 17 rfl (by kernel_rfl) (by kernel_rfl) (by kernel_rfl) ⟨_, _, _, rfl, rfl, rfl, rfl⟩ rfl rfl ?_
        refine wa_no (i := 21) (d := 36) 16 rfl (by kernel_rfl) (by kernel_rfl) (by kernel_rfl) ⟨_, _, _, rfl, rfl, rfl, rfl⟩ rfl rfl ?_
        refine wa_takeP (i := 22) (d := 37) 15 rfl (by kernel_rfl) (by kernel_rfl) (by kernel_rfl) rfl rfl rfl (fun w47 => run_pickT rfl rfl rfl) ?_
        refine wa_takeP (i := 23) (d := 38) 14 rfl (by kernel_rfl) (by kernel_rfl) (by kernel_rfl) rfl rfl rfl (fun w48 => run_move rfl rfl) ?_
        refine wa_no (i := 24) (d := 39) 13 rfl (by kernel_rfl) (by kernel_rfl) (by kernel_rfl) ⟨_, _, _, rfl, rfl, rfl, rfl⟩ rfl rfl ?_
        refine wa_no (i := 25) (d := 40) 12 rfl (by kernel_rfl) (by kernel_rfl) (by kernel_rfl) ⟨_, _, _, rfl, rfl, rfl, rfl⟩ rfl rfl ?_
        refine wa_no (i := 26) (d := 41) 11 rfl (by kernel_rfl) (by kernel_rfl) (by kernel_rfl) ⟨_, _, _, rfl, rfl, rfl, rfl⟩ rfl rfl ?_
        refine wa_no (i := 27) (d := 42) 10 rfl (by kernel_rfl) (by kernel_rfl) (by kernel_rfl) ⟨_, _, _, rfl, rfl, rfl, rfl⟩ rfl rfl ?_
        refine wa_no (i := 28) (d := 43) 9 rfl (by kernel_rfl) (by kernel_rfl) (by kernel_rfl) ⟨_, _, _, rfl, rfl, rfl, rfl⟩ rfl rfl ?_
        refine wa_no (i := 29) (d := 44) 8 rfl (by kernel_rfl) (by kernel_rfl) (by kernel_rfl) ⟨_, _, _, rfl, rfl, rfl, rfl⟩ rfl rfl ?_
        refine wa_no (i := 30) (d := 45) 7 rfl (by kernel_rfl) (by kernel_rfl) (by kernel_rfl) ⟨_, _, _, rfl, rfl, rfl, rfl⟩ rfl rfl ?_
        refine wa_no (i := 31) (d := 46) 6 rfl (by kernel_rfl) (by kernel_rfl) (by kernel_rfl) ⟨_, _, _, rfl, rfl, rfl, rfl⟩ rfl rfl ?_
        refine wa_no (i := 32) (d := 47) 5 rfl (by kernel_rfl) (by kernel_rfl) (by kernel_rfl) ⟨_, _, _, rfl, rfl, rfl, rfl⟩ rfl rfl ?_
        refine wa_no (i := 33) (d := 48) 4 rfl (by kernel_rfl) (by kernel_rfl) (by kernel_rfl) ⟨_, _, _, rfl, rfl, rfl, rfl⟩ rfl rfl ?_
        refine wa_no (i := 34) (d := 49) 3 rfl (by kernel_rfl) (by kernel_rfl) (by kernel_rfl) ⟨_, _, _, rfl, rfl, rfl, rfl⟩ rfl rfl ?_
        refine wa_no (i := 35) (d := 50) 2 rfl (by kernel_rfl) (by kernel_rfl) (by kernel_rfl) ⟨_, _, _, rfl, rfl, rfl, rfl⟩ rfl rfl ?_
        refine wa_no (i := 36) (d := 51) 1 rfl (by kernel_rfl) (by kernel_rfl) (by kernel_rfl) ⟨_, _, _, rfl, rfl, rfl, rfl⟩ rfl rfl ?_
        refine wa_takeP (i := 37) (d := 52) 0 rfl (by kernel_rfl) (by kernel_rfl) (by kernel_rfl) rfl rfl rfl (fun w49 => run_pickT rfl rfl rfl) ?_
        refine wa_end (by kernel_rfl) (fun w50 S50 => ?_)
        refine nm_sub [(0, _), (8, _), (9, _), (10, _), (52, _)] ⟨rfl, rfl, rfl, rfl, rfl, trivial⟩ ?_
        refine nm_thn ?_
        refine ws_condTN May_n30 rfl rfl rfl ?_
        refine ws_seqN May_n32 May_n33 rfl rfl rfl ?_
        refine ws_region rfl ?_
        refine wla 0 1 rfl rfl rfl rfl rfl rfl rfl ?_
        refine wl_end rfl ?_
        refine nm_sub [(2, _)] ⟨rfl, trivial⟩ ?_
        refine nm_thn ?_
        refine ws_ret hC [_] rfl rfl ⟨rfl, trivial⟩ ?_
        exact ⟨_, rfl, (S50.pick [] [] (by decide) trivial), (congrArg Value.bool (Eq.symm (decide_eq_false (fun h => by first | (have := h.1; omega) | (have h9 := h.2 i (by omega); unfold okT at h9; omega)))))⟩
       ·replace hg33 := of_decide_eq_false hg33
        refine wa_takeP (i := 19) (d := 34) 18 rfl (by kernel_rfl) (by kernel_rfl) (by kernel_rfl) ⟨_, _, _, rfl, rfl, rfl, rfl⟩ rfl rfl (fun w51 => run_fieldAddr rfl rfl Tryd.underlying38 rfl (ce3) (nf3)) ?_
        refine wa_take (i := 20) (d := 35) 17 rfl (by kernel_rfl) (by kernel_rfl) (by kernel_rfl) ⟨_, _, _, rfl, rfl, rfl, rfl⟩ rfl rfl (fun M45 N45 w52 hle46 S52 => .inl (run_load1 rfl rfl Tryd.underlying3 rfl (S52.suf.boxc (i := 0) rfl rfl))) ?_
        refine wa_takeP (i := 21) (d := 36) 16 rfl (by kernel_rfl) (by kernel_rfl) (by kernel_rfl) ⟨_, _, _, rfl, rfl, rfl, rfl⟩ rfl rfl (fun w53 => run_eql rfl rfl rfl) ?_
        refine wa_takeP (i := 22) (d := 37) 15 rfl (by kernel_rfl) (by kernel_rfl) (by kernel_rfl) rfl rfl rfl (fun w54 => run_pickF rfl rfl rfl) ?_
        refine wa_takeP (i := 23) (d := 38) 14 rfl (by kernel_rfl) (by kernel_rfl) (by kernel_rfl) rfl rfl rfl (fun w55 => run_move rfl rfl) ?_
        refine wa_split (t := 38) rfl (fun hg38 => ?_) (fun hg38 => ?_)
        ·replace hg38 := of_decide_eq_true hg38
         refine wa_no (i := 24) (d := 39) 13 rfl (by kernel_rfl) (by kernel_rfl) (by kernel_rfl) ⟨_, _, _, rfl, rfl, rfl, rfl⟩ rfl rfl ?_
         refine wa_no (i := 25) (d := 40) 12 rfl (by kernel_rfl) (by kernel_rfl) (by kernel_rfl) ⟨_, _, _, rfl, rfl, rfl, rfl⟩ rfl rfl ?_
         refine wa_no (i := 26) (d := 41) 11 rfl (by kernel_rfl) (by kernel_rfl) (by kernel_rfl) ⟨_, _, _, rfl, rfl, rfl, rfl⟩ rfl rfl ?_
         refine wa_no (i := 27) (d := 42) 10 rfl (by kernel_rfl) (by kernel_rfl) (by kernel_rfl) ⟨_, _, _, rfl, rfl, rfl, rfl⟩ rfl rfl ?_
         refine wa_no (i := 28) (d := 43) 9 rfl (by kernel_rfl) (by kernel_rfl) (by kernel_rfl) ⟨_, _, _, rfl, rfl, rfl, rfl⟩ rfl rfl ?_
         refine wa_no (i := 29) (d := 44) 8 rfl (by kernel_rfl) (by kernel_rfl) (by kernel_rfl) ⟨_, _, _, rfl, rfl, rfl, rfl⟩ rfl rfl ?_
         refine wa_no (i := 30) (d := 45) 7 rfl (by kernel_rfl) (by kernel_rfl) (by kernel_rfl) ⟨_, _, _, rfl, rfl, rfl, rfl⟩ rfl rfl ?_
         refine wa_no (i := 31) (d := 46) 6 rfl (by kernel_rfl) (by kernel_rfl) (by kernel_rfl) ⟨_, _, _, rfl, rfl, rfl, rfl⟩ rfl rfl ?_
         refine wa_no (i := 32) (d := 47) 5 rfl (by kernel_rfl) (by kernel_rfl) (by kernel_rfl) ⟨_, _, _, rfl, rfl, rfl, rfl⟩ rfl rfl ?_
         refine wa_no (i := 33) (d := 48) 4 rfl (by kernel_rfl) (by kernel_rfl) (by kernel_rfl) ⟨_, _, _, rfl, rfl, rfl, rfl⟩ rfl rfl ?_
         refine wa_no (i := 34) (d := 49) 3 rfl (by kernel_rfl) (by kernel_rfl) (by kernel_rfl) ⟨_, _, _, rfl, rfl, rfl, rfl⟩ rfl rfl ?_
         refine wa_no (i := 35) (d := 50) 2 rfl (by kernel_rfl) (by kernel_rfl) (by kernel_rfl) ⟨_, _, _, rfl, rfl, rfl, rfl⟩ rfl rfl ?_
         refine wa_no (i := 36) (d := 51) 1 rfl (by kernel_rfl) (by kernel_rfl) (by kernel_rfl) ⟨_, _, _, rfl, rfl, rfl, rfl⟩ rfl rfl ?_
         refine wa_takeP (i := 37) (d := 52) 0 rfl (by kernel_rfl) (by kernel_rfl) (by kernel_rfl) rfl rfl rfl (fun w56 => run_pickT rfl rfl rfl) ?_
         refine wa_end (by kernel_rfl) (fun w57 S57 => ?_)
         refine nm_sub [(0, _), (8, _), (9, _), (10, _), (52, _)] ⟨rfl, rfl, rfl, rfl, rfl, trivial⟩ ?_
         refine nm_thn ?_
         refine ws_condTN May_n30 rfl rfl rfl ?_
         refine ws_seqN May_n32 May_n33 rfl rfl rfl ?_
         refine ws_region rfl ?_
         refine wla 0 1 rfl rfl rfl rfl rfl rfl rfl ?_
         refine wl_end rfl ?_
         refine nm_sub [(2, _)] ⟨rfl, trivial⟩ ?_
         refine nm_thn ?_
         refine ws_ret hC [_] rfl rfl ⟨rfl, trivial⟩ ?_
         exact ⟨_, rfl, (S57.pick [] [] (by decide) trivial), (congrArg Value.bool (Eq.symm (decide_eq_false (fun h => by first | (have := h.1; omega) | (have h9 := h.2 i (by omega); unfold okT at h9; omega)))))⟩
        ·replace hg38 := of_decide_eq_false hg38
         refine wa_takeP (i := 24) (d := 39) 13 rfl (by kernel_rfl) (by kernel_rfl) (by kernel_rfl) ⟨_, _, _, rfl, rfl, rfl, rfl⟩ rfl rfl (fun w58 => run_move rfl rfl) ?_
         refine wa_takeP (i := 25) (d := 40) 12 rfl (by kernel_rfl) (by kernel_rfl) (by kernel_rfl) ⟨_, _, _, rfl, rfl, rfl, rfl⟩ rfl rfl (fun w59 => run_gtr rfl rfl rfl) ?_
         refine wa_takeP (i := 26) (d := 41) 11 rfl (by kernel_rfl) (by kernel_rfl) (by kernel_rfl) ⟨_, _, _, rfl, rfl, rfl, rfl⟩ rfl rfl (fun w60 => run_move rfl rfl) ?_
         refine wa_split (t := 41) rfl (fun hg41 => ?_) (fun hg41 => ?_)
         ·replace hg41 := of_decide_eq_true hg41
          refine wa_takeP (i := 27) (d := 42) 10 rfl (by kernel_rfl) (by kernel_rfl) (by kernel_rfl) ⟨_, _, _, rfl, rfl, rfl, rfl⟩ rfl rfl (fun w61 => run_fieldAddr rfl rfl Tryd.underlying38 rfl (ce3) (nf3)) ?_
          refine wa_take (i := 28) (d := 43) 9 rfl (by kernel_rfl) (by kernel_rfl) (by kernel_rfl) ⟨_, _, _, rfl, rfl, rfl, rfl⟩ rfl rfl (fun M54 N54 w62 hle55 S62 => .inl (run_load1 rfl rfl Tryd.underlying3 rfl (S62.suf.boxc (i := 0) rfl rfl))) ?_
          refine wa_takeP (i := 29) (d := 44) 8 rfl (by kernel_rfl) (by kernel_rfl) (by kernel_rfl) ⟨_, _, _, rfl, rfl, rfl, rfl⟩ rfl rfl (fun w63 => run_move rfl rfl) ?_
          refine wa_takeP (i := 30) (d := 45) 7 rfl (by kernel_rfl) (by kernel_rfl) (by kernel_rfl) ⟨_, _, _, rfl, rfl, rfl, rfl⟩ rfl rfl (fun w64 => run_move rfl rfl) ?_
          refine wa_takeP (i := 31) (d := 46) 6 rfl (by kernel_rfl) (by kernel_rfl) (by kernel_rfl) ⟨_, _, _, rfl, rfl, rfl, rfl⟩ rfl rfl (fun w65 => run_sub rfl rfl rfl (by first | omega | (simp only [lens]; omega))) ?_
          refine wa_take (i := 32) (d := 47) 5 rfl (by kernel_rfl) (by kernel_rfl) (by kernel_rfl) ⟨_, _, _, rfl, rfl, rfl, rfl⟩ rfl rfl (fun M58 N58 w66 hle59 S66 => .inl (run_indexM (C := cdTm) (((i : Int) - 1).toNat) rfl rfl rfl sl22 (by first | rfl | omega) (ha.mono (Hp.un_mono hle59 S66.mx)) (by first | omega | (simp only [lens]; omega)))) ?_
          refine wa_takeP (i := 33) (d := 48) 4 rfl (by kernel_rfl) (by kernel_rfl) (by kernel_rfl) ⟨_, _, _, rfl, rfl, rfl, rfl⟩ rfl rfl (fun w67 => run_fieldAddr rfl rfl Tryd.underlying38 rfl (ce3) (nf3)) ?_
          refine wa_take (i := 34) (d := 49) 3 rfl (by kernel_rfl) (by kernel_rfl) (by kernel_rfl) ⟨_, _, _, rfl, rfl, rfl, rfl⟩ rfl rfl (fun M60 N60 w68 hle61 S68 => .inl (run_load1 rfl rfl Tryd.underlying3 rfl ((ha.mono (Hp.un_mono hle61 S68.mx)).cell S68.um (i := ((i : Int) - 1).toNat) (by first | omega | (simp only [lens]; omega)) 0 rfl rfl))) ?_
          refine wa_takeP (i := 35) (d := 50) 2 rfl (by kernel_rfl) (by kernel_rfl) (by kernel_rfl) ⟨_, _, _, rfl, rfl, rfl, rfl⟩ rfl rfl (fun w69 => run_leq rfl rfl rfl) ?_
          refine wa_takeP (i := 36) (d := 51) 1 rfl (by kernel_rfl) (by kernel_rfl) (by kernel_rfl) ⟨_, _, _, rfl, rfl, rfl, rfl⟩ rfl rfl (fun w70 => run_pickT rfl rfl rfl) ?_
          refine wa_takeP (i := 37) (d := 52) 0 rfl (by kernel_rfl) (by kernel_rfl) (by kernel_rfl) rfl rfl rfl (fun w71 => run_pickF rfl rfl rfl) ?_
          refine wa_end (by kernel_rfl) (fun w72 S72 => ?_)
          refine nm_sub [(0, _), (8, _), (9, _), (10, _), (52, _)] ⟨rfl, rfl, rfl, rfl, rfl, trivial⟩ ?_
          refine nm_thn ?_
          refine ws_condN May_n30 May_n31 rfl rfl rfl rfl (fun hb52 => ?_) (fun hb52 => ?_)
          ·replace hb52 := of_decide_eq_true hb52
           refine ws_seqN May_n32 May_n33 rfl rfl rfl ?_
           refine ws_region rfl ?_
           refine wla 0 1 rfl rfl rfl rfl rfl rfl rfl ?_
           refine wl_end rfl ?_
           refine nm_sub [(2, _)] ⟨rfl, trivial⟩ ?_
           refine nm_thn ?_
           refine ws_ret hC [_] rfl rfl ⟨rfl, trivial⟩ ?_
           exact ⟨_, rfl, (S72.pick [] [] (by decide) trivial), (congrArg Value.bool (Eq.symm (decide_eq_false (fun h => by first | (have := h.1; omega) | (have h9 := h.2 i (by omega); unfold okT at h9; omega)))))⟩
          ·replace hb52 := of_decide_eq_false hb52
           refine ws_skip rfl ?_
           refine nm_blk ?_
           refine nm_sub [(0, _), (8, _), (9, _), (10, _)] ⟨rfl, rfl, rfl, rfl, trivial⟩ ?_
           refine nm_thn ?_
           refine ws_region rfl ?_
           refine wlo 0 1 rfl rfl rfl (wo_run rfl rfl (run_add rfl rfl rfl (by first | omega | (simp only [lens]; omega))) ?_)
           refine wlm 1 2 rfl rfl rfl rfl rfl rfl rfl ?_
           refine wl_end rfl ?_
           refine nm_lp ?_
           intro ax_ hax_
           refine ⟨_, ?hq2m, ⟨i + 1, rfl, hax_.sub ⟨rfl, rfl, rfl, rfl, trivial⟩, S72.pick [] [] (by decide) trivial, ?hq2f0, ?hq2f1⟩⟩
           case hq2f0 => omega
           case hq2f1 => (intro j hj; by_cases h : j = i; (subst h; unfold okT; first | omega | (simp_all; omega)); exact hok j (by omega))
           case hq2m => omega
         ·replace hg41 := of_decide_eq_false hg41
          refine wa_no (i := 27) (d := 42) 10 rfl (by kernel_rfl) (by kernel_rfl) (by kernel_rfl) ⟨_, _, _, rfl, rfl, rfl, rfl⟩ rfl rfl ?_
          refine wa_no (i := 28) (d := 43) 9 rfl (by kernel_rfl) (by kernel_rfl) (by kernel_rfl) ⟨_, _, _, rfl, rfl, rfl, rfl⟩ rfl rfl ?_
          refine wa_no (i := 29) (d := 44) 8 rfl (by kernel_rfl) (by kernel_rfl) (by kernel_rfl) ⟨_, _, _, rfl, rfl, rfl, rfl⟩ rfl rfl ?_
          refine wa_no (i := 30) (d := 45) 7 rfl (by kernel_rfl) (by kernel_rfl) (by kernel_rfl) ⟨_, _, _, rfl, rfl, rfl, rfl⟩ rfl rfl ?_
          refine wa_no (i := 31) (d := 46) 6 rfl (by kernel_rfl) (by kernel_rfl) (by kernel_rfl) ⟨_, _, _, rfl, rfl, rfl, rfl⟩ rfl rfl ?_
          refine wa_no (i := 32) (d := 47) 5 rfl (by kernel_rfl) (by kernel_rfl) (by kernel_rfl) ⟨_, _, _, rfl, rfl, rfl, rfl⟩ rfl rfl ?_
          refine wa_no (i := 33) (d := 48) 4 rfl (by kernel_rfl) (by kernel_rfl) (by kernel_rfl) ⟨_, _, _, rfl, rfl, rfl, rfl⟩ rfl rfl ?_
          refine wa_no (i := 34) (d := 49) 3 rfl (by kernel_rfl) (by kernel_rfl) (by kernel_rfl) ⟨_, _, _, rfl, rfl, rfl, rfl⟩ rfl rfl ?_
          refine wa_no (i := 35) (d := 50) 2 rfl (by kernel_rfl) (by kernel_rfl) (by kernel_rfl) ⟨_, _, _, rfl, rfl, rfl, rfl⟩ rfl rfl ?_
          refine wa_takeP (i := 36) (d := 51) 1 rfl (by kernel_rfl) (by kernel_rfl) (by kernel_rfl) ⟨_, _, _, rfl, rfl, rfl, rfl⟩ rfl rfl (fun w73 => run_pickF rfl rfl rfl) ?_
          refine wa_takeP (i := 37) (d := 52) 0 rfl (by kernel_rfl) (by kernel_rfl) (by kernel_rfl) rfl rfl rfl (fun w74 => run_pickF rfl rfl rfl) ?_
          refine wa_end (by kernel_rfl) (fun w75 S75 => ?_)
          refine nm_sub [(0, _), (8, _), (9, _), (10, _), (52, _)] ⟨rfl, rfl, rfl, rfl, rfl, trivial⟩ ?_
          refine nm_thn ?_
          refine ws_condFN May_n31 rfl rfl rfl ?_
          refine ws_skip rfl ?_
          refine nm_blk ?_
          refine nm_sub [(0, _), (8, _), (9, _), (10, _)] ⟨rfl, rfl, rfl, rfl, trivial⟩ ?_
          refine nm_thn ?_
          refine ws_region rfl ?_
          refine wlo 0 1 rfl rfl rfl (wo_run rfl rfl (run_add rfl rfl rfl (by first | omega | (simp only [lens]; omega))) ?_)
          refine wlm 1 2 rfl rfl rfl rfl rfl rfl rfl ?_
          refine wl_end rfl ?_
          refine nm_lp ?_
          intro ax_ hax_
          refine ⟨_, ?hq3m, ⟨i + 1, rfl, hax_.sub ⟨rfl, rfl, rfl, rfl, trivial⟩, S75.pick [] [] (by decide) trivial, ?hq3f0, ?hq3f1⟩⟩
          case hq3f0 => omega
          case hq3f1 => (intro j hj; by_cases h : j = i; (subst h; unfold okT; first | omega | (simp_all; omega)); exact hok j (by omega))
          case hq3m => omega
   ·replace hb11 := of_decide_eq_false hb11
    refine ws_exit rfl rfl ?_
    refine nm_sub [] trivial ?_
    refine nm_thn ?_
    refine ws_seqN May_n34 May_n35 rfl rfl rfl ?_
    refine ws_region rfl ?_
    refine wla 0 1 rfl rfl rfl rfl rfl rfl rfl ?_
    refine wl_end rfl ?_
    refine nm_thn ?_
    refine ws_ret hC [_] rfl rfl ⟨rfl, trivial⟩ ?_
    exact ⟨_, rfl, (S1.pick [] [] (by decide) trivial), (congrArg Value.bool (Eq.symm (decide_eq_true ⟨by omega, fun j hj => hok j (by omega)⟩)))⟩
noncomputable def PolyMay_n0 : Code := Tryd.f17.body.getD .skip
noncomputable def PolyMay_n1 : Code := cL PolyMay_n0
noncomputable def PolyMay_n2 : Code := cR PolyMay_n0
noncomputable def PolyMay_n3 : Code := cL PolyMay_n2
noncomputable def PolyMay_n4 : Code := cR PolyMay_n2
noncomputable def PolyMay_n5 : Code := cL PolyMay_n3
noncomputable def PolyMay_n6 : Code := cR PolyMay_n3
noncomputable def PolyMay_n7 : Code := cL PolyMay_n6
noncomputable def PolyMay_n8 : Code := cR PolyMay_n6
noncomputable def PolyMay_n9 : Code := cL PolyMay_n7
noncomputable def PolyMay_n10 : Code := cR PolyMay_n7
noncomputable def PolyMay_n11 : Code := cL PolyMay_n4
noncomputable def PolyMay_n12 : Code := cR PolyMay_n4
noncomputable def PolyMay_n13 : Code := cL PolyMay_n11
noncomputable def PolyMay_n14 : Code := cR PolyMay_n11
noncomputable def PolyMay_n15 : Code := cL PolyMay_n14
noncomputable def PolyMay_n16 : Code := cL PolyMay_n15
noncomputable def PolyMay_n17 : Code := cL PolyMay_n16
noncomputable def PolyMay_n18 : Code := cR PolyMay_n16
noncomputable def PolyMay_n19 : Code := cL PolyMay_n17
noncomputable def PolyMay_n20 : Code := cR PolyMay_n17
noncomputable def PolyMay_n21 : Code := cL PolyMay_n20
noncomputable def PolyMay_n22 : Code := cR PolyMay_n20
noncomputable def PolyMay_n23 : Code := cL PolyMay_n18
noncomputable def PolyMay_n24 : Code := cR PolyMay_n18
noncomputable def PolyMay_n25 : Code := cL PolyMay_n23
noncomputable def PolyMay_n26 : Code := cL PolyMay_n25
noncomputable def PolyMay_n27 : Code := cR PolyMay_n25
noncomputable def PolyMay_n28 : Code := cL PolyMay_n27
noncomputable def PolyMay_n29 : Code := cR PolyMay_n27
noncomputable def PolyMay_n30 : Code := cL PolyMay_n29
noncomputable def PolyMay_n31 : Code := cR PolyMay_n29
noncomputable def PolyMay_n32 : Code := cL PolyMay_n30
noncomputable def PolyMay_n33 : Code := cR PolyMay_n30
noncomputable def PolyMay_n34 : Code := cL PolyMay_n12
noncomputable def PolyMay_n35 : Code := cR PolyMay_n12
set_option maxHeartbeats 1000000 in
set_option maxRecDepth 10000 in
theorem PolyMay_q {w : World} {M : Hp} {X : Fr} (a : List Tm) {aA : Option Addr} {ac : Nat} (ha : RdA cdTm (M.un X.h) aA ac a) (S : SH w M X []) : Cq Tryd.prog 17 [.slice aA a.length ac] w M X (fun u => u = .bool (mayT a)) := by
 unfold Cq
 have rmha : a.length * 16 ≤ 140737488355328 := ha.room
 refine calls_in (b := PolyMay_n0) Tryd.func17 rfl Tryd.ntmps17 rfl (fun C hC => ?_)
 refine ws_sub [(0, _)] ⟨rfl, trivial⟩ ?_
 refine ws_seqN PolyMay_n1 PolyMay_n2 rfl rfl rfl ?_
 refine ws_region rfl ?_
 refine wla 0 1 rfl rfl rfl rfl rfl rfl rfl ?_
 refine wl_end rfl ?_
 refine nm_sub [(0, _)] ⟨rfl, trivial⟩ ?_
 refine nm_thn ?_
 refine ws_seqN PolyMay_n3 PolyMay_n4 rfl rfl rfl ?_
 refine ws_seqN PolyMay_n5 PolyMay_n6 rfl rfl rfl ?_
 refine ws_region rfl ?_
 refine wlm 0 1 rfl rfl rfl rfl rfl rfl rfl ?_
 refine wlo 1 2 rfl rfl rfl (wo_run rfl rfl (run_len rfl rfl rfl rfl rfl rfl Tryd.underlying22) ?_)
 refine wlo 2 3 rfl rfl rfl (wo_run rfl rfl (run_gtr rfl rfl rfl) ?_)
 refine wl_end rfl ?_
 refine nm_sub [(0, _), (7, _)] ⟨rfl, rfl, trivial⟩ ?_
 refine nm_thn ?_
 refine ws_condN PolyMay_n7 PolyMay_n8 rfl rfl rfl rfl (fun hb7 => ?_) (fun hb7 => ?_)
 ·replace hb7 := of_decide_eq_true hb7
  refine ws_seqN PolyMay_n9 PolyMay_n10 rfl rfl rfl ?_
  refine ws_region rfl ?_
  refine wla 0 1 rfl rfl rfl rfl rfl rfl rfl ?_
  refine wl_end rfl ?_
  refine nm_sub [(2, _)] ⟨rfl, trivial⟩ ?_
  refine nm_thn ?_
  refine ws_ret hC [_] rfl rfl ⟨rfl, trivial⟩ ?_
  exact ⟨_, rfl, (S.pick [] [] (by decide) trivial), (congrArg Value.bool (Eq.symm (decide_eq_false (fun h => by first | (have := h.1; omega) | (have h9 := h.2 i (by omega); unfold okT at h9; omega)))))⟩
 ·replace hb7 := of_decide_eq_false hb7
  refine ws_skip rfl ?_
  refine nm_sub [(0, _)] ⟨rfl, trivial⟩ ?_
  refine nm_thn ?_
  refine ws_seqN PolyMay_n11 PolyMay_n12 rfl rfl rfl ?_
  refine ws_seqN PolyMay_n13 PolyMay_n14 rfl rfl rfl ?_
  refine ws_region rfl ?_
  refine wla 0 1 rfl rfl rfl rfl rfl rfl rfl ?_
  refine wl_end rfl ?_
  refine nm_thn ?_
  refine ws_blockN PolyMay_n15 0 rfl rfl rfl ?_
  refine ws_loopE (fun mx_ ax_ wx_ => ∃ (i : Nat), mx_ = a.length - i ∧ Env 56 [(0, .slice aA a.length ac), (3, .int .i64 (i : Int))] ax_ ∧ SH wx_ M X [] ∧ i ≤ a.length ∧ (∀ j, j < i → okT a j)) rfl ?_ ?_
  ·intro ax_ hax_
   refine ⟨_, ⟨0, rfl, hax_.sub ⟨rfl, rfl, trivial⟩, S.pick [] [] (by decide) trivial, ?hq1f0, ?hq1f1⟩⟩
   case hq1f0 => omega
   case hq1f1 => (intro j hj; omega)
  ·rintro m1 a1 w1 ⟨i, rfl, he1, S1, hi, hok⟩
   clear S
   refine ws_in he1 (c := PolyMay_n16) rfl ?_
   clear he1 a1
   refine ws_seqN PolyMay_n17 PolyMay_n18 rfl rfl rfl ?_
   refine ws_seqN PolyMay_n19 PolyMay_n20 rfl rfl rfl ?_
   refine ws_region rfl ?_
   refine wlm 0 1 rfl rfl rfl rfl rfl rfl rfl ?_
   refine wlm 1 2 rfl rfl rfl rfl rfl rfl rfl ?_
   refine wlo 2 3 rfl rfl rfl (wo_run rfl rfl (run_len rfl rfl rfl rfl rfl rfl Tryd.underlying22) ?_)
   refine wlo 3 4 rfl rfl rfl (wo_run rfl rfl (run_lss rfl rfl rfl) ?_)
   refine wl_end rfl ?_
   refine nm_sub [(0, _), (3, _), (11, _)] ⟨rfl, rfl, rfl, trivial⟩ ?_
   refine nm_thn ?_
   refine ws_condN PolyMay_n21 PolyMay_n22 rfl rfl rfl rfl (fun hb11 => ?_) (fun hb11 => ?_)
   ·replace hb11 := of_decide_eq_true hb11
    refine ws_skip rfl ?_
    refine nm_sub [(0, _), (3, _)] ⟨rfl, rfl, trivial⟩ ?_
    refine nm_thn ?_
    refine ws_seqN PolyMay_n23 PolyMay_n24 rfl rfl rfl ?_
    refine ws_blockN PolyMay_n25 1 rfl rfl rfl ?_
    refine ws_seqN PolyMay_n26 PolyMay_n27 rfl rfl rfl ?_
    refine ws_region rfl ?_
    refine wlm 0 1 rfl rfl rfl rfl rfl rfl rfl ?_
    refine wlm 1 2 rfl rfl rfl rfl rfl rfl rfl ?_
    refine wlo 2 3 rfl rfl rfl (wo_run rfl rfl (run_indexM (C := cdTm) i rfl rfl rfl sl22 (by first | rfl | omega) ha (by first | omega | (simp only [lens]; omega))) ?_)
    refine wlo 3 4 rfl rfl rfl (wo_run rfl rfl (run_loadN (us := [_, _]) rfl rfl Tryd.underlying38 rfl sz38 (ha.cellsAt S1.um (e := i) (by first | omega | (simp only [lens]; omega)) (j := 0) ⟨rfl, rfl, trivial⟩)) ?_)
    refine wlo 4 5 rfl rfl rfl (wo_alloc (l := [_, _]) rfl rfl rfl zr38 rfl S1 ?_)
    intro gb1 w2 S2; clear S1
    refine wlo 5 6 rfl rfl rfl (wo_storeB (i := 0) (us := [_, _]) (l' := [_, _]) (H' := [_]) rfl rfl S2 rfl rfl rfl rfl sz38 rfl rfl rfl rfl ?_)
    intro w3 S3; clear S2
    refine wl_end rfl ?_
    refine nm_sub [(0, _), (3, _), (4, _)] ⟨rfl, rfl, rfl, trivial⟩ ?_
    refine nm_thn ?_
    refine ws_seqN PolyMay_n28 PolyMay_n29 rfl rfl rfl ?_
    refine ws_draw rfl (by kernel_rfl) S3 38 rfl ?_
    clear S3
    refine wa_takeP (i := 0) (d := 18) 37 rfl (by kernel_rfl) (by kernel_rfl) (by kernel_rfl) rfl rfl rfl (fun w4 => run_fieldAddr rfl rfl Tryd.underlying38 rfl (ce3) (nf3)) ?_
    refine wa_take (i := 1) (d := 19) 36 rfl (by kernel_rfl) (by kernel_rfl) (by kernel_rfl) rfl rfl rfl (fun M2 N2 w5 hle3 S5 => .inl (run_load1 rfl rfl Tryd.underlying3 rfl (S5.suf.boxc (i := 0) rfl rfl))) ?_
    refine wa_takeP (i := 2) (d := 20) 35 rfl (by kernel_rfl) (by kernel_rfl) (by kernel_rfl) rfl rfl rfl (fun w6 => run_lss rfl rfl rfl) ?_
    refine wa_takeP (i := 3) (d := 21) 34 rfl (by kernel_rfl) (by kernel_rfl) (by kernel_rfl) rfl rfl rfl (fun w7 => run_move rfl rfl) ?_
    refine wa_split (t := 21) rfl (fun hg21 => ?_) (fun hg21 => ?_)
    ·replace hg21 := of_decide_eq_true hg21
     refine wa_no (i := 4) (d := 22) 33 rfl (by kernel_rfl) (by kernel_rfl) (by kernel_rfl) ⟨_, _, _, rfl, rfl, rfl, rfl⟩ rfl rfl ?_
     refine wa_no (i := 5) (d := 23) 32 rfl (by kernel_rfl) (by kernel_rfl) (by kernel_rfl) ⟨_, _, _, rfl, rfl, rfl, rfl⟩ rfl rfl ?_
     refine wa_no (i := 6) (d := 24) 31 rfl (by kernel_rfl) (by kernel_rfl) (by kernel_rfl) ⟨_, _, _, rfl, rfl, rfl, rfl⟩ rfl rfl ?_
     refine wa_takeP (i := 7) (d := 25) 30 rfl (by kernel_rfl) (by kernel_rfl) (by kernel_rfl) rfl rfl rfl (fun w8 => run_pickT rfl rfl rfl) ?_
     refine wa_takeP (i := 8) (d := 26) 29 rfl (by kernel_rfl) (by kernel_rfl) (by kernel_rfl) rfl rfl rfl (fun w9 => run_move rfl rfl) ?_
     refine wa_no (i := 9) (d := 27) 28 rfl (by kernel_rfl) (by kernel_rfl) (by kernel_rfl) ⟨_, _, _, rfl, rfl, rfl, rfl⟩ rfl rfl ?_
     refine wa_no (i := 10) (d := 28) 27 rfl (by kernel_rfl) (by kernel_rfl) (by kernel_rfl) ⟨_, _, _, rfl, rfl, rfl, rfl⟩ rfl rfl ?_
     refine wa_no (i := 11) (d := 29) 26 rfl (by kernel_rfl) (by kernel_rfl) (by kernel_rfl) ⟨_, _, _, rfl, rfl, rfl, rfl⟩ rfl rfl ?_
     refine wa_takeP (i := 12) (d := 30) 25 rfl (by kernel_rfl) (by kernel_rfl) (by kernel_rfl) rfl rfl rfl (fun w10 => run_pickT rfl rfl rfl) ?_
     refine wa_takeP (i := 13) (d := 31) 24 rfl (by kernel_rfl) (by kernel_rfl) (by kernel_rfl) rfl rfl rfl (fun w11 => run_move rfl rfl) ?_
     refine wa_no (i := 14) (d := 32) 23 rfl (by kernel_rfl) (by kernel_rfl) (by kernel_rfl) ⟨_, _, _, rfl, rfl, rfl, rfl⟩ rfl rfl ?_
     refine wa_no (i := 15) (d := 33) 22 rfl (by kernel_rfl) (by kernel_rfl) (by kernel_rfl) ⟨_, _, _, rfl, rfl, rfl, rfl⟩ rfl rfl ?_
     refine wa_no (i := 16) (d := 34) 21 rfl (by kernel_rfl) (by kernel_rfl) (by kernel_rfl) ⟨_, _, _, rfl, rfl, rfl, rfl⟩ rfl rfl ?_
     refine wa_takeP (i := 17) (d := 35) 20 rfl (by kernel_rfl) (by kernel_rfl) (by kernel_rfl) rfl rfl rfl (fun w12 => run_pickT rfl rfl rfl) ?_
     refine wa_takeP (i := 18) (d := 36) 19 rfl (by kernel_rfl) (by kernel_rfl) (by kernel_rfl) rfl rfl rfl (fun w13 => run_move rfl rfl) ?_
     refine wa_no (i := 19) (d := 37) 18 rfl (by kernel_rfl) (by kernel_rfl) (by kernel_rfl) ⟨_, _, _, rfl, rfl, rfl, rfl⟩ rfl rfl ?_
     refine wa_no (i := 20) (d := 38) 17 rfl (by kernel_rfl) (by kernel_rfl) (by kernel_rfl) ⟨_, _, _, rfl, rfl, rfl, rfl⟩ rfl rfl ?_
     refine wa_no (i := 21) (d := 39) 16 rfl (by kernel_rfl) (by kernel_rfl) (by kernel_rfl) ⟨_, _, _, rfl, rfl, rfl, rfl⟩ rfl rfl ?_
     refine wa_takeP (i := 22) (d := 40) 15 rfl (by kernel_rfl) (by kernel_rfl) (by kernel_rfl) rfl rfl rfl (fun w14 => run_pickT rfl rfl rfl) ?_
     refine wa_takeP (i := 23) (d := 41) 14 rfl (by kernel_rfl) (by kernel_rfl) (by kernel_rfl) rfl rfl rfl (fun w15 => run_move rfl rfl) ?_
     refine wa_no (i := 24) (d := 42) 13 rfl (by kernel_rfl) (by kernel_rfl) (by kernel_rfl) ⟨_, _, _, rfl, rfl, rfl, rfl⟩ rfl rfl ?_
     refine wa_no (i := 25) (d := 43) 12 rfl (by kernel_rfl) (by kernel_rfl) (by kernel_rfl) ⟨_, _, _, rfl, rfl, rfl, rfl⟩ rfl rfl ?_
     refine wa_no (i := 26) (d := 44) 11 rfl (by kernel_rfl) (by kernel_rfl) (by kernel_rfl) ⟨_, _, _, rfl, rfl, rfl, rfl⟩ rfl rfl ?_
     refine wa_no (i := 27) (d := 45) 10 rfl (by kernel_rfl) (by kernel_rfl) (by kernel_rfl) ⟨_, _, _, rfl, rfl, rfl, rfl⟩ rfl rfl ?_
     refine wa_no (i := 28) (d := 46) 9 rfl (by kernel_rfl) (by kernel_rfl) (by kernel_rfl) ⟨_, _, _, rfl, rfl, rfl, rfl⟩ rfl rfl ?_
     refine wa_no (i := 29) (d := 47) 8 rfl (by kernel_rfl) (by kernel_rfl) (by kernel_rfl) ⟨_, _, _, rfl, rfl, rfl, rfl⟩ rfl rfl ?_
     refine wa_no (i := 30) (d := 48) 7 rfl (by kernel_rfl) (by kernel_rfl) (by kernel_rfl) ⟨_, _, _, rfl, rfl, rfl, rfl⟩ rfl rfl ?_
     refine wa_no (i := 31) (d := 49) 6 rfl (by kernel_rfl) (by kernel_rfl) (by kernel_rfl) ⟨_, _, _, rfl, rfl, rfl, rfl⟩ rfl rfl ?_
     refine wa_no (i := 32) (d := 50) 5 rfl (by kernel_rfl) (by kernel_rfl) (by kernel_rfl) ⟨_, _, _, rfl, rfl, rfl, rfl⟩ rfl rfl ?_
     refine wa_no (i := 33) (d := 51) 4 rfl (by kernel_rfl) (by kernel_rfl) (by kernel_rfl) ⟨_, _, _, rfl, rfl, rfl, rfl⟩ rfl rfl ?_
     refine wa_no (i := 34) (d := 52) 3 rfl (by kernel_rfl) (by kernel_rfl) (by kernel_rfl) ⟨_, _, _, rfl, rfl, rfl, rfl⟩ rfl rfl ?_
     refine wa_no (i := 35) (d := 53) 2 rfl (by kernel_rfl) (by kernel_rfl) (by kernel_rfl) ⟨_, _, _, rfl, rfl, rfl, rfl⟩ rfl rfl ?_
     refine wa_no (i := 36) (d := 54) 1 rfl (by kernel_rfl) (by kernel_rfl) (by kernel_rfl) ⟨_, _, _, rfl, rfl, rfl, rfl⟩ rfl rfl ?_
     refine wa_takeP (i := 37) (d := 55) 0 rfl (by kernel_rfl) (by kernel_rfl) (by kernel_rfl) rfl rfl rfl (fun w16 => run_pickT rfl rfl rfl) ?_
     refine wa_end (by kernel_rfl) (fun w17 S17 => ?_)
     refine nm_sub [(0, _), (3, _), (55, _)] ⟨rfl, rfl, rfl, trivial⟩ ?_
     refine nm_thn ?_
     refine ws_condTN PolyMay_n30 rfl rfl rfl ?_
     refine ws_seqN PolyMay_n32 PolyMay_n33 rfl rfl rfl ?_
     refine ws_region rfl ?_
     refine wla 0 1 rfl rfl rfl rfl rfl rfl rfl ?_
     refine wl_end rfl ?_
     refine nm_sub [(2, _)] ⟨rfl, trivial⟩ ?_
     refine nm_thn ?_
     refine ws_ret hC [_] rfl rfl ⟨rfl, trivial⟩ ?_
     exact ⟨_, rfl, (S17.pick [] [] (by decide) trivial), (congrArg Value.bool (Eq.symm (decide_eq_false (fun h => by first | (have := h.1; omega) | (have h9 := h.2 i (by omega); unfold okT at h9; omega)))))⟩
    ·replace hg21 := of_decide_eq_false hg21
     refine wa_takeP (i := 4) (d := 22) 33 rfl (by kernel_rfl) (by kernel_rfl) (by kernel_rfl) ⟨_, _, _, rfl, rfl, rfl, rfl⟩ rfl rfl (fun w18 => run_fieldAddr rfl rfl Tryd.underlying38 rfl (ce3) (nf3)) ?_
     refine wa_take (i := 5) (d := 23) 32 rfl (by kernel_rfl) (by kernel_rfl) (by kernel_rfl) ⟨_, _, _, rfl, rfl, rfl, rfl⟩ rfl rfl (fun M15 N15 w19 hle16 S19 => .inl (run_load1 rfl rfl Tryd.underlying3 rfl (S19.suf.boxc (i := 0) rfl rfl))) ?_
     refine wa_takeP (i := 6) (d := 24) 31 rfl (by kernel_rfl) (by kernel_rfl) (by kernel_rfl) ⟨_, _, _, rfl, rfl, rfl, rfl⟩ rfl rfl (fun w20 => run_gtr rfl rfl rfl) ?_
     refine wa_takeP (i := 7) (d := 25) 30 rfl (by kernel_rfl) (by kernel_rfl) (by kernel_rfl) rfl rfl rfl (fun w21 => run_pickF rfl rfl rfl) ?_
     refine wa_takeP (i := 8) (d := 26) 29 rfl (by kernel_rfl) (by kernel_rfl) (by kernel_rfl) rfl rfl rfl (fun w22 => run_move rfl rfl) ?_
     refine wa_split (t := 26) rfl (fun hg26 => ?_) (fun hg26 => ?_)
     ·replace hg26 := of_decide_eq_true hg26
      refine wa_no (i := 9) (d := 27) 28 rfl (by kernel_rfl) (by kernel_rfl) (by kernel_rfl) ⟨_, _, _, rfl, rfl, rfl, rfl⟩ rfl rfl ?_
      refine wa_no (i := 10) (d := 28) 27 rfl (by kernel_rfl) (by kernel_rfl) (by kernel_rfl) ⟨_, _, _, rfl, rfl, rfl, rfl⟩ rfl rfl ?_
      refine wa_no (i := 11) (d := 29) 26 rfl (by kernel_rfl) (by kernel_rfl) (by kernel_rfl) ⟨_, _, _, rfl, rfl, rfl, rfl⟩ rfl rfl ?_
      refine wa_takeP (i := 12) (d := 30) 25 rfl (by kernel_rfl) (by kernel_rfl) (by kernel_rfl) rfl rfl rfl (fun w23 => run_pickT rfl rfl rfl) ?_
      refine wa_takeP (i := 13) (d := 31) 24 rfl (by kernel_rfl) (by kernel_rfl) (by kernel_rfl) rfl rfl rfl (fun w24 => run_move rfl rfl) ?_
      refine wa_no (i := 14) (d := 32) 23 rfl (by kernel_rfl) (by kernel_rfl) (by kernel_rfl) ⟨_, _, _, rfl, rfl, rfl, rfl⟩ rfl rfl ?_
      refine wa_no (i := 15) (d := 33) 22 rfl (by kernel_rfl) (by kernel_rfl) (by kernel_rfl) ⟨_, _, _, rfl, rfl, rfl, rfl⟩ rfl rfl ?_
      refine wa_no (i := 16) (d := 34) 21 rfl (by kernel_rfl) (by kernel_rfl) (by kernel_rfl) ⟨_, _, _, rfl, rfl, rfl, rfl⟩ rfl rfl ?_
      refine wa_takeP (i := 17) (d := 35) 20 rfl (by kernel_rfl) (by kernel_rfl) (by kernel_rfl) rfl rfl rfl (fun w25 => run_pickT rfl rfl rfl) ?_
      refine wa_takeP (i := 18) (d := 36) 19 rfl (by kernel_rfl) (by kernel_rfl) (by kernel_rfl) rfl rfl rfl (fun w26 => run_move rfl rfl) ?_
      refine wa_no (i := 19) (d := 37) 18 rfl (by kernel_rfl) (by kernel_rfl) (by kernel_rfl) ⟨_, _, _, rfl, rfl, rfl, rfl⟩ rfl rfl ?_
      refine wa_no (i := 20) (d := 38) 17 rfl (by kernel_rfl) (by kernel_rfl) (by kernel_rfl) ⟨_, _, _, rfl, rfl, rfl, rfl⟩ rfl rfl ?_
      refine wa_no (i := 21) (d := 39) 16 rfl (by kernel_rfl) (by kernel_rfl) (by kernel_rfl) ⟨_, _, _, rfl, rfl, rfl, rfl⟩ rfl rfl ?_
      refine wa_takeP (i := 22) (d := 40) 15 rfl (by kernel_rfl) (by kernel_rfl) (by kernel_rfl) rfl rfl rfl (fun w27 => run_pickT rfl rfl rfl) ?_
      refine wa_takeP (i := 23) (d := 41) 14 rfl (by kernel_rfl) (by kernel_rfl) (by kernel_rfl) rfl rfl rfl (fun w28 => run_move rfl rfl) ?_
      refine wa_no (i := 24) (d := 42) 13 rfl (by kernel_rfl) (by kernel_rfl) (by kernel_rfl) ⟨_, _, _, rfl, rfl, rfl, rfl⟩ rfl rfl ?_
      refine wa_no (i := 25) (d := 43) 12 rfl (by kernel_rfl) (by kernel_rfl) (by kernel_rfl) ⟨_, _, _, rfl, rfl, rfl, rfl⟩ rfl rfl ?_
      refine wa_no (i := 26) (d := 44) 11 rfl (by kernel_rfl) (by kernel_rfl) (by kernel_rfl) ⟨_, _, _, rfl, rfl, rfl, rfl⟩ rfl rfl ?_
      refine wa_no (i := 27) (d := 45) 10 rfl (by kernel_rfl) (by kernel_rfl) (by kernel_rfl) ⟨_, _, _, rfl, rfl, rfl, rfl⟩ rfl rfl ?_
      refine wa_no (i := 28) (d := 46) 9 rfl (by kernel_rfl) (by kernel_rfl) (by kernel_rfl) ⟨_, _, _, rfl, rfl, rfl, rfl⟩ rfl rfl ?_
      refine wa_no (i := 29) (d := 47) 8 rfl (by kernel_rfl) (by kernel_rfl) (by kernel_rfl) ⟨_, _, _, rfl, rfl, rfl, rfl⟩ rfl rfl ?_
      refine wa_no (i := 30) (d := 48) 7 rfl (by kernel_rfl) (by kernel_rfl) (by kernel_rfl) ⟨_, _, _, rfl, rfl, rfl, rfl⟩ rfl rfl ?_
      refine wa_no (i := 31) (d := 49) 6 rfl (by kernel_rfl) (by kernel_rfl) (by kernel_rfl) ⟨_, _, _, rfl, rfl, rfl, rfl⟩ rfl rfl ?_
      refine wa_no (i := 32) (d := 50) 5 rfl (by kernel_rfl) (by kernel_rfl) (by kernel_rfl) ⟨_, _, _, rfl, rfl, rfl, rfl⟩ rfl rfl ?_
      refine wa_no (i := 33) (d := 51) 4 rfl (by kernel_rfl) (by kernel_rfl) (by kernel_rfl) ⟨_, _, _, rfl, rfl, rfl, rfl⟩ rfl rfl ?_
      refine wa_no (i := 34) (d := 52) 3 rfl (by kernel_rfl) (by kernel_rfl) (by kernel_rfl) ⟨_, _, _, rfl, rfl, rfl, rfl⟩ rfl rfl ?_
      refine wa_no (i := 35) (d := 53) 2 rfl (by kernel_rfl) (by kernel_rfl) (by kernel_rfl) ⟨_, _, _, rfl, rfl, rfl, rfl⟩ rfl rfl ?_
      refine wa_no (i := 36) (d := 54) 1 rfl (by kernel_rfl) (by kernel_rfl) (by kernel_rfl) ⟨_, _, _, rfl, rfl, rfl, rfl⟩ rfl rfl ?_
      refine wa_takeP (i := 37) (d := 55) 0 rfl (by kernel_rfl) (by kernel_rfl) (by kernel_rfl) rfl rfl rfl (fun w29 => run_pickT rfl rfl rfl) ?_
      refine wa_end (by kernel_rfl) (fun w30 S30 => ?_)
      refine nm_sub [(0, _), (3, _), (55, _)] ⟨rfl, rfl, rfl, trivial⟩ ?_
      refine nm_thn ?_
      refine ws_condTN PolyMay_n30 rfl rfl rfl ?_
      refine ws_seqN PolyMay_n32 PolyMay_n33 rfl rfl rfl ?_
      refine ws_region rfl ?_
      refine wla 0 1 rfl rfl rfl rfl rfl rfl rfl ?_
      refine wl_end rfl ?_
      refine nm_sub [(2, _)] ⟨rfl, trivial⟩ ?_
      refine nm_thn ?_
      refine ws_ret hC [_] rfl rfl ⟨rfl, trivial⟩ ?_
      exact ⟨_, rfl, (S30.pick [] [] (by decide) trivial), (congrArg Value.bool (Eq.symm (decide_eq_false (fun h => by first | (have := h.1; omega) | (have h9 := h.2 i (by omega); unfold okT at h9; omega)))))⟩
     ·replace hg26 := of_decide_eq_false hg26
      refine wa_takeP (i := 9) (d := 27) 28 rfl (by kernel_rfl) (by kernel_rfl) (by kernel_rfl) ⟨_, _, _, rfl, rfl, rfl, rfl⟩ rfl rfl (fun w31 => run_fieldAddr rfl rfl Tryd.underlying38 rfl (ce3) (nf3)) ?_
      refine wa_take (i := 10) (d := 28) 27 rfl (by kernel_rfl) (by kernel_rfl) (by kernel_rfl) ⟨_, _, _, rfl, rfl, rfl, rfl⟩ rfl rfl (fun M27 N27 w32 hle28 S32 => .inl (run_load1 rfl rfl Tryd.underlying3 rfl (S32.suf.boxc (i := 0) rfl rfl))) ?_
      refine wa_takeP (i := 11) (d := 29) 26 rfl (by kernel_rfl) (by kernel_rfl) (by kernel_rfl) ⟨_, _, _, rfl, rfl, rfl, rfl⟩ rfl rfl (fun w33 => run_lss rfl rfl rfl) ?_
      refine wa_takeP (i := 12) (d := 30) 25 rfl (by kernel_rfl) (by kernel_rfl) (by kernel_rfl) rfl rfl rfl (fun w34 => run_pickF rfl rfl rfl) ?_
      refine wa_takeP (i := 13) (d := 31) 24 rfl (by kernel_rfl) (by kernel_rfl) (by kernel_rfl) rfl rfl rfl (fun w35 => run_move rfl rfl) ?_
      refine wa_split (t := 31) rfl (fun hg31 => ?_) (fun hg31 => ?_)
      ·replace hg31 := of_decide_eq_true hg31
       refine wa_no (i := 14) (d := 32) 23 rfl (by kernel_rfl) (by kernel_rfl) (by kernel_rfl) ⟨_, _, _, rfl, rfl, rfl, rfl⟩ rfl rfl ?_
       refine wa_no (i := 15) (d := 33) 22 rfl (by kernel_rfl) (by kernel_rfl) (by kernel_rfl) ⟨_, _, _, rfl, rfl, rfl, rfl⟩ rfl rfl ?_
       refine wa_no (i := 16) (d := 34) 21 rfl (by kernel_rfl) (by kernel_rfl) (by kernel_rfl) ⟨_, _, _, rfl, rfl, rfl, rfl⟩ rfl rfl ?_
       refine wa_takeP (i := 17) (d := 35) 20 rfl (by kernel_rfl) (by kernel_rfl) (by kernel_rfl) rfl rfl rfl (fun w36 => run_pickT rfl rfl rfl) ?_
       refine wa_takeP (i := 18) (d := 36) 19 rfl (by kernel_rfl) (by kernel_rfl) (by kernel_rfl) rfl rfl rfl (fun w37 => run_move rfl rfl) ?_
       refine wa_no (i := 19) (d := 37) 18 rfl (by kernel_rfl) (by kernel_rfl) (by kernel_rfl) ⟨_, _, _, rfl, rfl, rfl, rfl⟩ rfl rfl ?_
       refine wa_no (i := 20) (d := 38) 17 rfl (by kernel_rfl) (by kernel_rfl) (by kernel_rfl) ⟨_, _, _, rfl, rfl, rfl, rfl⟩ rfl rfl ?_
       refine wa_no (i := 21) (d := 39) 16 rfl (by kernel_rfl) (by kernel_rfl) (by kernel_rfl) ⟨_, _, _, rfl, rfl, rfl, rfl⟩ rfl rfl ?_
       refine wa_takeP (i := 22) (d := 40) 15 rfl (by kernel_rfl) (by kernel_rfl) (by kernel_rfl) rfl rfl rfl (fun w38 => run_pickT rfl rfl rfl) ?_
       refine wa_takeP (i := 23) (d := 41) 14 rfl (by kernel_rfl) (by kernel_rfl) (by kernel_rfl) rfl rfl rfl (fun w39 => run_move rfl rfl) ?_
       refine wa_no (i := 24) (d := 42) 13 rfl (by kernel_rfl) (by kernel_rfl) (by kernel_rfl) ⟨_, _, _, rfl, rfl, rfl, rfl⟩ rfl rfl ?_
       refine wa_no (i := 25) (d := 43) 12 rfl (by kernel_rfl) (by kernel_rfl) (by kernel_rfl) ⟨_, _, _, rfl, rfl, rfl, rfl⟩ rfl rfl ?_
       refine wa_no (i := 26) (d := 44) 11 rfl (by kernel_rfl) (by kernel_rfl) (by kernel_rfl) ⟨_, _, _, rfl, rfl, rfl, rfl⟩ rfl rfl ?_
       refine wa_no (i := 27) (d := 45) 10 rfl (by kernel_rfl) (by kernel_rfl) (by kernel_rfl) ⟨_, _, _, rfl, rfl, rfl, rfl⟩ rfl rfl ?_
       refine wa_no (i := 28) (d := 46) 9 rfl (by kernel_rfl) (by kernel_rfl) (by kernel_rfl) ⟨_, _, _, rfl, rfl, rfl, rfl⟩ rfl rfl ?_
       refine wa_no (i := 29) (d := 47) 8 rfl (by kernel_rfl) (by kernel_rfl) (by kernel_rfl) ⟨_, _, _, rfl, rfl, rfl, rfl⟩ rfl rfl ?_
       refine wa_no (i := 30) (d := 48) 7 rfl (by kernel_rfl) (by kernel_rfl) (by kernel_rfl) ⟨_, _, _, rfl, rfl, rfl, rfl⟩ rfl rfl ?_
       refine wa_no (i := 31) (d := 49) 6 rfl (by kernel_rfl) (by kernel_rfl) (by kernel_rfl) ⟨_, _, _, rfl, rfl, rfl, rfl⟩ rfl rfl ?_
       refine wa_no (i := 32) (d := 50) 5 rfl (by kernel_rfl) (by kernel_rfl) (by kernel_rfl) ⟨_, _, _, rfl, rfl, rfl, rfl⟩ rfl rfl ?_
       refine wa_no (i := 33) (d := 51) 4 rfl (by kernel_rfl) (by kernel_rfl) (by kernel_rfl) ⟨_, _, _, rfl, rfl, rfl, rfl⟩ rfl rfl ?_
       refine wa_no (i := 34) (d := 52) 3 rfl (by kernel_rfl) (by kernel_rfl) (by kernel_rfl) ⟨_, _, _, rfl, rfl, rfl, rfl⟩ rfl rfl ?_
       refine wa_no (i := 35) (d := 53) 2 rfl (by kernel_rfl) (by kernel_rfl) (by kernel_rfl) ⟨_, _, _, rfl, rfl, rfl, rfl⟩ rfl rfl ?_
       refine wa_no (i := 36) (d := 54) 1 rfl (by kernel_rfl) (by kernel_rfl) (by kernel_rfl) ⟨_, _, _, rfl, rfl, rfl, rfl⟩ rfl rfl ?_
       refine wa_takeP (i := 37) (d := 55) 0 rfl (by kernel_rfl) (by kernel_rfl) (by kernel_rfl) rfl rfl rfl (fun w40 => run_pickT rfl rfl rfl) ?_
       refine wa_end (by kernel_rfl) (fun w41 S41 => ?_)
       refine nm_sub [(0, _), (3, _), (55, _)] ⟨rfl, rfl, rfl, trivial⟩ ?_
       refine nm_thn ?_
       refine ws_condTN PolyMay_n30 rfl rfl rfl ?_
       refine ws_seqN PolyMay_n32 PolyMay_n33 rfl rfl rfl ?_
       refine ws_region rfl ?_
       refine wla 0 1 rfl rfl rfl rfl rfl rfl rfl ?_
       refine wl_end rfl ?_
       refine nm_sub [(2, _)] ⟨rfl, trivial⟩ ?_
       refine nm_thn ?_
       refine ws_ret hC [_] rfl rfl ⟨rfl, trivial⟩ ?_
       exact ⟨_, rfl, (S41.pick [] [] (by decide) trivial), (congrArg Value.bool (Eq.symm (decide_eq_false (fun h => by first | (have := h.1; omega) | (have h9 := h.2 i (by omega); unfold okT at h9; omega)))))⟩
      ·replace hg31 := of_decide_eq_false hg31
       refine wa_takeP (i := 14) (d := 32) 23 rfl (by kernel_rfl) (by kernel_rfl) (by kernel_rfl) ⟨_, _, _, rfl, rfl, rfl, rfl⟩ rfl rfl (fun w42 => run_fieldAddr rfl rfl Tryd.underlying38 rfl (ce3) (nf3)) ?_
       refine wa_take (i := 15) (d := 33) 22 rfl (by kernel_rfl) (by kernel_rfl) (by kernel_rfl) ⟨_, _, _, rfl, rfl, rfl, rfl⟩ rfl rfl (fun M37 N37 w43 hle38 S43 => .inl (run_load1 rfl rfl Tryd.underlying3 rfl (S43.suf.boxc (i := 0) rfl rfl))) ?_
       refine wa_takeP (i := 16) (d := 34) 21 rfl (by kernel_rfl) (by kernel_rfl) (by kernel_rfl) ⟨_, _, _, rfl, rfl, rfl, rfl⟩ rfl rfl (fun w44 => run_gtr rfl rfl rfl) ?_
       refine wa_takeP (i := 17) (d := 35) 20 rfl (by kernel_rfl) (by kernel_rfl) (by kernel_rfl) rfl rfl rfl (fun w45 => run_pickF rfl rfl rfl) ?_
       refine wa_takeP (i := 18) (d := 36) 19 rfl (by kernel_rfl) (by kernel_rfl) (by kernel_rfl) rfl rfl rfl (fun w46 => run_move rfl rfl) ?_
       refine wa_split (t := 36) rfl (fun hg36 => ?_) (fun hg36 => ?_)
       ·replace hg36 := of_decide_eq_true hg36
        refine wa_no (i := 19) (d := 37) 18 rfl (by kernel_rfl) (by kernel_rfl) (by kernel_rfl) ⟨_, _, _, rfl, rfl, rfl, rfl⟩ rfl rfl ?_
        refine wa_no (i := 20) (d := 38) 17 rfl (by kernel_rfl) (by kernel_rfl) (by kernel_rfl) ⟨_, _, _, rfl, rfl, rfl, rfl⟩ rfl rfl ?_
        refine wa_no (i := 21) (d := 39) 16 rfl (by kernel_rfl) (by kernel_rfl) (by kernel_rfl) ⟨_, _, _, rfl, rfl, rfl, rfl⟩ rfl rfl ?_
        refine wa_takeP (i := 22) (d := 40) 15 rfl (by kernel_rfl) (by kernel_rfl) (by kernel_rfl) rfl rfl rfl (fun w47 => run_pickT rfl rfl rfl) ?_
        refine wa_takeP (i := 23) (d := 41) 14 rfl (by kernel_rfl) (by kernel_rfl) (by kernel_rfl) rfl rfl rfl (fun w48 => run_move rfl rfl) ?_
        refine wa_no (i := 24) (d := 42) 13 rfl (by kernel_rfl) (by kernel_rfl) (by kernel_rfl) ⟨_, _, _, rfl, rfl, rfl, rfl⟩ rfl rfl ?_
        refine wa_no (i := 25) (d := 43) 12 rfl (by kernel_rfl) (by kernel_rfl) (by kernel_rfl) ⟨_, _, _, rfl, rfl, rfl, rfl⟩ rfl rfl ?_
        refine wa_no (i := 26) (d := 44) 11 rfl (by kernel_rfl) (by kernel_rfl) (by kernel_rfl) ⟨_, _, _, rfl, rfl, rfl, rfl⟩ rfl rfl ?_
        refine wa_no (i := 27) (d := 45) 10 rfl (by kernel_rfl) (by kernel_rfl) (by kernel_rfl) ⟨_, _, _, rfl, rfl, rfl, rfl⟩ rfl rfl ?_
        refine wa_no (i := 28) (d := 46) 9 rfl (by kernel_rfl) (by kernel_rfl) (by kernel_rfl) ⟨_, _, _, rfl, rfl, rfl, rfl⟩ rfl rfl ?_
        refine wa_no (i := 29) (d := 47) 8 rfl (by kernel_rfl) (by kernel_rfl) (by kernel_rfl) ⟨_, _, _, rfl, rfl, rfl, rfl⟩ rfl rfl ?_
        refine wa_no (i := 30) (d := 48) 7 rfl (by kernel_rfl) (by kernel_rfl) (by kernel_rfl) ⟨_, _, _, rfl, rfl, rfl, rfl⟩ rfl rfl ?_
        refine wa_no (i := 31) (d := 49) 6 rfl (by kernel_rfl) (by kernel_rfl) (by kernel_rfl) ⟨_, _, _, rfl, rfl, rfl, rfl⟩ rfl rfl ?_
        refine wa_no (i := 32) (d := 50) 5 rfl (by kernel_rfl) (by kernel_rfl) (by kernel_rfl) ⟨_, _, _, rfl, rfl, rfl, rfl⟩ rfl rfl ?_
        refine wa_no (i := 33) (d := 51) 4 rfl (by kernel_rfl) (by kernel_rfl) (by kernel_rfl) ⟨_, _, _, rfl, rfl, rfl, rfl⟩ rfl rfl ?_
        refine wa_no (i := 34) (d := 52) 3 rfl (by kernel_rfl) (by kernel_rfl) (by kernel_rfl) ⟨_, _, _, rfl, rfl, rfl, rfl⟩ rfl rfl ?_
        refine wa_no (i := 35) (d := 53) 2 rfl (by kernel_rfl) (by kernel_rfl) (by kernel_rfl) ⟨_, _, _, rfl, rfl, rfl, rfl⟩ rfl rfl ?_
        refine wa_no (i := 36) (d := 54) 1 rfl (by kernel_rfl) (by kernel_rfl) (by kernel_rfl) ⟨_, _, _, rfl, rfl, rfl, rfl⟩ rfl rfl ?_
        refine wa_takeP (i := 37) (d := 55) 0 rfl (by kernel_rfl) (by kernel_rfl) (by kernel_rfl) rfl rfl rfl (fun w49 => run_pickT rfl rfl rfl) ?_
        refine wa_end (by kernel_rfl) (fun w50 S50 => ?_)
        refine nm_sub [(0, _), (3, _), (55, _)] ⟨rfl, rfl, rfl, trivial⟩ ?_
        refine nm_thn ?_
        refine ws_condTN PolyMay_n30 rfl rfl rfl ?_
        refine ws_seqN PolyMay_n32 PolyMay_n33 rfl rfl rfl ?_
        refine ws_region rfl ?_
        refine wla 0 1 rfl rfl rfl rfl rfl rfl rfl ?_
        refine wl_end rfl ?_
        refine nm_sub [(2, _)] ⟨rfl, trivial⟩ ?_
        refine nm_thn ?_
        refine ws_ret hC [_] rfl rfl ⟨rfl, trivial⟩ ?_
        exact ⟨_, rfl, (S50.pick [] [] (by decide) trivial), (congrArg Value.bool (Eq.symm (decide_eq_false (fun h => by first | (have := h.1; omega) | (have h9 := h.2 i (by omega); unfold okT at h9; omega)))))⟩
       ·replace hg36 := of_decide_eq_false hg36
        refine wa_takeP (i := 19) (d := 37) 18 rfl (by kernel_rfl) (by kernel_rfl) (by kernel_rfl) ⟨_, _, _, rfl, rfl, rfl, rfl⟩ rfl rfl (fun w51 => run_fieldAddr rfl rfl Tryd.underlying38 rfl (ce3) (nf3)) ?_
        refine wa_take (i := 20) (d := 38) 17 rfl (by kernel_rfl) (by kernel_rfl) (by kernel_rfl) ⟨_, _, _, rfl, rfl, rfl, rfl⟩ rfl rfl (fun M45 N45 w52 hle46 S52 => .inl (run_load1 rfl rfl Tryd.underlying3 rfl (S52.suf.boxc (i := 0) rfl rfl))) ?_
        refine wa_takeP (i := 21) (d := 39) 16 rfl (by kernel_rfl) (by kernel_rfl) (by kernel_rfl) ⟨_, _, _, rfl, rfl, rfl, rfl⟩ rfl rfl (fun w53 => run_eql rfl rfl rfl) ?_
        refine wa_takeP (i := 22) (d := 40) 15 rfl (by kernel_rfl) (by kernel_rfl) (by kernel_rfl) rfl rfl rfl (fun w54 => run_pickF rfl rfl rfl) ?_
        refine wa_takeP (i := 23) (d := 41) 14 rfl (by kernel_rfl) (by kernel_rfl) (by kernel_rfl) rfl rfl rfl (fun w55 => run_move rfl rfl) ?_
        refine wa_split (t := 41) rfl (fun hg41 => ?_) (fun hg41 => ?_)
        ·replace hg41 := of_decide_eq_true hg41
         refine wa_no (i := 24) (d := 42) 13 rfl (by kernel_rfl) (by kernel_rfl) (by kernel_rfl) ⟨_, _, _, rfl, rfl, rfl, rfl⟩ rfl rfl ?_
         refine wa_no (i := 25) (d := 43) 12 rfl (by kernel_rfl) (by kernel_rfl) (by kernel_rfl) ⟨_, _, _, rfl, rfl, rfl, rfl⟩ rfl rfl ?_
         refine wa_no (i := 26) (d := 44) 11 rfl (by kernel_rfl) (by kernel_rfl) (by kernel_rfl) ⟨_, _, _, rfl, rfl, rfl, rfl⟩ rfl rfl ?_
         refine wa_no (i := 27) (d := 45) 10 rfl (by kernel_rfl) (by kernel_rfl) (by kernel_rfl) ⟨_, _, _, rfl, rfl, rfl, rfl⟩ rfl rfl ?_
         refine wa_no (i := 28) (d := 46) 9 rfl (by kernel_rfl) (by kernel_rfl) (by kernel_rfl) ⟨_, _, _, rfl, rfl, rfl, rfl⟩ rfl rfl ?_
         refine wa_no (i := 29) (d := 47) 8 rfl (by kernel_rfl) (by kernel_rfl) (by kernel_rfl) ⟨_, _, _, rfl, rfl, rfl, rfl⟩ rfl rfl ?_
         refine wa_no (i := 30) (d := 48) 7 rfl (by kernel_rfl) (by kernel_rfl) (by kernel_rfl) ⟨_, _, _, rfl, rfl, rfl, rfl⟩ rfl rfl ?_
         refine wa_no (i := 31) (d := 49) 6 rfl (by kernel_rfl) (by kernel_rfl) (by kernel_rfl) ⟨_, _, _, rfl, rfl, rfl, rfl⟩ rfl rfl ?_
         refine wa_no (i := 32) (d := 50) 5 rfl (by kernel_rfl) (by kernel_rfl) (by kernel_rfl) ⟨_, _, _, rfl, rfl, rfl, rfl⟩ rfl rfl ?_
         refine wa_no (i := 33) (d := 51) 4 rfl (by kernel_rfl) (by kernel_rfl) (by kernel_rfl) ⟨_, _, _, rfl, rfl, rfl, rfl⟩ rfl rfl ?_
         refine wa_no (i := 34) (d := 52) 3 rfl (by kernel_rfl) (by kernel_rfl) (by kernel_rfl) ⟨_, _, _, rfl, rfl, rfl, rfl⟩ rfl rfl ?_
         refine wa_no (i := 35) (d := 53) 2 rfl (by kernel_rfl) (by kernel_rfl) (by kernel_rfl) ⟨_, _, _, rfl, rfl, rfl, rfl⟩ rfl rfl ?_
         refine wa_no (i := 36) (d := 54) 1 rfl (by kernel_rfl) (by kernel_rfl) (by kernel_rfl) ⟨_, _, _, rfl, rfl, rfl, rfl⟩ rfl rfl ?_
         refine wa_takeP (i := 37) (d := 55) 0 rfl (by kernel_rfl) (by kernel_rfl) (by kernel_rfl) rfl rfl rfl (fun w56 => run_pickT rfl rfl rfl) ?_
         refine wa_end (by kernel_rfl) (fun w57 S57 => ?_)
         refine nm_sub [(0, _), (3, _), (55, _)] ⟨rfl, rfl, rfl, trivial⟩ ?_
         refine nm_thn ?_
         refine ws_condTN PolyMay_n30 rfl rfl rfl ?_
         refine ws_seqN PolyMay_n32 PolyMay_n33 rfl rfl rfl ?_
         refine ws_region rfl ?_
         refine wla 0 1 rfl rfl rfl rfl rfl rfl rfl ?_
         refine wl_end rfl ?_
         refine nm_sub [(2, _)] ⟨rfl, trivial⟩ ?_
         refine nm_thn ?_
         refine ws_ret hC [_] rfl rfl ⟨rfl, trivial⟩ ?_
         exact ⟨_, rfl, (S57.pick [] [] (by decide) trivial), (congrArg Value.bool (Eq.symm (decide_eq_false (fun h => by first | (have := h.1; omega) | (have h9 := h.2 i (by omega); unfold okT at h9; omega)))))⟩
        ·replace hg41 := of_decide_eq_false hg41
         refine wa_takeP (i := 24) (d := 42) 13 rfl (by kernel_rfl) (by kernel_rfl) (by kernel_rfl) ⟨_, _, _, rfl, rfl, rfl, rfl⟩ rfl rfl (fun w58 => run_move rfl rfl) ?_
         refine wa_takeP (i := 25) (d := 43) 12 rfl (by kernel_rfl) (by kernel_rfl) (by kernel_rfl) ⟨_, _, _, rfl, rfl, rfl, rfl⟩ rfl rfl (fun w59 => run_gtr rfl rfl rfl) ?_
         refine wa_takeP (i := 26) (d := 44) 11 rfl (by kernel_rfl) (by kernel_rfl) (by kernel_rfl) ⟨_, _, _, rfl, rfl, rfl, rfl⟩ rfl rfl (fun w60 => run_move rfl rfl) ?_
         refine wa_split (t := 44) rfl (fun hg44 => ?_) (fun hg44 => ?_)
         ·replace hg44 := of_decide_eq_true hg44
          refine wa_takeP (i := 27) (d := 45) 10 rfl (by kernel_rfl) (by kernel_rfl) (by kernel_rfl) ⟨_, _, _, rfl, rfl, rfl, rfl⟩ rfl rfl (fun w61 => run_move rfl rfl) ?_
          refine wa_takeP (i := 28) (d := 46) 9 rfl (by kernel_rfl) (by kernel_rfl) (by kernel_rfl) ⟨_, _, _, rfl, rfl, rfl, rfl⟩ rfl rfl (fun w62 => run_move rfl rfl) ?_
          refine wa_takeP (i := 29) (d := 47) 8 rfl (by kernel_rfl) (by kernel_rfl) (by kernel_rfl) ⟨_, _, _, rfl, rfl, rfl, rfl⟩ rfl rfl (fun w63 => run_sub rfl rfl rfl (by first | omega | (simp only [lens]; omega))) ?_
          refine wa_take (i := 30) (d := 48) 7 rfl (by kernel_rfl) (by kernel_rfl) (by kernel_rfl) ⟨_, _, _, rfl, rfl, rfl, rfl⟩ rfl rfl (fun M56 N56 w64 hle57 S64 => .inl (run_indexM (C := cdTm) (((i : Int) - 1).toNat) rfl rfl rfl sl22 (by first | rfl | omega) (ha.mono (Hp.un_mono hle57 S64.mx)) (by first | omega | (simp only [lens]; omega)))) ?_
          refine wa_takeP (i := 31) (d := 49) 6 rfl (by kernel_rfl) (by kernel_rfl) (by kernel_rfl) ⟨_, _, _, rfl, rfl, rfl, rfl⟩ rfl rfl (fun w65 => run_fieldAddr rfl rfl Tryd.underlying38 rfl (ce3) (nf3)) ?_
          refine wa_take (i := 32) (d := 50) 5 rfl (by kernel_rfl) (by kernel_rfl) (by kernel_rfl) ⟨_, _, _, rfl, rfl, rfl, rfl⟩ rfl rfl (fun M58 N58 w66 hle59 S66 => .inl (run_load1 rfl rfl Tryd.underlying3 rfl ((ha.mono (Hp.un_mono hle59 S66.mx)).cell S66.um (i := ((i : Int) - 1).toNat) (by first | omega | (simp only [lens]; omega)) 0 rfl rfl))) ?_
          refine wa_takeP (i := 33) (d := 51) 4 rfl (by kernel_rfl) (by kernel_rfl) (by kernel_rfl) ⟨_, _, _, rfl, rfl, rfl, rfl⟩ rfl rfl (fun w67 => run_fieldAddr rfl rfl Tryd.underlying38 rfl (ce3) (nf3)) ?_
          refine wa_take (i := 34) (d := 52) 3 rfl (by kernel_rfl) (by kernel_rfl) (by kernel_rfl) ⟨_, _, _, rfl, rfl, rfl, rfl⟩ rfl rfl (fun M60 N60 w68 hle61 S68 => .inl (run_load1 rfl rfl Tryd.underlying3 rfl (S68.suf.boxc (i := 0) rfl rfl))) ?_
          refine wa_takeP (i := 35) (d := 53) 2 rfl (by kernel_rfl) (by kernel_rfl) (by kernel_rfl) ⟨_, _, _, rfl, rfl, rfl, rfl⟩ rfl rfl (fun w69 => run_geq rfl rfl rfl) ?_
          refine wa_takeP (i := 36) (d := 54) 1 rfl (by kernel_rfl) (by kernel_rfl) (by kernel_rfl) ⟨_, _, _, rfl, rfl, rfl, rfl⟩ rfl rfl (fun w70 => run_pickT rfl rfl rfl) ?_
          refine wa_takeP (i := 37) (d := 55) 0 rfl (by kernel_rfl) (by kernel_rfl) (by kernel_rfl) rfl rfl rfl (fun w71 => run_pickF rfl rfl rfl) ?_
          refine wa_end (by kernel_rfl) (fun w72 S72 => ?_)
          refine nm_sub [(0, _), (3, _), (55, _)] ⟨rfl, rfl, rfl, trivial⟩ ?_
          refine nm_thn ?_
          refine ws_condN PolyMay_n30 PolyMay_n31 rfl rfl rfl rfl (fun hb55 => ?_) (fun hb55 => ?_)
          ·replace hb55 := of_decide_eq_true hb55
           refine ws_seqN PolyMay_n32 PolyMay_n33 rfl rfl rfl ?_
           refine ws_region rfl ?_
           refine wla 0 1 rfl rfl rfl rfl rfl rfl rfl ?_
           refine wl_end rfl ?_
           refine nm_sub [(2, _)] ⟨rfl, trivial⟩ ?_
           refine nm_thn ?_
           refine ws_ret hC [_] rfl rfl ⟨rfl, trivial⟩ ?_
           exact ⟨_, rfl, (S72.pick [] [] (by decide) trivial), (congrArg Value.bool (Eq.symm (decide_eq_false (fun h => by first | (have := h.1; omega) | (have h9 := h.2 i (by omega); unfold okT at h9; omega)))))⟩
          ·replace hb55 := of_decide_eq_false hb55
           refine ws_skip rfl ?_
           refine nm_blk ?_
           refine nm_sub [(0, _), (3, _)] ⟨rfl, rfl, trivial⟩ ?_
           refine nm_thn ?_
           refine ws_region rfl ?_
           refine wlm 0 1 rfl rfl rfl rfl rfl rfl rfl ?_
           refine wlo 1 2 rfl rfl rfl (wo_run rfl rfl (run_add rfl rfl rfl (by first | omega | (simp only [lens]; omega))) ?_)
           refine wla 2 3 rfl rfl rfl rfl rfl rfl rfl ?_
           refine wl_end rfl ?_
           refine nm_lp ?_
           intro ax_ hax_
           refine ⟨_, ?hq2m, ⟨i + 1, rfl, hax_.sub ⟨rfl, rfl, trivial⟩, S72.pick [] [] (by decide) trivial, ?hq2f0, ?hq2f1⟩⟩
           case hq2f0 => omega
           case hq2f1 => (intro j hj; by_cases h : j = i; (subst h; unfold okT; first | omega | (simp_all; omega)); exact hok j (by omega))
           case hq2m => omega
         ·replace hg44 := of_decide_eq_false hg44
          refine wa_no (i := 27) (d := 45) 10 rfl (by kernel_rfl) (by kernel_rfl) (by kernel_rfl) ⟨_, _, _, rfl, rfl, rfl, rfl⟩ rfl rfl ?_
          refine wa_no (i := 28) (d := 46) 9 rfl (by kernel_rfl) (by kernel_rfl) (by kernel_rfl) ⟨_, _, _, rfl, rfl, rfl, rfl⟩ rfl rfl ?_
          refine wa_no (i := 29) (d := 47) 8 rfl (by kernel_rfl) (by kernel_rfl) (by kernel_rfl) ⟨_, _, _, rfl, rfl, rfl, rfl⟩ rfl rfl ?_
          refine wa_no (i := 30) (d := 48) 7 rfl (by kernel_rfl) (by kernel_rfl) (by kernel_rfl) ⟨_, _, _, rfl, rfl, rfl, rfl⟩ rfl rfl ?_
          refine wa_no (i := 31) (d := 49) 6 rfl (by kernel_rfl) (by kernel_rfl) (by kernel_rfl) ⟨_, _, _, rfl, rfl, rfl, rfl⟩ rfl rfl ?_
          refine wa_no (i := 32) (d := 50) 5 rfl (by kernel_rfl) (by kernel_rfl) (by kernel_rfl) ⟨_, _, _, rfl, rfl, rfl, rfl⟩ rfl rfl ?_
          refine wa_no (i := 33) (d := 51) 4 rfl (by kernel_rfl) (by kernel_rfl) (by kernel_rfl) ⟨_, _, _, rfl, rfl, rfl, rfl⟩ rfl rfl ?_
          refine wa_no (i := 34) (d := 52) 3 rfl (by kernel_rfl) (by kernel_rfl) (by kernel_rfl) ⟨_, _, _, rfl, rfl, rfl, rfl⟩ rfl rfl ?_
          refine wa_no (i := 35) (d := 53) 2 rfl (by kernel_rfl) (by kernel_rfl) (by kernel_rfl) ⟨_, _, _, rfl, rfl, rfl, rfl⟩ rfl rfl ?_
          refine wa_takeP (i := 36) (d := 54) 1 rfl (by kernel_rfl) (by kernel_rfl) (by kernel_rfl) ⟨_, _, _, rfl, rfl, rfl, rfl⟩ rfl rfl (fun w73 => run_pickF rfl rfl rfl) ?_
          refine wa_takeP (i := 37) (d := 55) 0 rfl (by kernel_rfl) (by kernel_rfl) (by kernel_rfl) rfl rfl rfl (fun w74 => run_pickF rfl rfl rfl) ?_
          refine wa_end (by kernel_rfl) (fun w75 S75 => ?_)
          refine nm_sub [(0, _), (3, _), (55, _)] ⟨rfl, rfl, rfl, trivial⟩ ?_
          refine nm_thn ?_
          refine ws_condFN PolyMay_n31 rfl rfl rfl ?_
          refine ws_skip rfl ?_
          refine nm_blk ?_
          refine nm_sub [(0, _), (3, _)] ⟨rfl, rfl, trivial⟩ ?_
          refine nm_thn ?_
          refine ws_region rfl ?_
          refine wlm 0 1 rfl rfl rfl rfl rfl rfl rfl ?_
          refine wlo 1 2 rfl rfl rfl (wo_run rfl rfl (run_add rfl rfl rfl (by first | omega | (simp only [lens]; omega))) ?_)
          refine wla 2 3 rfl rfl rfl rfl rfl rfl rfl ?_
          refine wl_end rfl ?_
          refine nm_lp ?_
          intro ax_ hax_
          refine ⟨_, ?hq3m, ⟨i + 1, rfl, hax_.sub ⟨rfl, rfl, trivial⟩, S75.pick [] [] (by decide) trivial, ?hq3f0, ?hq3f1⟩⟩
          case hq3f0 => omega
          case hq3f1 => (intro j hj; by_cases h : j = i; (subst h; unfold okT; first | omega | (simp_all; omega)); exact hok j (by omega))
          case hq3m => omega
   ·replace hb11 := of_decide_eq_false hb11
    refine ws_exit rfl rfl ?_
    refine nm_sub [] trivial ?_
    refine nm_thn ?_
    refine ws_seqN PolyMay_n34 PolyMay_n35 rfl rfl rfl ?_
    refine ws_region rfl ?_
    refine wla 0 1 rfl rfl rfl rfl rfl rfl rfl ?_
    refine wl_end rfl ?_
    refine nm_thn ?_
    refine ws_ret hC [_] rfl rfl ⟨rfl, trivial⟩ ?_
    exact ⟨_, rfl, (S1.pick [] [] (by decide) trivial), (congrArg Value.bool (Eq.symm (decide_eq_true ⟨by omega, fun j hj => hok j (by omega)⟩)))⟩
end Go.Proofs.YtklcecpjgingpaaDoor
