/- Walks printed by eng.py. -/
import Derived.Test.YtlbpgnimpcflaaaCst
import Derived.Test.YtlbpgnimpcflaaaEs
namespace Go.Proofs.Ytlbpgnimpcflaaa
set_option linter.unusedSimpArgs false
set_option linter.unusedVariables false
open Go.ChangeShapes Go.WideShapes Go.ChangeAt Go.RowKit
theorem sl22 : SlOf Try.prog 22 (cdV 24) := ⟨.slice none 0 0, Try.underlying22, by kernel_rfl, rfl, by decide, by decide⟩
theorem sl23 : SlOf Try.prog 23 cdBool := ⟨.bool false, Try.underlying23, by kernel_rfl, rfl, by decide, by decide⟩
theorem sl25 : SlOf Try.prog 25 cdCr := ⟨.agg [.int .i64 0, .int .i64 0, .int .i64 0, .int .i64 0, .bool false].toArray, Try.underlying25, by kernel_rfl, rfl, by decide, by decide⟩
theorem sl37 : SlOf Try.prog 37 (cdV 44) := ⟨.slice none 0 0, Try.underlying37, by kernel_rfl, rfl, by decide, by decide⟩
theorem sl44 : SlOf Try.prog 44 cdInt := ⟨.int .i64 0, Try.underlying44, by kernel_rfl, rfl, by decide, by decide⟩
theorem sl54 : SlOf Try.prog 54 (cdV 100) := ⟨.slice none 0 0, Try.underlying54, by kernel_rfl, rfl, by decide, by decide⟩
theorem sl79 : SlOf Try.prog 79 cdPl := ⟨.agg [.int .i64 0, .int .i64 0].toArray, Try.underlying79, by kernel_rfl, rfl, by decide, by decide⟩
end Go.Proofs.Ytlbpgnimpcflaaa
