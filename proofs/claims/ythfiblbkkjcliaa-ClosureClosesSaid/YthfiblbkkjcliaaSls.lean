/- Small facts of the seat's types. -/
import Derived.Test.YthfiblbkkjcliaaE6
import Derived.Test.YthfiblbkkjcliaaE5
import Derived.Test.YthfiblbkkjcliaaCst
namespace Go.Proofs.Ythfiblbkkjcliaa
open Go.ChangeShapes Go.WideShapes Go.ChangeAt Go.RowKit
theorem sl22 : SlOf Try.prog 22 cdInt := ⟨.int .i64 0, Try.underlying22, by kernel_rfl, rfl, by decide, by decide⟩
theorem sl27 : SlOf Try.prog 27 (cdV 22) := ⟨.slice none 0 0, Try.underlying27, by kernel_rfl, rfl, by decide, by decide⟩
theorem sl50 : SlOf Try.prog 50 cdInt := ⟨.int .i64 0, Try.underlying50, by kernel_rfl, rfl, by decide, by decide⟩
theorem sl58 : SlOf Try.prog 58 cdBool := ⟨.bool false, Try.underlying58, by kernel_rfl, rfl, by decide, by decide⟩
theorem sl65 : SlOf Try.prog 65 (cdV 50) := ⟨.slice none 0 0, Try.underlying65, by kernel_rfl, rfl, by decide, by decide⟩
end Go.Proofs.Ythfiblbkkjcliaa
