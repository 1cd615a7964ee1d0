/- Diagrams' elements, for the new walk; from the old words to the new ones. -/
import Derived.Test.YtlbpgnimpcflaaaE6
import Derived.Test.YtlbpgnimpcflaaaDia
namespace Go.Proofs.Ytlbpgnimpcflaaa
open Go.ChangeShapes Go.WideShapes Go.ChangeAt Go.RowKit

def cdCr : Cd Cr := ⟨crF, 5, 40, 73, ⟨0, 0, 0, 0, false⟩, fun _ => rfl, by
  intro x u hu
  simp [crF] at hu
  rcases hu with rfl | rfl | rfl | rfl | rfl <;> rfl⟩
end Go.Proofs.Ytlbpgnimpcflaaa
