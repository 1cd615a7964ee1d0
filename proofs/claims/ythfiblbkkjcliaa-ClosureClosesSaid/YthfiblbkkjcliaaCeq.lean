/- Small facts of the seat's types: equality. -/
import Derived.Test.YthfiblbkkjcliaaE10
namespace Go.Proofs.Ythfiblbkkjcliaa
open Go.ChangeShapes Go.WideShapes Go.ChangeAt Go.RowKit
theorem se7 : StEq Try.prog 7 [(0, false), (1, false), (2, true), (3, false)] := ⟨[_, _, _, _], Try.underlying7, ⟨⟨by kernel_rfl, rfl, ⟨_, Try.underlying2⟩⟩, ⟨by kernel_rfl, rfl, ⟨_, Try.underlying3⟩⟩, ⟨by kernel_rfl, rfl, Try.underlying4⟩, ⟨by kernel_rfl, rfl, ⟨_, Try.underlying6⟩⟩, trivial⟩, by kernel_rfl, by kernel_rfl⟩
theorem se8 : StEq Try.prog 8 [(0, false), (1, false), (2, true), (3, false)] := ⟨[_, _, _, _], Try.underlying8, ⟨⟨by kernel_rfl, rfl, ⟨_, Try.underlying2⟩⟩, ⟨by kernel_rfl, rfl, ⟨_, Try.underlying3⟩⟩, ⟨by kernel_rfl, rfl, Try.underlying4⟩, ⟨by kernel_rfl, rfl, ⟨_, Try.underlying6⟩⟩, trivial⟩, by kernel_rfl, by kernel_rfl⟩
theorem se62 : StEq Try.prog 62 [(0, false), (1, false), (2, false), (3, false), (4, true)] := ⟨[_, _, _, _, _], Try.underlying62, ⟨⟨by kernel_rfl, rfl, ⟨_, Try.underlying3⟩⟩, ⟨by kernel_rfl, rfl, ⟨_, Try.underlying3⟩⟩, ⟨by kernel_rfl, rfl, ⟨_, Try.underlying3⟩⟩, ⟨by kernel_rfl, rfl, ⟨_, Try.underlying3⟩⟩, ⟨by kernel_rfl, rfl, Try.underlying4⟩, trivial⟩, by kernel_rfl, by kernel_rfl⟩
theorem se63 : StEq Try.prog 63 [(0, false), (1, false), (2, false), (3, false), (4, true)] := ⟨[_, _, _, _, _], Try.underlying63, ⟨⟨by kernel_rfl, rfl, ⟨_, Try.underlying3⟩⟩, ⟨by kernel_rfl, rfl, ⟨_, Try.underlying3⟩⟩, ⟨by kernel_rfl, rfl, ⟨_, Try.underlying3⟩⟩, ⟨by kernel_rfl, rfl, ⟨_, Try.underlying3⟩⟩, ⟨by kernel_rfl, rfl, Try.underlying4⟩, trivial⟩, by kernel_rfl, by kernel_rfl⟩
end Go.Proofs.Ythfiblbkkjcliaa
