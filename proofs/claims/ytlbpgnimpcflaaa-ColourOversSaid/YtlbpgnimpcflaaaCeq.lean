/- Small facts of the seat's types. -/
import Derived.Test.YtlbpgnimpcflaaaE6
import Derived.Test.YtlbpgnimpcflaaaE5
import Derived.Test.YtlbpgnimpcflaaaE11
namespace Go.Proofs.Ytlbpgnimpcflaaa
open Go.ChangeShapes Go.WideShapes Go.ChangeAt Go.RowKit
theorem se7 : StEq Try.prog 7 [(0, false), (1, false), (2, true), (3, false)] := ⟨[_, _, _, _], Try.underlying7, ⟨⟨by kernel_rfl, rfl, ⟨_, Try.underlying2⟩⟩, ⟨by kernel_rfl, rfl, ⟨_, Try.underlying3⟩⟩, ⟨by kernel_rfl, rfl, Try.underlying4⟩, ⟨by kernel_rfl, rfl, ⟨_, Try.underlying6⟩⟩, trivial⟩, by kernel_rfl, by kernel_rfl⟩
theorem se8 : StEq Try.prog 8 [(0, false), (1, false), (2, true), (3, false)] := ⟨[_, _, _, _], Try.underlying8, ⟨⟨by kernel_rfl, rfl, ⟨_, Try.underlying2⟩⟩, ⟨by kernel_rfl, rfl, ⟨_, Try.underlying3⟩⟩, ⟨by kernel_rfl, rfl, Try.underlying4⟩, ⟨by kernel_rfl, rfl, ⟨_, Try.underlying6⟩⟩, trivial⟩, by kernel_rfl, by kernel_rfl⟩
theorem se69 : StEq Try.prog 69 [(0, false), (1, true)] := ⟨[_, _], Try.underlying69, ⟨⟨by kernel_rfl, rfl, ⟨_, Try.underlying3⟩⟩, ⟨by kernel_rfl, rfl, Try.underlying4⟩, trivial⟩, by kernel_rfl, by kernel_rfl⟩
theorem se70 : StEq Try.prog 70 [(0, false), (1, true)] := ⟨[_, _], Try.underlying70, ⟨⟨by kernel_rfl, rfl, ⟨_, Try.underlying3⟩⟩, ⟨by kernel_rfl, rfl, Try.underlying4⟩, trivial⟩, by kernel_rfl, by kernel_rfl⟩
theorem ae71 : ArEq Try.prog 71 := ⟨_, _, Try.underlying71, Try.underlying3, rfl, by kernel_rfl, by kernel_rfl⟩
theorem se72 : StEq Try.prog 72 [(0, false), (1, false), (2, false), (3, false), (4, true)] := ⟨[_, _, _, _, _], Try.underlying72, ⟨⟨by kernel_rfl, rfl, ⟨_, Try.underlying3⟩⟩, ⟨by kernel_rfl, rfl, ⟨_, Try.underlying3⟩⟩, ⟨by kernel_rfl, rfl, ⟨_, Try.underlying3⟩⟩, ⟨by kernel_rfl, rfl, ⟨_, Try.underlying3⟩⟩, ⟨by kernel_rfl, rfl, Try.underlying4⟩, trivial⟩, by kernel_rfl, by kernel_rfl⟩
theorem se73 : StEq Try.prog 73 [(0, false), (1, false), (2, false), (3, false), (4, true)] := ⟨[_, _, _, _, _], Try.underlying73, ⟨⟨by kernel_rfl, rfl, ⟨_, Try.underlying3⟩⟩, ⟨by kernel_rfl, rfl, ⟨_, Try.underlying3⟩⟩, ⟨by kernel_rfl, rfl, ⟨_, Try.underlying3⟩⟩, ⟨by kernel_rfl, rfl, ⟨_, Try.underlying3⟩⟩, ⟨by kernel_rfl, rfl, Try.underlying4⟩, trivial⟩, by kernel_rfl, by kernel_rfl⟩
theorem se83 : StEq Try.prog 83 [(0, false), (1, false)] := ⟨[_, _], Try.underlying83, ⟨⟨by kernel_rfl, rfl, ⟨_, Try.underlying3⟩⟩, ⟨by kernel_rfl, rfl, ⟨_, Try.underlying3⟩⟩, trivial⟩, by kernel_rfl, by kernel_rfl⟩
theorem se84 : StEq Try.prog 84 [(0, false), (1, false)] := ⟨[_, _], Try.underlying84, ⟨⟨by kernel_rfl, rfl, ⟨_, Try.underlying3⟩⟩, ⟨by kernel_rfl, rfl, ⟨_, Try.underlying3⟩⟩, trivial⟩, by kernel_rfl, by kernel_rfl⟩
theorem se87 : StEq Try.prog 87 [(0, false), (1, false)] := ⟨[_, _], Try.underlying87, ⟨⟨by kernel_rfl, rfl, ⟨_, Try.underlying3⟩⟩, ⟨by kernel_rfl, rfl, ⟨_, Try.underlying3⟩⟩, trivial⟩, by kernel_rfl, by kernel_rfl⟩
theorem se88 : StEq Try.prog 88 [(0, false), (1, false)] := ⟨[_, _], Try.underlying88, ⟨⟨by kernel_rfl, rfl, ⟨_, Try.underlying3⟩⟩, ⟨by kernel_rfl, rfl, ⟨_, Try.underlying3⟩⟩, trivial⟩, by kernel_rfl, by kernel_rfl⟩
theorem se101 : StEq Try.prog 101 [(0, false), (1, true)] := ⟨[_, _], Try.underlying101, ⟨⟨by kernel_rfl, rfl, ⟨_, Try.underlying3⟩⟩, ⟨by kernel_rfl, rfl, Try.underlying4⟩, trivial⟩, by kernel_rfl, by kernel_rfl⟩
theorem se102 : StEq Try.prog 102 [(0, false), (1, true)] := ⟨[_, _], Try.underlying102, ⟨⟨by kernel_rfl, rfl, ⟨_, Try.underlying3⟩⟩, ⟨by kernel_rfl, rfl, Try.underlying4⟩, trivial⟩, by kernel_rfl, by kernel_rfl⟩
end Go.Proofs.Ytlbpgnimpcflaaa
