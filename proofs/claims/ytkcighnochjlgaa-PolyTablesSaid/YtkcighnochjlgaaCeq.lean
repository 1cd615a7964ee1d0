/- Small facts of the seat's types. -/
import Derived.Test.YtkcighnochjlgaaE6
import Derived.Test.YtkcighnochjlgaaE5
import Derived.Test.YtkcighnochjlgaaE13
namespace Go.Proofs.Ytkcighnochjlgaa
open Go.ChangeShapes Go.WideShapes Go.ChangeAt Go.RowKit
theorem mk2 : MapK Try.prog 2 (Value.int .i64) := mapK_int Try.underlying2
theorem mk3 : MapK Try.prog 3 (Value.int .i64) := mapK_int Try.underlying3
theorem se7 : StEq Try.prog 7 [(0, false), (1, false), (2, true), (3, false)] := ⟨[_, _, _, _], Try.underlying7, ⟨⟨by kernel_rfl, rfl, ⟨_, Try.underlying2⟩⟩, ⟨by kernel_rfl, rfl, ⟨_, Try.underlying3⟩⟩, ⟨by kernel_rfl, rfl, Try.underlying4⟩, ⟨by kernel_rfl, rfl, ⟨_, Try.underlying6⟩⟩, trivial⟩, by kernel_rfl, by kernel_rfl⟩
theorem se8 : StEq Try.prog 8 [(0, false), (1, false), (2, true), (3, false)] := ⟨[_, _, _, _], Try.underlying8, ⟨⟨by kernel_rfl, rfl, ⟨_, Try.underlying2⟩⟩, ⟨by kernel_rfl, rfl, ⟨_, Try.underlying3⟩⟩, ⟨by kernel_rfl, rfl, Try.underlying4⟩, ⟨by kernel_rfl, rfl, ⟨_, Try.underlying6⟩⟩, trivial⟩, by kernel_rfl, by kernel_rfl⟩
theorem mk23 : MapK Try.prog 23 (Value.int .i64) := mapK_int Try.underlying23
theorem se88 : StEq Try.prog 88 [(0, false), (1, false)] := ⟨[_, _], Try.underlying88, ⟨⟨by kernel_rfl, rfl, ⟨_, Try.underlying3⟩⟩, ⟨by kernel_rfl, rfl, ⟨_, Try.underlying3⟩⟩, trivial⟩, by kernel_rfl, by kernel_rfl⟩
theorem se89 : StEq Try.prog 89 [(0, false), (1, false)] := ⟨[_, _], Try.underlying89, ⟨⟨by kernel_rfl, rfl, ⟨_, Try.underlying3⟩⟩, ⟨by kernel_rfl, rfl, ⟨_, Try.underlying3⟩⟩, trivial⟩, by kernel_rfl, by kernel_rfl⟩
theorem se110 : StEq Try.prog 110 [(0, false), (1, false), (2, false), (3, false), (4, true)] := ⟨[_, _, _, _, _], Try.underlying110, ⟨⟨by kernel_rfl, rfl, ⟨_, Try.underlying3⟩⟩, ⟨by kernel_rfl, rfl, ⟨_, Try.underlying3⟩⟩, ⟨by kernel_rfl, rfl, ⟨_, Try.underlying3⟩⟩, ⟨by kernel_rfl, rfl, ⟨_, Try.underlying3⟩⟩, ⟨by kernel_rfl, rfl, Try.underlying4⟩, trivial⟩, by kernel_rfl, by kernel_rfl⟩
theorem se111 : StEq Try.prog 111 [(0, false), (1, false), (2, false), (3, false), (4, true)] := ⟨[_, _, _, _, _], Try.underlying111, ⟨⟨by kernel_rfl, rfl, ⟨_, Try.underlying3⟩⟩, ⟨by kernel_rfl, rfl, ⟨_, Try.underlying3⟩⟩, ⟨by kernel_rfl, rfl, ⟨_, Try.underlying3⟩⟩, ⟨by kernel_rfl, rfl, ⟨_, Try.underlying3⟩⟩, ⟨by kernel_rfl, rfl, Try.underlying4⟩, trivial⟩, by kernel_rfl, by kernel_rfl⟩
theorem se125 : StEq Try.prog 125 [(0, false), (1, false)] := ⟨[_, _], Try.underlying125, ⟨⟨by kernel_rfl, rfl, ⟨_, Try.underlying3⟩⟩, ⟨by kernel_rfl, rfl, ⟨_, Try.underlying3⟩⟩, trivial⟩, by kernel_rfl, by kernel_rfl⟩
theorem se126 : StEq Try.prog 126 [(0, false), (1, false)] := ⟨[_, _], Try.underlying126, ⟨⟨by kernel_rfl, rfl, ⟨_, Try.underlying3⟩⟩, ⟨by kernel_rfl, rfl, ⟨_, Try.underlying3⟩⟩, trivial⟩, by kernel_rfl, by kernel_rfl⟩
theorem se131 : StEq Try.prog 131 [(0, false), (1, false), (2, false)] := ⟨[_, _, _], Try.underlying131, ⟨⟨by kernel_rfl, rfl, ⟨_, Try.underlying3⟩⟩, ⟨by kernel_rfl, rfl, ⟨_, Try.underlying3⟩⟩, ⟨by kernel_rfl, rfl, ⟨_, Try.underlying3⟩⟩, trivial⟩, by kernel_rfl, by kernel_rfl⟩
theorem se132 : StEq Try.prog 132 [(0, false), (1, false), (2, false)] := ⟨[_, _, _], Try.underlying132, ⟨⟨by kernel_rfl, rfl, ⟨_, Try.underlying3⟩⟩, ⟨by kernel_rfl, rfl, ⟨_, Try.underlying3⟩⟩, ⟨by kernel_rfl, rfl, ⟨_, Try.underlying3⟩⟩, trivial⟩, by kernel_rfl, by kernel_rfl⟩
theorem se166 : StEq Try.prog 166 [(0, false), (1, true)] := ⟨[_, _], Try.underlying166, ⟨⟨by kernel_rfl, rfl, ⟨_, Try.underlying3⟩⟩, ⟨by kernel_rfl, rfl, Try.underlying4⟩, trivial⟩, by kernel_rfl, by kernel_rfl⟩
theorem se167 : StEq Try.prog 167 [(0, false), (1, true)] := ⟨[_, _], Try.underlying167, ⟨⟨by kernel_rfl, rfl, ⟨_, Try.underlying3⟩⟩, ⟨by kernel_rfl, rfl, Try.underlying4⟩, trivial⟩, by kernel_rfl, by kernel_rfl⟩
theorem ae173 : ArEq Try.prog 173 := ⟨_, _, Try.underlying173, Try.underlying3, rfl, by kernel_rfl, by kernel_rfl⟩
theorem se195 : StEq Try.prog 195 [(0, false), (1, false)] := ⟨[_, _], Try.underlying195, ⟨⟨by kernel_rfl, rfl, ⟨_, Try.underlying3⟩⟩, ⟨by kernel_rfl, rfl, ⟨_, Try.underlying3⟩⟩, trivial⟩, by kernel_rfl, by kernel_rfl⟩
theorem se196 : StEq Try.prog 196 [(0, false), (1, false)] := ⟨[_, _], Try.underlying196, ⟨⟨by kernel_rfl, rfl, ⟨_, Try.underlying3⟩⟩, ⟨by kernel_rfl, rfl, ⟨_, Try.underlying3⟩⟩, trivial⟩, by kernel_rfl, by kernel_rfl⟩
theorem mk216 : MapK Try.prog 216 (Value.int .i64) := mapK_int Try.underlying216
theorem sl36 : SlOf Try.prog 36 cdInt := ⟨.int .i64 0, Try.underlying36, by kernel_rfl, rfl, by decide, by decide⟩
theorem sl37 : SlOf Try.prog 37 (cdV 43) := ⟨.slice none 0 0, Try.underlying37, by kernel_rfl, rfl, by decide, by decide⟩
theorem sl43 : SlOf Try.prog 43 (cdV 22) := ⟨.slice none 0 0, Try.underlying43, by kernel_rfl, rfl, by decide, by decide⟩
theorem sl69 : SlOf Try.prog 69 (cdV 36) := ⟨.slice none 0 0, Try.underlying69, by kernel_rfl, rfl, by decide, by decide⟩
theorem sl93 : SlOf Try.prog 93 (cdV 94) := ⟨.slice none 0 0, Try.underlying93, by kernel_rfl, rfl, by decide, by decide⟩
theorem sl118 : SlOf Try.prog 118 cdBool := ⟨.bool false, Try.underlying118, by kernel_rfl, rfl, by decide, by decide⟩
theorem sl142 : SlOf Try.prog 142 (cdV 168) := ⟨.slice none 0 0, Try.underlying142, by kernel_rfl, rfl, by decide, by decide⟩
end Go.Proofs.Ytkcighnochjlgaa
