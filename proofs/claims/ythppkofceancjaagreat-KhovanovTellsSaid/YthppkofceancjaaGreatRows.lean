/-
  No cell of these rows narrows 'for every input' (looked for: loops, veiled, ifaces, maps, wideKeys, modest, calm, conditions, laid).
  DERIVED. THE GIVEN ROWS OF THIS SEAT. 5 by the template 'for every input the law returns true; each argument reads behind the call as it read before'; 0 by the template 'total and deterministic' (their statements: YthppkofceancjaaGreatTotals.lean).
  GIVEN WITH THE SEED: the statements are not yours to turn. If you find one false, say at which input.
  Laid BY PROGRAM, IN A SANDBOX (cutbox-rows.mjs): the forced cells as the released guide's own fill.sh prints them over the translation ea1aa3ac7b8ddfbb… (all of the seat's roots in one cut). By AI agents, Wed Nov 11 2026. No macro, syntax, notation, axiom, sorry.
-/
import Derived.Test.YthppkofceancjaaGreatChecked
import GoSem.Claim
import GoSem.ClaimJoined
import GoSem.ClaimMapViews
import Derived.JoinedTies
import Derived.KernelRfl
namespace Go.Proofs.YthppkofceancjaaGreat
/- THE CELL 'sum', in the pinned program and in every row, IS THE sha256 OF THE DUMP (.gsa) THAT YthppkofceancjaaGreatProg.lean LOADS. Nothing in Lean hashes anything: it is a label: what it is worth is what the hold of that sum in a sandbox is worth. -/
noncomputable def Tryz.pinned : Pinned := { name := "ythppkofceancjaagreat", sum := "ea1aa3ac7b8ddfbb0b38020878ca6efcef39a03963e83abdece314f02ec29d0b", checked := Tryz.checked }
namespace Rows
def none {H : Type} : Left H := { results := [], args := [] }

/-- 'knotworklaw.MovesDo': WHATEVER THE INPUT: true; the input reads as it did. -/
def movesDoSpec : ChangeSpec := { name := "movesDo", fn := fun _ => fun
  | [d1, d2] => { results := [.lit (.bool true)], args := [d1, d2] }
  | _ => none }
def movesDoRow : OpenClaim := { program := "ythppkofceancjaagreat", sum := "ea1aa3ac7b8ddfbb0b38020878ca6efcef39a03963e83abdece314f02ec29d0b", func := "knotwork/knotworklaw.MovesDo", spec := "movesDo", unfollowed := true, recurses := true, plainKeys := false, apart := false }
def MovesDoSaid : Prop := movesDoRow.holds Tryz.pinned (OpenSpec.ofChange movesDoSpec)

/-- ITS FALSE NEIGHBOUR: 'it returns false'. Refute it at one input. -/
def movesDoWrong : ChangeSpec := { name := "movesDo", fn := fun _ => fun
  | [d1, d2] => { results := [.lit (.bool false)], args := [d1, d2] }
  | _ => none }
def MovesDoWrongFalsely : Prop := movesDoRow.holds Tryz.pinned (OpenSpec.ofChange movesDoWrong)

/-- 'knotworklaw.MovesRows': WHATEVER THE INPUT: true; the input reads as it did. -/
def movesRowsSpec : ChangeSpec := { name := "movesRows", fn := fun _ => fun
  | [d1, d2] => { results := [.lit (.bool true)], args := [d1, d2] }
  | _ => none }
def movesRowsRow : OpenClaim := { program := "ythppkofceancjaagreat", sum := "ea1aa3ac7b8ddfbb0b38020878ca6efcef39a03963e83abdece314f02ec29d0b", func := "knotwork/knotworklaw.MovesRows", spec := "movesRows", unfollowed := true, recurses := true, plainKeys := false, apart := false }
def MovesRowsSaid : Prop := movesRowsRow.holds Tryz.pinned (OpenSpec.ofChange movesRowsSpec)

/-- ITS FALSE NEIGHBOUR: 'it returns false'. Refute it at one input. -/
def movesRowsWrong : ChangeSpec := { name := "movesRows", fn := fun _ => fun
  | [d1, d2] => { results := [.lit (.bool false)], args := [d1, d2] }
  | _ => none }
def MovesRowsWrongFalsely : Prop := movesRowsRow.holds Tryz.pinned (OpenSpec.ofChange movesRowsWrong)

/-- 'knotworklaw.MovesTake': WHATEVER THE INPUT: true; the input reads as it did. -/
def movesTakeSpec : ChangeSpec := { name := "movesTake", fn := fun _ => fun
  | [d] => { results := [.lit (.bool true)], args := [d] }
  | _ => none }
def movesTakeRow : OpenClaim := { program := "ythppkofceancjaagreat", sum := "ea1aa3ac7b8ddfbb0b38020878ca6efcef39a03963e83abdece314f02ec29d0b", func := "knotwork/knotworklaw.MovesTake", spec := "movesTake", unfollowed := true, recurses := true, plainKeys := false, apart := false }
def MovesTakeSaid : Prop := movesTakeRow.holds Tryz.pinned (OpenSpec.ofChange movesTakeSpec)

/-- ITS FALSE NEIGHBOUR: 'it returns false'. Refute it at one input. -/
def movesTakeWrong : ChangeSpec := { name := "movesTake", fn := fun _ => fun
  | [d] => { results := [.lit (.bool false)], args := [d] }
  | _ => none }
def MovesTakeWrongFalsely : Prop := movesTakeRow.holds Tryz.pinned (OpenSpec.ofChange movesTakeWrong)

/-- 'knotworklaw.HomflyTells': WHATEVER THE INPUT: true; the input reads as it did. -/
def homflyTellsSpec : ChangeSpec := { name := "homflyTells", fn := fun _ => fun
  | [d] => { results := [.lit (.bool true)], args := [d] }
  | _ => none }
def homflyTellsRow : OpenClaim := { program := "ythppkofceancjaagreat", sum := "ea1aa3ac7b8ddfbb0b38020878ca6efcef39a03963e83abdece314f02ec29d0b", func := "knotwork/knotworklaw.HomflyTells", spec := "homflyTells", unfollowed := true, recurses := true, plainKeys := false, apart := false }
def HomflyTellsSaid : Prop := homflyTellsRow.holds Tryz.pinned (OpenSpec.ofChange homflyTellsSpec)

/-- ITS FALSE NEIGHBOUR: 'it returns false'. Refute it at one input. -/
def homflyTellsWrong : ChangeSpec := { name := "homflyTells", fn := fun _ => fun
  | [d] => { results := [.lit (.bool false)], args := [d] }
  | _ => none }
def HomflyTellsWrongFalsely : Prop := homflyTellsRow.holds Tryz.pinned (OpenSpec.ofChange homflyTellsWrong)

/-- 'knotworklaw.KhovanovTells': WHATEVER THE INPUT: true; the input reads as it did. -/
def khovanovTellsSpec : ChangeSpec := { name := "khovanovTells", fn := fun _ => fun
  | [d] => { results := [.lit (.bool true)], args := [d] }
  | _ => none }
def khovanovTellsRow : OpenClaim := { program := "ythppkofceancjaagreat", sum := "ea1aa3ac7b8ddfbb0b38020878ca6efcef39a03963e83abdece314f02ec29d0b", func := "knotwork/knotworklaw.KhovanovTells", spec := "khovanovTells", unfollowed := true, recurses := true, plainKeys := false, apart := false }
def KhovanovTellsSaid : Prop := khovanovTellsRow.holds Tryz.pinned (OpenSpec.ofChange khovanovTellsSpec)

/-- ITS FALSE NEIGHBOUR: 'it returns false'. Refute it at one input. -/
def khovanovTellsWrong : ChangeSpec := { name := "khovanovTells", fn := fun _ => fun
  | [d] => { results := [.lit (.bool false)], args := [d] }
  | _ => none }
def KhovanovTellsWrongFalsely : Prop := khovanovTellsRow.holds Tryz.pinned (OpenSpec.ofChange khovanovTellsWrong)

/- THE SECOND FORM. 'bulk': how many values and letters a reading holds, each counted each time it is reached (what is shared counts as often as it is met; a slice's spare places count too). A statement '..UptoSaid' is the law's where the arguments, and the package variables that the reading takes, are together of bulk at most 1048576: NARROWER than '..Said'. Prove '..Said' where nothing that the law and all that it calls make is longer than what came in: it says more and counts as full. Else prove '..UptoSaid'. A law counts once. -/
mutual
def uptoBulk {H : Type} : DataW H → Nat
  | .lit (.string bytes) => bytes.length + 1
  | .lit _ => 1
  | .nil => 1
  | .ptr d => uptoBulk d + 1
  | .slice elems spare => uptoBulkAll elems + uptoBulkAll spare + 1
  | .agg parts => uptoBulkAll parts + 1
  | .iface _ d => uptoBulk d + 1
  | .map entries => uptoBulkEntries entries + 1
  | .held _ => 1
def uptoBulkAll {H : Type} : List (DataW H) → Nat
  | [] => 0
  | d :: r => uptoBulk d + uptoBulkAll r
def uptoBulkEntries {H : Type} : List (Lit × DataW H) → Nat
  | [] => 0
  | x :: r => uptoBulkEntry x + uptoBulkEntries r
def uptoBulkEntry {H : Type} : Lit × DataW H → Nat
  | (.string bytes, d) => bytes.length + uptoBulk d + 1
  | (_, d) => uptoBulk d + 1
 end
def uptoSmall : (H : Type) → List (DataW H) → Bool := fun _ ds => decide (uptoBulkAll ds ≤ 1048576)
def OpenSpec.upto (s : _root_.Go.ChangeSpec) : _root_.Go.OpenSpec := { _root_.Go.OpenSpec.ofChange s with cond := some uptoSmall }

/-- 'knotworklaw.MovesDo', WHERE WHAT IT READS IS OF BULK AT MOST 1048576: true; the input reads as it did. -/
def movesDoUptoRow : OpenClaim := { program := "ythppkofceancjaagreat", sum := "ea1aa3ac7b8ddfbb0b38020878ca6efcef39a03963e83abdece314f02ec29d0b", func := "knotwork/knotworklaw.MovesDo", spec := "movesDo", unfollowed := true, recurses := true, plainKeys := false, apart := false, narrowed := true }
def MovesDoUptoSaid : Prop := movesDoUptoRow.holds Tryz.pinned (OpenSpec.upto movesDoSpec)

/-- 'knotworklaw.MovesRows', WHERE WHAT IT READS IS OF BULK AT MOST 1048576: true; the input reads as it did. -/
def movesRowsUptoRow : OpenClaim := { program := "ythppkofceancjaagreat", sum := "ea1aa3ac7b8ddfbb0b38020878ca6efcef39a03963e83abdece314f02ec29d0b", func := "knotwork/knotworklaw.MovesRows", spec := "movesRows", unfollowed := true, recurses := true, plainKeys := false, apart := false, narrowed := true }
def MovesRowsUptoSaid : Prop := movesRowsUptoRow.holds Tryz.pinned (OpenSpec.upto movesRowsSpec)

/-- 'knotworklaw.MovesTake', WHERE WHAT IT READS IS OF BULK AT MOST 1048576: true; the input reads as it did. -/
def movesTakeUptoRow : OpenClaim := { program := "ythppkofceancjaagreat", sum := "ea1aa3ac7b8ddfbb0b38020878ca6efcef39a03963e83abdece314f02ec29d0b", func := "knotwork/knotworklaw.MovesTake", spec := "movesTake", unfollowed := true, recurses := true, plainKeys := false, apart := false, narrowed := true }
def MovesTakeUptoSaid : Prop := movesTakeUptoRow.holds Tryz.pinned (OpenSpec.upto movesTakeSpec)

/-- 'knotworklaw.HomflyTells', WHERE WHAT IT READS IS OF BULK AT MOST 1048576: true; the input reads as it did. -/
def homflyTellsUptoRow : OpenClaim := { program := "ythppkofceancjaagreat", sum := "ea1aa3ac7b8ddfbb0b38020878ca6efcef39a03963e83abdece314f02ec29d0b", func := "knotwork/knotworklaw.HomflyTells", spec := "homflyTells", unfollowed := true, recurses := true, plainKeys := false, apart := false, narrowed := true }
def HomflyTellsUptoSaid : Prop := homflyTellsUptoRow.holds Tryz.pinned (OpenSpec.upto homflyTellsSpec)

/-- 'knotworklaw.KhovanovTells', WHERE WHAT IT READS IS OF BULK AT MOST 1048576: true; the input reads as it did. -/
def khovanovTellsUptoRow : OpenClaim := { program := "ythppkofceancjaagreat", sum := "ea1aa3ac7b8ddfbb0b38020878ca6efcef39a03963e83abdece314f02ec29d0b", func := "knotwork/knotworklaw.KhovanovTells", spec := "khovanovTells", unfollowed := true, recurses := true, plainKeys := false, apart := false, narrowed := true }
def KhovanovTellsUptoSaid : Prop := khovanovTellsUptoRow.holds Tryz.pinned (OpenSpec.upto khovanovTellsSpec)

end Rows
end Go.Proofs.YthppkofceancjaaGreat
