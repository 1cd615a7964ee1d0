/-
  No cell of these rows narrows 'for every input' (looked for: loops, veiled, ifaces, maps, wideKeys, modest, calm, conditions, laid).
  DERIVED. THE GIVEN ROWS OF THIS SEAT. 10 by the template 'for every input the law returns true; each argument reads behind the call as it read before'; 0 by the template 'total and deterministic' (their statements: YtkcighnochjlgaaTotals.lean).
  GIVEN WITH THE SEED: the statements are not yours to turn. If you find one false, say at which input.
  Laid BY PROGRAM, IN A SANDBOX (cutbox-rows.mjs): the forced cells as the released guide's own fill.sh prints them over the translation 8051dba54682e335… (all of the seat's roots in one cut). By AI agents, Wed Nov 11 2026. No macro, syntax, notation, axiom, sorry.
-/
import Derived.Test.YtkcighnochjlgaaChecked
import GoSem.Claim
import GoSem.ClaimJoined
import GoSem.ClaimMapViews
import Derived.JoinedTies
import Derived.KernelRfl
namespace Go.Proofs.Ytkcighnochjlgaa
/- THE CELL 'sum', in the pinned program and in every row, IS THE sha256 OF THE DUMP (.gsa) THAT YtkcighnochjlgaaProg.lean LOADS. Nothing in Lean hashes anything: it is a label: what it is worth is what the hold of that sum in a sandbox is worth. -/
noncomputable def Try.pinned : Pinned := { name := "ytkcighnochjlgaa", sum := "8051dba54682e335e0b82a5e23b4a6ae3391af9c096b2b3a8c4eec93db5de35c", checked := Try.checked }
namespace Rows
def none {H : Type} : Left H := { results := [], args := [] }

/-- 'knotworklaw.PolySums': WHATEVER THE INPUT: true; the input reads as it did. -/
def polySumsSpec : ChangeSpec := { name := "polySums", fn := fun _ => fun
  | [d1, d2] => { results := [.lit (.bool true)], args := [d1, d2] }
  | _ => none }
def polySumsRow : OpenClaim := { program := "ytkcighnochjlgaa", sum := "8051dba54682e335e0b82a5e23b4a6ae3391af9c096b2b3a8c4eec93db5de35c", func := "knotwork/knotworklaw.PolySums", spec := "polySums", inPlace := ["maps.clone"], unfollowed := true, recurses := true, plainKeys := false, apart := false }
def PolySumsSaid : Prop := polySumsRow.holds Try.pinned (OpenSpec.ofChange polySumsSpec)

/-- ITS FALSE NEIGHBOUR: 'it returns false'. Refute it at one input. -/
def polySumsWrong : ChangeSpec := { name := "polySums", fn := fun _ => fun
  | [d1, d2] => { results := [.lit (.bool false)], args := [d1, d2] }
  | _ => none }
def PolySumsWrongFalsely : Prop := polySumsRow.holds Try.pinned (OpenSpec.ofChange polySumsWrong)

/-- 'knotworklaw.PolyTurns': WHATEVER THE INPUT: true; the input reads as it did. -/
def polyTurnsSpec : ChangeSpec := { name := "polyTurns", fn := fun _ => fun
  | [d1, d2] => { results := [.lit (.bool true)], args := [d1, d2] }
  | _ => none }
def polyTurnsRow : OpenClaim := { program := "ytkcighnochjlgaa", sum := "8051dba54682e335e0b82a5e23b4a6ae3391af9c096b2b3a8c4eec93db5de35c", func := "knotwork/knotworklaw.PolyTurns", spec := "polyTurns", unfollowed := true, recurses := true, plainKeys := false, apart := false }
def PolyTurnsSaid : Prop := polyTurnsRow.holds Try.pinned (OpenSpec.ofChange polyTurnsSpec)

/-- ITS FALSE NEIGHBOUR: 'it returns false'. Refute it at one input. -/
def polyTurnsWrong : ChangeSpec := { name := "polyTurns", fn := fun _ => fun
  | [d1, d2] => { results := [.lit (.bool false)], args := [d1, d2] }
  | _ => none }
def PolyTurnsWrongFalsely : Prop := polyTurnsRow.holds Try.pinned (OpenSpec.ofChange polyTurnsWrong)

/-- 'knotworklaw.ClosureTables': WHATEVER THE INPUT: true; the input reads as it did. -/
def closureTablesSpec : ChangeSpec := { name := "closureTables", fn := fun _ => fun
  | [d1, d2] => { results := [.lit (.bool true)], args := [d1, d2] }
  | _ => none }
def closureTablesRow : OpenClaim := { program := "ytkcighnochjlgaa", sum := "8051dba54682e335e0b82a5e23b4a6ae3391af9c096b2b3a8c4eec93db5de35c", func := "knotwork/knotworklaw.ClosureTables", spec := "closureTables", inPlace := ["maps.clone"], unfollowed := true, recurses := true, plainKeys := false, apart := false }
def ClosureTablesSaid : Prop := closureTablesRow.holds Try.pinned (OpenSpec.ofChange closureTablesSpec)

/-- ITS FALSE NEIGHBOUR: 'it returns false'. Refute it at one input. -/
def closureTablesWrong : ChangeSpec := { name := "closureTables", fn := fun _ => fun
  | [d1, d2] => { results := [.lit (.bool false)], args := [d1, d2] }
  | _ => none }
def ClosureTablesWrongFalsely : Prop := closureTablesRow.holds Try.pinned (OpenSpec.ofChange closureTablesWrong)

/-- 'knotworklaw.PolyTables': WHATEVER THE INPUT: true; the input reads as it did. -/
def polyTablesSpec : ChangeSpec := { name := "polyTables", fn := fun _ => fun
  | [d] => { results := [.lit (.bool true)], args := [d] }
  | _ => none }
def polyTablesRow : OpenClaim := { program := "ytkcighnochjlgaa", sum := "8051dba54682e335e0b82a5e23b4a6ae3391af9c096b2b3a8c4eec93db5de35c", func := "knotwork/knotworklaw.PolyTables", spec := "polyTables", inPlace := ["maps.clone"], unfollowed := true, recurses := true, plainKeys := false, apart := false }
def PolyTablesSaid : Prop := polyTablesRow.holds Try.pinned (OpenSpec.ofChange polyTablesSpec)

/-- ITS FALSE NEIGHBOUR: 'it returns false'. Refute it at one input. -/
def polyTablesWrong : ChangeSpec := { name := "polyTables", fn := fun _ => fun
  | [d] => { results := [.lit (.bool false)], args := [d] }
  | _ => none }
def PolyTablesWrongFalsely : Prop := polyTablesRow.holds Try.pinned (OpenSpec.ofChange polyTablesWrong)

/-- 'knotworklaw.AlexTables': WHATEVER THE INPUT: true; the input reads as it did. -/
def alexTablesSpec : ChangeSpec := { name := "alexTables", fn := fun _ => fun
  | [d] => { results := [.lit (.bool true)], args := [d] }
  | _ => none }
def alexTablesRow : OpenClaim := { program := "ytkcighnochjlgaa", sum := "8051dba54682e335e0b82a5e23b4a6ae3391af9c096b2b3a8c4eec93db5de35c", func := "knotwork/knotworklaw.AlexTables", spec := "alexTables", inPlace := ["maps.clone"], unfollowed := true, recurses := true, plainKeys := false, apart := false }
def AlexTablesSaid : Prop := alexTablesRow.holds Try.pinned (OpenSpec.ofChange alexTablesSpec)

/-- ITS FALSE NEIGHBOUR: 'it returns false'. Refute it at one input. -/
def alexTablesWrong : ChangeSpec := { name := "alexTables", fn := fun _ => fun
  | [d] => { results := [.lit (.bool false)], args := [d] }
  | _ => none }
def AlexTablesWrongFalsely : Prop := alexTablesRow.holds Try.pinned (OpenSpec.ofChange alexTablesWrong)

/-- 'knotworklaw.AlexTells': WHATEVER THE INPUT: true; the input reads as it did. -/
def alexTellsSpec : ChangeSpec := { name := "alexTells", fn := fun _ => fun
  | [d] => { results := [.lit (.bool true)], args := [d] }
  | _ => none }
def alexTellsRow : OpenClaim := { program := "ytkcighnochjlgaa", sum := "8051dba54682e335e0b82a5e23b4a6ae3391af9c096b2b3a8c4eec93db5de35c", func := "knotwork/knotworklaw.AlexTells", spec := "alexTells", inPlace := ["maps.clone"], unfollowed := true, recurses := true, plainKeys := false, apart := false }
def AlexTellsSaid : Prop := alexTellsRow.holds Try.pinned (OpenSpec.ofChange alexTellsSpec)

/-- ITS FALSE NEIGHBOUR: 'it returns false'. Refute it at one input. -/
def alexTellsWrong : ChangeSpec := { name := "alexTells", fn := fun _ => fun
  | [d] => { results := [.lit (.bool false)], args := [d] }
  | _ => none }
def AlexTellsWrongFalsely : Prop := alexTellsRow.holds Try.pinned (OpenSpec.ofChange alexTellsWrong)

/-- 'knotworklaw.ColourFox': WHATEVER THE INPUT: true; the input reads as it did. -/
def colourFoxSpec : ChangeSpec := { name := "colourFox", fn := fun _ => fun
  | [d1, d2] => { results := [.lit (.bool true)], args := [d1, d2] }
  | _ => none }
def colourFoxRow : OpenClaim := { program := "ytkcighnochjlgaa", sum := "8051dba54682e335e0b82a5e23b4a6ae3391af9c096b2b3a8c4eec93db5de35c", func := "knotwork/knotworklaw.ColourFox", spec := "colourFox", unfollowed := true, recurses := true, plainKeys := false, apart := false }
def ColourFoxSaid : Prop := colourFoxRow.holds Try.pinned (OpenSpec.ofChange colourFoxSpec)

/-- ITS FALSE NEIGHBOUR: 'it returns false'. Refute it at one input. -/
def colourFoxWrong : ChangeSpec := { name := "colourFox", fn := fun _ => fun
  | [d1, d2] => { results := [.lit (.bool false)], args := [d1, d2] }
  | _ => none }
def ColourFoxWrongFalsely : Prop := colourFoxRow.holds Try.pinned (OpenSpec.ofChange colourFoxWrong)

/-- 'knotworklaw.HomflyTurns': WHATEVER THE INPUT: true; the input reads as it did. -/
def homflyTurnsSpec : ChangeSpec := { name := "homflyTurns", fn := fun _ => fun
  | [d1, d2] => { results := [.lit (.bool true)], args := [d1, d2] }
  | _ => none }
def homflyTurnsRow : OpenClaim := { program := "ytkcighnochjlgaa", sum := "8051dba54682e335e0b82a5e23b4a6ae3391af9c096b2b3a8c4eec93db5de35c", func := "knotwork/knotworklaw.HomflyTurns", spec := "homflyTurns", unfollowed := true, recurses := true, plainKeys := false, apart := false }
def HomflyTurnsSaid : Prop := homflyTurnsRow.holds Try.pinned (OpenSpec.ofChange homflyTurnsSpec)

/-- ITS FALSE NEIGHBOUR: 'it returns false'. Refute it at one input. -/
def homflyTurnsWrong : ChangeSpec := { name := "homflyTurns", fn := fun _ => fun
  | [d1, d2] => { results := [.lit (.bool false)], args := [d1, d2] }
  | _ => none }
def HomflyTurnsWrongFalsely : Prop := homflyTurnsRow.holds Try.pinned (OpenSpec.ofChange homflyTurnsWrong)

/-- 'knotworklaw.ColourCounts': WHATEVER THE INPUT: true; the input reads as it did. -/
def colourCountsSpec : ChangeSpec := { name := "colourCounts", fn := fun _ => fun
  | [d1, d2] => { results := [.lit (.bool true)], args := [d1, d2] }
  | _ => none }
def colourCountsRow : OpenClaim := { program := "ytkcighnochjlgaa", sum := "8051dba54682e335e0b82a5e23b4a6ae3391af9c096b2b3a8c4eec93db5de35c", func := "knotwork/knotworklaw.ColourCounts", spec := "colourCounts", unfollowed := true, recurses := true, plainKeys := false, apart := false }
def ColourCountsSaid : Prop := colourCountsRow.holds Try.pinned (OpenSpec.ofChange colourCountsSpec)

/-- ITS FALSE NEIGHBOUR: 'it returns false'. Refute it at one input. -/
def colourCountsWrong : ChangeSpec := { name := "colourCounts", fn := fun _ => fun
  | [d1, d2] => { results := [.lit (.bool false)], args := [d1, d2] }
  | _ => none }
def ColourCountsWrongFalsely : Prop := colourCountsRow.holds Try.pinned (OpenSpec.ofChange colourCountsWrong)

/-- 'knotworklaw.SignShades': WHATEVER THE INPUT: true; the input reads as it did. -/
def signShadesSpec : ChangeSpec := { name := "signShades", fn := fun _ => fun
  | [d1, d2] => { results := [.lit (.bool true)], args := [d1, d2] }
  | _ => none }
def signShadesRow : OpenClaim := { program := "ytkcighnochjlgaa", sum := "8051dba54682e335e0b82a5e23b4a6ae3391af9c096b2b3a8c4eec93db5de35c", func := "knotwork/knotworklaw.SignShades", spec := "signShades", unfollowed := true, recurses := true, plainKeys := false, apart := false }
def SignShadesSaid : Prop := signShadesRow.holds Try.pinned (OpenSpec.ofChange signShadesSpec)

/-- ITS FALSE NEIGHBOUR: 'it returns false'. Refute it at one input. -/
def signShadesWrong : ChangeSpec := { name := "signShades", fn := fun _ => fun
  | [d1, d2] => { results := [.lit (.bool false)], args := [d1, d2] }
  | _ => none }
def SignShadesWrongFalsely : Prop := signShadesRow.holds Try.pinned (OpenSpec.ofChange signShadesWrong)

/- THE SECOND FORM. 'bulk': how many values and letters a reading holds, each counted each time it is reached (what is shared counts as often as it is met; a slice's spare places count too). A statement '..UptoSaid' is the law's where the arguments, and the package variables that the reading takes, are together of bulk at most 1048576: NARROWER than '..Said'. Prove '..Said' where nothing that the law and all that it calls make is longer than what came in: it says more and counts as full. Else prove '..UptoSaid'. A law counts once. -/
mutual
def uptoBulk {H : Type} : DataW H → Nat
  | .lit (.string bytes) => bytes.length + 1
  | .lit _ => 1
  | .nil => 1
  | .ptr d => uptoBulk d + 1
  | .slice elems spare => uptoBulkAll elems + uptoBulkAll spare + 1
  | .agg parts => uptoBulkAll parts + 1
  | .iface _ d => uptoBulk d + 1
  | .map entries => uptoBulkEntries entries + 1
  | .held _ => 1
def uptoBulkAll {H : Type} : List (DataW H) → Nat
  | [] => 0
  | d :: r => uptoBulk d + uptoBulkAll r
def uptoBulkEntries {H : Type} : List (Lit × DataW H) → Nat
  | [] => 0
  | x :: r => uptoBulkEntry x + uptoBulkEntries r
def uptoBulkEntry {H : Type} : Lit × DataW H → Nat
  | (.string bytes, d) => bytes.length + uptoBulk d + 1
  | (_, d) => uptoBulk d + 1
 end
def uptoSmall : (H : Type) → List (DataW H) → Bool := fun _ ds => decide (uptoBulkAll ds ≤ 1048576)
def OpenSpec.upto (s : _root_.Go.ChangeSpec) : _root_.Go.OpenSpec := { _root_.Go.OpenSpec.ofChange s with cond := some uptoSmall }

/-- 'knotworklaw.PolySums', WHERE WHAT IT READS IS OF BULK AT MOST 1048576: true; the input reads as it did. -/
def polySumsUptoRow : OpenClaim := { program := "ytkcighnochjlgaa", sum := "8051dba54682e335e0b82a5e23b4a6ae3391af9c096b2b3a8c4eec93db5de35c", func := "knotwork/knotworklaw.PolySums", spec := "polySums", inPlace := ["maps.clone"], unfollowed := true, recurses := true, plainKeys := false, apart := false, narrowed := true }
def PolySumsUptoSaid : Prop := polySumsUptoRow.holds Try.pinned (OpenSpec.upto polySumsSpec)

/-- 'knotworklaw.PolyTurns', WHERE WHAT IT READS IS OF BULK AT MOST 1048576: true; the input reads as it did. -/
def polyTurnsUptoRow : OpenClaim := { program := "ytkcighnochjlgaa", sum := "8051dba54682e335e0b82a5e23b4a6ae3391af9c096b2b3a8c4eec93db5de35c", func := "knotwork/knotworklaw.PolyTurns", spec := "polyTurns", unfollowed := true, recurses := true, plainKeys := false, apart := false, narrowed := true }
def PolyTurnsUptoSaid : Prop := polyTurnsUptoRow.holds Try.pinned (OpenSpec.upto polyTurnsSpec)

/-- 'knotworklaw.ClosureTables', WHERE WHAT IT READS IS OF BULK AT MOST 1048576: true; the input reads as it did. -/
def closureTablesUptoRow : OpenClaim := { program := "ytkcighnochjlgaa", sum := "8051dba54682e335e0b82a5e23b4a6ae3391af9c096b2b3a8c4eec93db5de35c", func := "knotwork/knotworklaw.ClosureTables", spec := "closureTables", inPlace := ["maps.clone"], unfollowed := true, recurses := true, plainKeys := false, apart := false, narrowed := true }
def ClosureTablesUptoSaid : Prop := closureTablesUptoRow.holds Try.pinned (OpenSpec.upto closureTablesSpec)

/-- 'knotworklaw.PolyTables', WHERE WHAT IT READS IS OF BULK AT MOST 1048576: true; the input reads as it did. -/
def polyTablesUptoRow : OpenClaim := { program := "ytkcighnochjlgaa", sum := "8051dba54682e335e0b82a5e23b4a6ae3391af9c096b2b3a8c4eec93db5de35c", func := "knotwork/knotworklaw.PolyTables", spec := "polyTables", inPlace := ["maps.clone"], unfollowed := true, recurses := true, plainKeys := false, apart := false, narrowed := true }
def PolyTablesUptoSaid : Prop := polyTablesUptoRow.holds Try.pinned (OpenSpec.upto polyTablesSpec)

/-- 'knotworklaw.AlexTables', WHERE WHAT IT READS IS OF BULK AT MOST 1048576: true; the input reads as it did. -/
def alexTablesUptoRow : OpenClaim := { program := "ytkcighnochjlgaa", sum := "8051dba54682e335e0b82a5e23b4a6ae3391af9c096b2b3a8c4eec93db5de35c", func := "knotwork/knotworklaw.AlexTables", spec := "alexTables", inPlace := ["maps.clone"], unfollowed := true, recurses := true, plainKeys := false, apart := false, narrowed := true }
def AlexTablesUptoSaid : Prop := alexTablesUptoRow.holds Try.pinned (OpenSpec.upto alexTablesSpec)

/-- 'knotworklaw.AlexTells', WHERE WHAT IT READS IS OF BULK AT MOST 1048576: true; the input reads as it did. -/
def alexTellsUptoRow : OpenClaim := { program := "ytkcighnochjlgaa", sum := "8051dba54682e335e0b82a5e23b4a6ae3391af9c096b2b3a8c4eec93db5de35c", func := "knotwork/knotworklaw.AlexTells", spec := "alexTells", inPlace := ["maps.clone"], unfollowed := true, recurses := true, plainKeys := false, apart := false, narrowed := true }
def AlexTellsUptoSaid : Prop := alexTellsUptoRow.holds Try.pinned (OpenSpec.upto alexTellsSpec)

/-- 'knotworklaw.ColourFox', WHERE WHAT IT READS IS OF BULK AT MOST 1048576: true; the input reads as it did. -/
def colourFoxUptoRow : OpenClaim := { program := "ytkcighnochjlgaa", sum := "8051dba54682e335e0b82a5e23b4a6ae3391af9c096b2b3a8c4eec93db5de35c", func := "knotwork/knotworklaw.ColourFox", spec := "colourFox", unfollowed := true, recurses := true, plainKeys := false, apart := false, narrowed := true }
def ColourFoxUptoSaid : Prop := colourFoxUptoRow.holds Try.pinned (OpenSpec.upto colourFoxSpec)

/-- 'knotworklaw.HomflyTurns', WHERE WHAT IT READS IS OF BULK AT MOST 1048576: true; the input reads as it did. -/
def homflyTurnsUptoRow : OpenClaim := { program := "ytkcighnochjlgaa", sum := "8051dba54682e335e0b82a5e23b4a6ae3391af9c096b2b3a8c4eec93db5de35c", func := "knotwork/knotworklaw.HomflyTurns", spec := "homflyTurns", unfollowed := true, recurses := true, plainKeys := false, apart := false, narrowed := true }
def HomflyTurnsUptoSaid : Prop := homflyTurnsUptoRow.holds Try.pinned (OpenSpec.upto homflyTurnsSpec)

/-- 'knotworklaw.ColourCounts', WHERE WHAT IT READS IS OF BULK AT MOST 1048576: true; the input reads as it did. -/
def colourCountsUptoRow : OpenClaim := { program := "ytkcighnochjlgaa", sum := "8051dba54682e335e0b82a5e23b4a6ae3391af9c096b2b3a8c4eec93db5de35c", func := "knotwork/knotworklaw.ColourCounts", spec := "colourCounts", unfollowed := true, recurses := true, plainKeys := false, apart := false, narrowed := true }
def ColourCountsUptoSaid : Prop := colourCountsUptoRow.holds Try.pinned (OpenSpec.upto colourCountsSpec)

/-- 'knotworklaw.SignShades', WHERE WHAT IT READS IS OF BULK AT MOST 1048576: true; the input reads as it did. -/
def signShadesUptoRow : OpenClaim := { program := "ytkcighnochjlgaa", sum := "8051dba54682e335e0b82a5e23b4a6ae3391af9c096b2b3a8c4eec93db5de35c", func := "knotwork/knotworklaw.SignShades", spec := "signShades", unfollowed := true, recurses := true, plainKeys := false, apart := false, narrowed := true }
def SignShadesUptoSaid : Prop := signShadesUptoRow.holds Try.pinned (OpenSpec.upto signShadesSpec)

end Rows
end Go.Proofs.Ytkcighnochjlgaa
