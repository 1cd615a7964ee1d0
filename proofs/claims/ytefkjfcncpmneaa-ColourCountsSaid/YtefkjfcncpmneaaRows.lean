/-
  No cell of these rows narrows 'for every input' (looked for: loops, veiled, ifaces, maps, wideKeys, modest, calm, conditions, laid).
  DERIVED. THE GIVEN ROWS OF THIS SEAT. 5 by the template 'for every input the law returns true; each argument reads behind the call as it read before'; 0 by the template 'total and deterministic' (their statements: YtefkjfcncpmneaaTotals.lean).
  GIVEN WITH THE SEED: the statements are not yours to turn. If you find one false, say at which input.
  Laid BY PROGRAM, IN A SANDBOX (cutbox-rows.mjs): the forced cells as the released guide's own fill.sh prints them over the translation 2a25b32f50f30670… (all of the seat's roots in one cut). By AI agents, Wed Nov 11 2026. No macro, syntax, notation, axiom, sorry.
-/
import Derived.Test.YtefkjfcncpmneaaChecked
import GoSem.Claim
import GoSem.ClaimJoined
import GoSem.ClaimMapViews
import Derived.JoinedTies
import Derived.KernelRfl
namespace Go.Proofs.Ytefkjfcncpmneaa
/- THE CELL 'sum', in the pinned program and in every row, IS THE sha256 OF THE DUMP (.gsa) THAT YtefkjfcncpmneaaProg.lean LOADS. Nothing in Lean hashes anything: it is a label: what it is worth is what the hold of that sum in a sandbox is worth. -/
noncomputable def Try.pinned : Pinned := { name := "ytefkjfcncpmneaa", sum := "2a25b32f50f306707990743b1bb53c366352fa0054a687a7cbf6da1abc28f8ea", checked := Try.checked }
namespace Rows
def none {H : Type} : Left H := { results := [], args := [] }

/-- 'knotworklaw.CanonForms': WHATEVER THE INPUT: true; the input reads as it did. -/
def canonFormsSpec : ChangeSpec := { name := "canonForms", fn := fun _ => fun
  | [d1, d2] => { results := [.lit (.bool true)], args := [d1, d2] }
  | _ => none }
def canonFormsRow : OpenClaim := { program := "ytefkjfcncpmneaa", sum := "2a25b32f50f306707990743b1bb53c366352fa0054a687a7cbf6da1abc28f8ea", func := "knotwork/knotworklaw.CanonForms", spec := "canonForms", unfollowed := true, recurses := true, plainKeys := false, apart := false }
def CanonFormsSaid : Prop := canonFormsRow.holds Try.pinned (OpenSpec.ofChange canonFormsSpec)

/-- ITS FALSE NEIGHBOUR: 'it returns false'. Refute it at one input. -/
def canonFormsWrong : ChangeSpec := { name := "canonForms", fn := fun _ => fun
  | [d1, d2] => { results := [.lit (.bool false)], args := [d1, d2] }
  | _ => none }
def CanonFormsWrongFalsely : Prop := canonFormsRow.holds Try.pinned (OpenSpec.ofChange canonFormsWrong)

/-- 'knotworklaw.BraidNormals': WHATEVER THE INPUT: true; the input reads as it did. -/
def braidNormalsSpec : ChangeSpec := { name := "braidNormals", fn := fun _ => fun
  | [d1, d2] => { results := [.lit (.bool true)], args := [d1, d2] }
  | _ => none }
def braidNormalsRow : OpenClaim := { program := "ytefkjfcncpmneaa", sum := "2a25b32f50f306707990743b1bb53c366352fa0054a687a7cbf6da1abc28f8ea", func := "knotwork/knotworklaw.BraidNormals", spec := "braidNormals", unfollowed := true, recurses := true, plainKeys := false, apart := false }
def BraidNormalsSaid : Prop := braidNormalsRow.holds Try.pinned (OpenSpec.ofChange braidNormalsSpec)

/-- ITS FALSE NEIGHBOUR: 'it returns false'. Refute it at one input. -/
def braidNormalsWrong : ChangeSpec := { name := "braidNormals", fn := fun _ => fun
  | [d1, d2] => { results := [.lit (.bool false)], args := [d1, d2] }
  | _ => none }
def BraidNormalsWrongFalsely : Prop := braidNormalsRow.holds Try.pinned (OpenSpec.ofChange braidNormalsWrong)

/-- 'knotworklaw.BraidEquals': WHATEVER THE INPUT: true; the input reads as it did. -/
def braidEqualsSpec : ChangeSpec := { name := "braidEquals", fn := fun _ => fun
  | [d1, d2, d3] => { results := [.lit (.bool true)], args := [d1, d2, d3] }
  | _ => none }
def braidEqualsRow : OpenClaim := { program := "ytefkjfcncpmneaa", sum := "2a25b32f50f306707990743b1bb53c366352fa0054a687a7cbf6da1abc28f8ea", func := "knotwork/knotworklaw.BraidEquals", spec := "braidEquals", unfollowed := true, recurses := true, plainKeys := false, apart := false }
def BraidEqualsSaid : Prop := braidEqualsRow.holds Try.pinned (OpenSpec.ofChange braidEqualsSpec)

/-- ITS FALSE NEIGHBOUR: 'it returns false'. Refute it at one input. -/
def braidEqualsWrong : ChangeSpec := { name := "braidEquals", fn := fun _ => fun
  | [d1, d2, d3] => { results := [.lit (.bool false)], args := [d1, d2, d3] }
  | _ => none }
def BraidEqualsWrongFalsely : Prop := braidEqualsRow.holds Try.pinned (OpenSpec.ofChange braidEqualsWrong)

/-- 'knotworklaw.TangleLinks': WHATEVER THE INPUT: true; the input reads as it did. -/
def tangleLinksSpec : ChangeSpec := { name := "tangleLinks", fn := fun _ => fun
  | [d] => { results := [.lit (.bool true)], args := [d] }
  | _ => none }
def tangleLinksRow : OpenClaim := { program := "ytefkjfcncpmneaa", sum := "2a25b32f50f306707990743b1bb53c366352fa0054a687a7cbf6da1abc28f8ea", func := "knotwork/knotworklaw.TangleLinks", spec := "tangleLinks", unfollowed := true, recurses := true, plainKeys := false, apart := false }
def TangleLinksSaid : Prop := tangleLinksRow.holds Try.pinned (OpenSpec.ofChange tangleLinksSpec)

/-- ITS FALSE NEIGHBOUR: 'it returns false'. Refute it at one input. -/
def tangleLinksWrong : ChangeSpec := { name := "tangleLinks", fn := fun _ => fun
  | [d] => { results := [.lit (.bool false)], args := [d] }
  | _ => none }
def TangleLinksWrongFalsely : Prop := tangleLinksRow.holds Try.pinned (OpenSpec.ofChange tangleLinksWrong)

/-- 'knotworklaw.ColourCounts': WHATEVER THE INPUT: true; the input reads as it did. -/
def colourCountsSpec : ChangeSpec := { name := "colourCounts", fn := fun _ => fun
  | [d1, d2] => { results := [.lit (.bool true)], args := [d1, d2] }
  | _ => none }
def colourCountsRow : OpenClaim := { program := "ytefkjfcncpmneaa", sum := "2a25b32f50f306707990743b1bb53c366352fa0054a687a7cbf6da1abc28f8ea", func := "knotwork/knotworklaw.ColourCounts", spec := "colourCounts", unfollowed := true, recurses := true, plainKeys := false, apart := false }
def ColourCountsSaid : Prop := colourCountsRow.holds Try.pinned (OpenSpec.ofChange colourCountsSpec)

/-- ITS FALSE NEIGHBOUR: 'it returns false'. Refute it at one input. -/
def colourCountsWrong : ChangeSpec := { name := "colourCounts", fn := fun _ => fun
  | [d1, d2] => { results := [.lit (.bool false)], args := [d1, d2] }
  | _ => none }
def ColourCountsWrongFalsely : Prop := colourCountsRow.holds Try.pinned (OpenSpec.ofChange colourCountsWrong)

/- THE SECOND FORM. 'bulk': how many values and letters a reading holds, each counted each time it is reached (what is shared counts as often as it is met; a slice's spare places count too). A statement '..UptoSaid' is the law's where the arguments, and the package variables that the reading takes, are together of bulk at most 1048576: NARROWER than '..Said'. Prove '..Said' where nothing that the law and all that it calls make is longer than what came in: it says more and counts as full. Else prove '..UptoSaid'. A law counts once. -/
mutual
def uptoBulk {H : Type} : DataW H → Nat
  | .lit (.string bytes) => bytes.length + 1
  | .lit _ => 1
  | .nil => 1
  | .ptr d => uptoBulk d + 1
  | .slice elems spare => uptoBulkAll elems + uptoBulkAll spare + 1
  | .agg parts => uptoBulkAll parts + 1
  | .iface _ d => uptoBulk d + 1
  | .map entries => uptoBulkEntries entries + 1
  | .held _ => 1
def uptoBulkAll {H : Type} : List (DataW H) → Nat
  | [] => 0
  | d :: r => uptoBulk d + uptoBulkAll r
def uptoBulkEntries {H : Type} : List (Lit × DataW H) → Nat
  | [] => 0
  | x :: r => uptoBulkEntry x + uptoBulkEntries r
def uptoBulkEntry {H : Type} : Lit × DataW H → Nat
  | (.string bytes, d) => bytes.length + uptoBulk d + 1
  | (_, d) => uptoBulk d + 1
 end
def uptoSmall : (H : Type) → List (DataW H) → Bool := fun _ ds => decide (uptoBulkAll ds ≤ 1048576)
def OpenSpec.upto (s : _root_.Go.ChangeSpec) : _root_.Go.OpenSpec := { _root_.Go.OpenSpec.ofChange s with cond := some uptoSmall }

/-- 'knotworklaw.CanonForms', WHERE WHAT IT READS IS OF BULK AT MOST 1048576: true; the input reads as it did. -/
def canonFormsUptoRow : OpenClaim := { program := "ytefkjfcncpmneaa", sum := "2a25b32f50f306707990743b1bb53c366352fa0054a687a7cbf6da1abc28f8ea", func := "knotwork/knotworklaw.CanonForms", spec := "canonForms", unfollowed := true, recurses := true, plainKeys := false, apart := false, narrowed := true }
def CanonFormsUptoSaid : Prop := canonFormsUptoRow.holds Try.pinned (OpenSpec.upto canonFormsSpec)

/-- 'knotworklaw.BraidNormals', WHERE WHAT IT READS IS OF BULK AT MOST 1048576: true; the input reads as it did. -/
def braidNormalsUptoRow : OpenClaim := { program := "ytefkjfcncpmneaa", sum := "2a25b32f50f306707990743b1bb53c366352fa0054a687a7cbf6da1abc28f8ea", func := "knotwork/knotworklaw.BraidNormals", spec := "braidNormals", unfollowed := true, recurses := true, plainKeys := false, apart := false, narrowed := true }
def BraidNormalsUptoSaid : Prop := braidNormalsUptoRow.holds Try.pinned (OpenSpec.upto braidNormalsSpec)

/-- 'knotworklaw.BraidEquals', WHERE WHAT IT READS IS OF BULK AT MOST 1048576: true; the input reads as it did. -/
def braidEqualsUptoRow : OpenClaim := { program := "ytefkjfcncpmneaa", sum := "2a25b32f50f306707990743b1bb53c366352fa0054a687a7cbf6da1abc28f8ea", func := "knotwork/knotworklaw.BraidEquals", spec := "braidEquals", unfollowed := true, recurses := true, plainKeys := false, apart := false, narrowed := true }
def BraidEqualsUptoSaid : Prop := braidEqualsUptoRow.holds Try.pinned (OpenSpec.upto braidEqualsSpec)

/-- 'knotworklaw.TangleLinks', WHERE WHAT IT READS IS OF BULK AT MOST 1048576: true; the input reads as it did. -/
def tangleLinksUptoRow : OpenClaim := { program := "ytefkjfcncpmneaa", sum := "2a25b32f50f306707990743b1bb53c366352fa0054a687a7cbf6da1abc28f8ea", func := "knotwork/knotworklaw.TangleLinks", spec := "tangleLinks", unfollowed := true, recurses := true, plainKeys := false, apart := false, narrowed := true }
def TangleLinksUptoSaid : Prop := tangleLinksUptoRow.holds Try.pinned (OpenSpec.upto tangleLinksSpec)

/-- 'knotworklaw.ColourCounts', WHERE WHAT IT READS IS OF BULK AT MOST 1048576: true; the input reads as it did. -/
def colourCountsUptoRow : OpenClaim := { program := "ytefkjfcncpmneaa", sum := "2a25b32f50f306707990743b1bb53c366352fa0054a687a7cbf6da1abc28f8ea", func := "knotwork/knotworklaw.ColourCounts", spec := "colourCounts", unfollowed := true, recurses := true, plainKeys := false, apart := false, narrowed := true }
def ColourCountsUptoSaid : Prop := colourCountsUptoRow.holds Try.pinned (OpenSpec.upto colourCountsSpec)

end Rows
end Go.Proofs.Ytefkjfcncpmneaa
