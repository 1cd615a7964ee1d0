/-
  No cell of these rows narrows 'for every input' (looked for: loops, veiled, ifaces, maps, wideKeys, modest, calm, conditions, laid).
  DERIVED. THE GIVEN ROWS OF THIS SEAT. 9 by the template 'for every input the law returns true; each argument reads behind the call as it read before'; 0 by the template 'total and deterministic' (their statements: YtlbpgnimpcflaaaTotals.lean).
  GIVEN WITH THE SEED: the statements are not yours to turn. If you find one false, say at which input.
  Laid BY PROGRAM, IN A SANDBOX (cutbox-rows.mjs): the forced cells as the released guide's own fill.sh prints them over the translation 6944f38debfaa895… (all of the seat's roots in one cut). By AI agents, Wed Nov 11 2026. No macro, syntax, notation, axiom, sorry.
-/
import Derived.Test.YtlbpgnimpcflaaaChecked
import GoSem.Claim
import GoSem.ClaimJoined
import GoSem.ClaimMapViews
import Derived.JoinedTies
import Derived.KernelRfl
namespace Go.Proofs.Ytlbpgnimpcflaaa
/- THE CELL 'sum', in the pinned program and in every row, IS THE sha256 OF THE DUMP (.gsa) THAT YtlbpgnimpcflaaaProg.lean LOADS. Nothing in Lean hashes anything: it is a label: what it is worth is what the hold of that sum in a sandbox is worth. -/
noncomputable def Try.pinned : Pinned := { name := "ytlbpgnimpcflaaa", sum := "6944f38debfaa895df1ba85fe0347586fd70687fac51259bae788dfb719ffe92", checked := Try.checked }
namespace Rows
def none {H : Type} : Left H := { results := [], args := [] }

/-- 'knotworklaw.GaussBuilds': WHATEVER THE INPUT: true; the input reads as it did. -/
def gaussBuildsSpec : ChangeSpec := { name := "gaussBuilds", fn := fun _ => fun
  | [d1, d2, d3] => { results := [.lit (.bool true)], args := [d1, d2, d3] }
  | _ => none }
def gaussBuildsRow : OpenClaim := { program := "ytlbpgnimpcflaaa", sum := "6944f38debfaa895df1ba85fe0347586fd70687fac51259bae788dfb719ffe92", func := "knotwork/knotworklaw.GaussBuilds", spec := "gaussBuilds", plainKeys := false, apart := false }
def GaussBuildsSaid : Prop := gaussBuildsRow.holds Try.pinned (OpenSpec.ofChange gaussBuildsSpec)

/-- ITS FALSE NEIGHBOUR: 'it returns false'. Refute it at one input. -/
def gaussBuildsWrong : ChangeSpec := { name := "gaussBuilds", fn := fun _ => fun
  | [d1, d2, d3] => { results := [.lit (.bool false)], args := [d1, d2, d3] }
  | _ => none }
def GaussBuildsWrongFalsely : Prop := gaussBuildsRow.holds Try.pinned (OpenSpec.ofChange gaussBuildsWrong)

/-- 'knotworklaw.CanonSums': WHATEVER THE INPUT: true; the input reads as it did. -/
def canonSumsSpec : ChangeSpec := { name := "canonSums", fn := fun _ => fun
  | [d1, d2, d3, d4] => { results := [.lit (.bool true)], args := [d1, d2, d3, d4] }
  | _ => none }
def canonSumsRow : OpenClaim := { program := "ytlbpgnimpcflaaa", sum := "6944f38debfaa895df1ba85fe0347586fd70687fac51259bae788dfb719ffe92", func := "knotwork/knotworklaw.CanonSums", spec := "canonSums", plainKeys := false, apart := false }
def CanonSumsSaid : Prop := canonSumsRow.holds Try.pinned (OpenSpec.ofChange canonSumsSpec)

/-- ITS FALSE NEIGHBOUR: 'it returns false'. Refute it at one input. -/
def canonSumsWrong : ChangeSpec := { name := "canonSums", fn := fun _ => fun
  | [d1, d2, d3, d4] => { results := [.lit (.bool false)], args := [d1, d2, d3, d4] }
  | _ => none }
def CanonSumsWrongFalsely : Prop := canonSumsRow.holds Try.pinned (OpenSpec.ofChange canonSumsWrong)

/-- 'knotworklaw.GaussTells': WHATEVER THE INPUT: true; the input reads as it did. -/
def gaussTellsSpec : ChangeSpec := { name := "gaussTells", fn := fun _ => fun
  | [d] => { results := [.lit (.bool true)], args := [d] }
  | _ => none }
def gaussTellsRow : OpenClaim := { program := "ytlbpgnimpcflaaa", sum := "6944f38debfaa895df1ba85fe0347586fd70687fac51259bae788dfb719ffe92", func := "knotwork/knotworklaw.GaussTells", spec := "gaussTells", unfollowed := true, recurses := true, plainKeys := false, apart := false }
def GaussTellsSaid : Prop := gaussTellsRow.holds Try.pinned (OpenSpec.ofChange gaussTellsSpec)

/-- ITS FALSE NEIGHBOUR: 'it returns false'. Refute it at one input. -/
def gaussTellsWrong : ChangeSpec := { name := "gaussTells", fn := fun _ => fun
  | [d] => { results := [.lit (.bool false)], args := [d] }
  | _ => none }
def GaussTellsWrongFalsely : Prop := gaussTellsRow.holds Try.pinned (OpenSpec.ofChange gaussTellsWrong)

/-- 'knotworklaw.GaussDowker': WHATEVER THE INPUT: true; the input reads as it did. -/
def gaussDowkerSpec : ChangeSpec := { name := "gaussDowker", fn := fun _ => fun
  | [d] => { results := [.lit (.bool true)], args := [d] }
  | _ => none }
def gaussDowkerRow : OpenClaim := { program := "ytlbpgnimpcflaaa", sum := "6944f38debfaa895df1ba85fe0347586fd70687fac51259bae788dfb719ffe92", func := "knotwork/knotworklaw.GaussDowker", spec := "gaussDowker", unfollowed := true, recurses := true, plainKeys := false, apart := false }
def GaussDowkerSaid : Prop := gaussDowkerRow.holds Try.pinned (OpenSpec.ofChange gaussDowkerSpec)

/-- ITS FALSE NEIGHBOUR: 'it returns false'. Refute it at one input. -/
def gaussDowkerWrong : ChangeSpec := { name := "gaussDowker", fn := fun _ => fun
  | [d] => { results := [.lit (.bool false)], args := [d] }
  | _ => none }
def GaussDowkerWrongFalsely : Prop := gaussDowkerRow.holds Try.pinned (OpenSpec.ofChange gaussDowkerWrong)

/-- 'knotworklaw.CanonTurns': WHATEVER THE INPUT: true; the input reads as it did. -/
def canonTurnsSpec : ChangeSpec := { name := "canonTurns", fn := fun _ => fun
  | [d1, d2] => { results := [.lit (.bool true)], args := [d1, d2] }
  | _ => none }
def canonTurnsRow : OpenClaim := { program := "ytlbpgnimpcflaaa", sum := "6944f38debfaa895df1ba85fe0347586fd70687fac51259bae788dfb719ffe92", func := "knotwork/knotworklaw.CanonTurns", spec := "canonTurns", unfollowed := true, recurses := true, plainKeys := false, apart := false }
def CanonTurnsSaid : Prop := canonTurnsRow.holds Try.pinned (OpenSpec.ofChange canonTurnsSpec)

/-- ITS FALSE NEIGHBOUR: 'it returns false'. Refute it at one input. -/
def canonTurnsWrong : ChangeSpec := { name := "canonTurns", fn := fun _ => fun
  | [d1, d2] => { results := [.lit (.bool false)], args := [d1, d2] }
  | _ => none }
def CanonTurnsWrongFalsely : Prop := canonTurnsRow.holds Try.pinned (OpenSpec.ofChange canonTurnsWrong)

/-- 'knotworklaw.CodeFaces': WHATEVER THE INPUT: true; the input reads as it did. -/
def codeFacesSpec : ChangeSpec := { name := "codeFaces", fn := fun _ => fun
  | [d] => { results := [.lit (.bool true)], args := [d] }
  | _ => none }
def codeFacesRow : OpenClaim := { program := "ytlbpgnimpcflaaa", sum := "6944f38debfaa895df1ba85fe0347586fd70687fac51259bae788dfb719ffe92", func := "knotwork/knotworklaw.CodeFaces", spec := "codeFaces", unfollowed := true, recurses := true, plainKeys := false, apart := false }
def CodeFacesSaid : Prop := codeFacesRow.holds Try.pinned (OpenSpec.ofChange codeFacesSpec)

/-- ITS FALSE NEIGHBOUR: 'it returns false'. Refute it at one input. -/
def codeFacesWrong : ChangeSpec := { name := "codeFaces", fn := fun _ => fun
  | [d] => { results := [.lit (.bool false)], args := [d] }
  | _ => none }
def CodeFacesWrongFalsely : Prop := codeFacesRow.holds Try.pinned (OpenSpec.ofChange codeFacesWrong)

/-- 'knotworklaw.ColourOvers': WHATEVER THE INPUT: true; the input reads as it did. -/
def colourOversSpec : ChangeSpec := { name := "colourOvers", fn := fun _ => fun
  | [d] => { results := [.lit (.bool true)], args := [d] }
  | _ => none }
def colourOversRow : OpenClaim := { program := "ytlbpgnimpcflaaa", sum := "6944f38debfaa895df1ba85fe0347586fd70687fac51259bae788dfb719ffe92", func := "knotwork/knotworklaw.ColourOvers", spec := "colourOvers", unfollowed := true, recurses := true, plainKeys := false, apart := false }
def ColourOversSaid : Prop := colourOversRow.holds Try.pinned (OpenSpec.ofChange colourOversSpec)

/-- ITS FALSE NEIGHBOUR: 'it returns false'. Refute it at one input. -/
def colourOversWrong : ChangeSpec := { name := "colourOvers", fn := fun _ => fun
  | [d] => { results := [.lit (.bool false)], args := [d] }
  | _ => none }
def ColourOversWrongFalsely : Prop := colourOversRow.holds Try.pinned (OpenSpec.ofChange colourOversWrong)

/-- 'knotworklaw.WindGenus': WHATEVER THE INPUT: true; the input reads as it did. -/
def windGenusSpec : ChangeSpec := { name := "windGenus", fn := fun _ => fun
  | [d] => { results := [.lit (.bool true)], args := [d] }
  | _ => none }
def windGenusRow : OpenClaim := { program := "ytlbpgnimpcflaaa", sum := "6944f38debfaa895df1ba85fe0347586fd70687fac51259bae788dfb719ffe92", func := "knotwork/knotworklaw.WindGenus", spec := "windGenus", unfollowed := true, recurses := true, plainKeys := false, apart := false }
def WindGenusSaid : Prop := windGenusRow.holds Try.pinned (OpenSpec.ofChange windGenusSpec)

/-- ITS FALSE NEIGHBOUR: 'it returns false'. Refute it at one input. -/
def windGenusWrong : ChangeSpec := { name := "windGenus", fn := fun _ => fun
  | [d] => { results := [.lit (.bool false)], args := [d] }
  | _ => none }
def WindGenusWrongFalsely : Prop := windGenusRow.holds Try.pinned (OpenSpec.ofChange windGenusWrong)

/-- 'knotworklaw.WindTells': WHATEVER THE INPUT: true; the input reads as it did. -/
def windTellsSpec : ChangeSpec := { name := "windTells", fn := fun _ => fun
  | [d] => { results := [.lit (.bool true)], args := [d] }
  | _ => none }
def windTellsRow : OpenClaim := { program := "ytlbpgnimpcflaaa", sum := "6944f38debfaa895df1ba85fe0347586fd70687fac51259bae788dfb719ffe92", func := "knotwork/knotworklaw.WindTells", spec := "windTells", unfollowed := true, recurses := true, plainKeys := false, apart := false }
def WindTellsSaid : Prop := windTellsRow.holds Try.pinned (OpenSpec.ofChange windTellsSpec)

/-- ITS FALSE NEIGHBOUR: 'it returns false'. Refute it at one input. -/
def windTellsWrong : ChangeSpec := { name := "windTells", fn := fun _ => fun
  | [d] => { results := [.lit (.bool false)], args := [d] }
  | _ => none }
def WindTellsWrongFalsely : Prop := windTellsRow.holds Try.pinned (OpenSpec.ofChange windTellsWrong)

/- THE SECOND FORM. 'bulk': how many values and letters a reading holds, each counted each time it is reached (what is shared counts as often as it is met; a slice's spare places count too). A statement '..UptoSaid' is the law's where the arguments, and the package variables that the reading takes, are together of bulk at most 1048576: NARROWER than '..Said'. Prove '..Said' where nothing that the law and all that it calls make is longer than what came in: it says more and counts as full. Else prove '..UptoSaid'. A law counts once. -/
mutual
def uptoBulk {H : Type} : DataW H → Nat
  | .lit (.string bytes) => bytes.length + 1
  | .lit _ => 1
  | .nil => 1
  | .ptr d => uptoBulk d + 1
  | .slice elems spare => uptoBulkAll elems + uptoBulkAll spare + 1
  | .agg parts => uptoBulkAll parts + 1
  | .iface _ d => uptoBulk d + 1
  | .map entries => uptoBulkEntries entries + 1
  | .held _ => 1
def uptoBulkAll {H : Type} : List (DataW H) → Nat
  | [] => 0
  | d :: r => uptoBulk d + uptoBulkAll r
def uptoBulkEntries {H : Type} : List (Lit × DataW H) → Nat
  | [] => 0
  | x :: r => uptoBulkEntry x + uptoBulkEntries r
def uptoBulkEntry {H : Type} : Lit × DataW H → Nat
  | (.string bytes, d) => bytes.length + uptoBulk d + 1
  | (_, d) => uptoBulk d + 1
 end
def uptoSmall : (H : Type) → List (DataW H) → Bool := fun _ ds => decide (uptoBulkAll ds ≤ 1048576)
def OpenSpec.upto (s : _root_.Go.ChangeSpec) : _root_.Go.OpenSpec := { _root_.Go.OpenSpec.ofChange s with cond := some uptoSmall }

/-- 'knotworklaw.GaussBuilds', WHERE WHAT IT READS IS OF BULK AT MOST 1048576: true; the input reads as it did. -/
def gaussBuildsUptoRow : OpenClaim := { program := "ytlbpgnimpcflaaa", sum := "6944f38debfaa895df1ba85fe0347586fd70687fac51259bae788dfb719ffe92", func := "knotwork/knotworklaw.GaussBuilds", spec := "gaussBuilds", plainKeys := false, apart := false, narrowed := true }
def GaussBuildsUptoSaid : Prop := gaussBuildsUptoRow.holds Try.pinned (OpenSpec.upto gaussBuildsSpec)

/-- 'knotworklaw.CanonSums', WHERE WHAT IT READS IS OF BULK AT MOST 1048576: true; the input reads as it did. -/
def canonSumsUptoRow : OpenClaim := { program := "ytlbpgnimpcflaaa", sum := "6944f38debfaa895df1ba85fe0347586fd70687fac51259bae788dfb719ffe92", func := "knotwork/knotworklaw.CanonSums", spec := "canonSums", plainKeys := false, apart := false, narrowed := true }
def CanonSumsUptoSaid : Prop := canonSumsUptoRow.holds Try.pinned (OpenSpec.upto canonSumsSpec)

/-- 'knotworklaw.GaussTells', WHERE WHAT IT READS IS OF BULK AT MOST 1048576: true; the input reads as it did. -/
def gaussTellsUptoRow : OpenClaim := { program := "ytlbpgnimpcflaaa", sum := "6944f38debfaa895df1ba85fe0347586fd70687fac51259bae788dfb719ffe92", func := "knotwork/knotworklaw.GaussTells", spec := "gaussTells", unfollowed := true, recurses := true, plainKeys := false, apart := false, narrowed := true }
def GaussTellsUptoSaid : Prop := gaussTellsUptoRow.holds Try.pinned (OpenSpec.upto gaussTellsSpec)

/-- 'knotworklaw.GaussDowker', WHERE WHAT IT READS IS OF BULK AT MOST 1048576: true; the input reads as it did. -/
def gaussDowkerUptoRow : OpenClaim := { program := "ytlbpgnimpcflaaa", sum := "6944f38debfaa895df1ba85fe0347586fd70687fac51259bae788dfb719ffe92", func := "knotwork/knotworklaw.GaussDowker", spec := "gaussDowker", unfollowed := true, recurses := true, plainKeys := false, apart := false, narrowed := true }
def GaussDowkerUptoSaid : Prop := gaussDowkerUptoRow.holds Try.pinned (OpenSpec.upto gaussDowkerSpec)

/-- 'knotworklaw.CanonTurns', WHERE WHAT IT READS IS OF BULK AT MOST 1048576: true; the input reads as it did. -/
def canonTurnsUptoRow : OpenClaim := { program := "ytlbpgnimpcflaaa", sum := "6944f38debfaa895df1ba85fe0347586fd70687fac51259bae788dfb719ffe92", func := "knotwork/knotworklaw.CanonTurns", spec := "canonTurns", unfollowed := true, recurses := true, plainKeys := false, apart := false, narrowed := true }
def CanonTurnsUptoSaid : Prop := canonTurnsUptoRow.holds Try.pinned (OpenSpec.upto canonTurnsSpec)

/-- 'knotworklaw.CodeFaces', WHERE WHAT IT READS IS OF BULK AT MOST 1048576: true; the input reads as it did. -/
def codeFacesUptoRow : OpenClaim := { program := "ytlbpgnimpcflaaa", sum := "6944f38debfaa895df1ba85fe0347586fd70687fac51259bae788dfb719ffe92", func := "knotwork/knotworklaw.CodeFaces", spec := "codeFaces", unfollowed := true, recurses := true, plainKeys := false, apart := false, narrowed := true }
def CodeFacesUptoSaid : Prop := codeFacesUptoRow.holds Try.pinned (OpenSpec.upto codeFacesSpec)

/-- 'knotworklaw.ColourOvers', WHERE WHAT IT READS IS OF BULK AT MOST 1048576: true; the input reads as it did. -/
def colourOversUptoRow : OpenClaim := { program := "ytlbpgnimpcflaaa", sum := "6944f38debfaa895df1ba85fe0347586fd70687fac51259bae788dfb719ffe92", func := "knotwork/knotworklaw.ColourOvers", spec := "colourOvers", unfollowed := true, recurses := true, plainKeys := false, apart := false, narrowed := true }
def ColourOversUptoSaid : Prop := colourOversUptoRow.holds Try.pinned (OpenSpec.upto colourOversSpec)

/-- 'knotworklaw.WindGenus', WHERE WHAT IT READS IS OF BULK AT MOST 1048576: true; the input reads as it did. -/
def windGenusUptoRow : OpenClaim := { program := "ytlbpgnimpcflaaa", sum := "6944f38debfaa895df1ba85fe0347586fd70687fac51259bae788dfb719ffe92", func := "knotwork/knotworklaw.WindGenus", spec := "windGenus", unfollowed := true, recurses := true, plainKeys := false, apart := false, narrowed := true }
def WindGenusUptoSaid : Prop := windGenusUptoRow.holds Try.pinned (OpenSpec.upto windGenusSpec)

/-- 'knotworklaw.WindTells', WHERE WHAT IT READS IS OF BULK AT MOST 1048576: true; the input reads as it did. -/
def windTellsUptoRow : OpenClaim := { program := "ytlbpgnimpcflaaa", sum := "6944f38debfaa895df1ba85fe0347586fd70687fac51259bae788dfb719ffe92", func := "knotwork/knotworklaw.WindTells", spec := "windTells", unfollowed := true, recurses := true, plainKeys := false, apart := false, narrowed := true }
def WindTellsUptoSaid : Prop := windTellsUptoRow.holds Try.pinned (OpenSpec.upto windTellsSpec)

end Rows
end Go.Proofs.Ytlbpgnimpcflaaa
