/-
  DERIVED. GIVEN WITH THE SEED: THE CARDS: each row of YtklcecpjgingpaaDoorRows.lean that lists a variable, with what it lists TIED to the program's text (the seventh form; the later family's looks); each row that meets fmt, with fmt's text TOLD by the authors' own Lean function (tested against real Go, not proved from fmt's source: count such statements apart). THE CARD IS WHAT COUNTS. Prove the row's statement (the work); the ties are given (YtklcecpjgingpaaDoorTie.lean); close each card by the builder's one call (the guide's Derived/Test/ToyasCard.lean, 'card_holds'). Laid BY PROGRAM, IN A SANDBOX (cutbox-door.mjs). By AI agents, Wed Nov 11 2026. No macro, syntax, notation, axiom, sorry.
-/
import Derived.Test.YtklcecpjgingpaaDoorRows
import GoSem.ClaimSeven
namespace Go.Proofs.YtklcecpjgingpaaDoor
namespace Rows

/-- THE TIED CARD OF 'knotworklaw.PolyReads'. -/
def polyReadsCard : Claim7 := { stood := { row := polyReadsRow, standIns := [], harness := (true, "c55e4ea568c9eee97985937ab927335e46c8ee229c4941e0cfc400de07e047d2"), looks := true }, kinds := [], alts := [], laidByText := true, laidKinds := [.data, .data, .data, .data, .sentinel, .sentinel, .pinned], laidTests := true, laidLooks := .later }
def PolyReadsCardSaid : Prop := Claim7.holds Tryd.pinned (.plain (OpenSpec.ofChange polyReadsSpec)) polyReadsCard

/-- THE TIED CARD OF 'knotworklaw.CodeReads'. -/
def codeReadsCard : Claim7 := { stood := { row := codeReadsRow, standIns := [], harness := (true, "c55e4ea568c9eee97985937ab927335e46c8ee229c4941e0cfc400de07e047d2"), looks := true }, kinds := [], alts := [], laidByText := true, laidKinds := [.data, .data, .data, .data, .sentinel, .sentinel, .pinned], laidTests := true, laidLooks := .later }
def CodeReadsCardSaid : Prop := Claim7.holds Tryd.pinned (.plain (OpenSpec.ofChange codeReadsSpec)) codeReadsCard

/-- THE SECOND FORM's CARD OF 'knotworklaw.PolyReads'. -/
def polyReadsUptoCard : Claim7 := { stood := { row := polyReadsUptoRow, standIns := [], harness := (true, "c55e4ea568c9eee97985937ab927335e46c8ee229c4941e0cfc400de07e047d2"), looks := true }, kinds := [], alts := [], laidByText := true, laidKinds := [.data, .data, .data, .data, .sentinel, .sentinel, .pinned], laidTests := true, laidLooks := .later }
def PolyReadsUptoCardSaid : Prop := Claim7.holds Tryd.pinned (.plain (OpenSpec.upto polyReadsSpec)) polyReadsUptoCard

/-- THE SECOND FORM's CARD OF 'knotworklaw.CodeReads'. -/
def codeReadsUptoCard : Claim7 := { stood := { row := codeReadsUptoRow, standIns := [], harness := (true, "c55e4ea568c9eee97985937ab927335e46c8ee229c4941e0cfc400de07e047d2"), looks := true }, kinds := [], alts := [], laidByText := true, laidKinds := [.data, .data, .data, .data, .sentinel, .sentinel, .pinned], laidTests := true, laidLooks := .later }
def CodeReadsUptoCardSaid : Prop := Claim7.holds Tryd.pinned (.plain (OpenSpec.upto codeReadsSpec)) codeReadsUptoCard
end Rows
end Go.Proofs.YtklcecpjgingpaaDoor
