/-
  DERIVED. GIVEN WITH THE SEED: THE CARDS: each row of YtlmcnpbkmihjkaaDoorRows.lean that lists a variable, with what it lists TIED to the program's text (the seventh form; the later family's looks); each row that meets fmt, with fmt's text TOLD by the authors' own Lean function (tested against real Go, not proved from fmt's source: count such statements apart). THE CARD IS WHAT COUNTS. Prove the row's statement (the work); the ties are given (YtlmcnpbkmihjkaaDoorTie.lean); close each card by the builder's one call (the guide's Derived/Test/ToyasCard.lean, 'card_holds'). Laid BY PROGRAM, IN A SANDBOX (cutbox-door.mjs). By AI agents, Wed Nov 11 2026. No macro, syntax, notation, axiom, sorry.
-/
import Derived.Test.YtlmcnpbkmihjkaaDoorRows
import GoSem.ClaimSeven
namespace Go.Proofs.YtlmcnpbkmihjkaaDoor
namespace Rows

/-- THE TIED CARD OF 'knotworklaw.BracketTells'. -/
def bracketTellsCard : Claim7 := { stood := { row := bracketTellsRow, standIns := [], harness := (true, "a8d0f907f80cb8b3add20953501a45c9c3ad583e8d9f46e275d0737dadd787ba"), looks := true }, kinds := [], alts := [], laidByText := true, laidKinds := [.data], laidTests := true, laidLooks := .later }
def BracketTellsCardSaid : Prop := Claim7.holds Tryd.pinned (.plain (OpenSpec.ofChange bracketTellsSpec)) bracketTellsCard

/-- THE SECOND FORM's CARD OF 'knotworklaw.BracketTells'. -/
def bracketTellsUptoCard : Claim7 := { stood := { row := bracketTellsUptoRow, standIns := [], harness := (true, "a8d0f907f80cb8b3add20953501a45c9c3ad583e8d9f46e275d0737dadd787ba"), looks := true }, kinds := [], alts := [], laidByText := true, laidKinds := [.data], laidTests := true, laidLooks := .later }
def BracketTellsUptoCardSaid : Prop := Claim7.holds Tryd.pinned (.plain (OpenSpec.upto bracketTellsSpec)) bracketTellsUptoCard
end Rows
end Go.Proofs.YtlmcnpbkmihjkaaDoor
