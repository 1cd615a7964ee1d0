/-
  DERIVED. GIVEN WITH THE SEED: THE CARDS: each row of YtcohmplpgcddiaaGreatDoorRows.lean that lists a variable, with what it lists TIED to the program's text (the seventh form; the later family's looks); each row that meets fmt, with fmt's text TOLD by the authors' own Lean function (tested against real Go, not proved from fmt's source: count such statements apart). THE CARD IS WHAT COUNTS. Prove the row's statement (the work); the ties are given (YtcohmplpgcddiaaGreatDoorTie.lean); close each card by the builder's one call (the guide's Derived/Test/ToyasCard.lean, 'card_holds'). Laid BY PROGRAM, IN A SANDBOX (cutbox-door.mjs). By AI agents, Wed Nov 11 2026. No macro, syntax, notation, axiom, sorry.
-/
import Derived.Test.YtcohmplpgcddiaaGreatDoorRows
import GoSem.ClaimSeven
namespace Go.Proofs.YtcohmplpgcddiaaGreatDoor
namespace Rows

/-- THE TIED CARD OF 'knotworklaw.TableSeeks'. -/
def tableSeeksCard : Claim7 := { stood := { row := tableSeeksRow, standIns := [], harness := (true, "3f9a5de4f556fca22d6aa1ae895bcebd15692d4a40870ab53c513f9767fe658d"), looks := true }, kinds := [], alts := [], laidByText := true, laidKinds := [.data, .data, .data], laidTests := true, laidLooks := .later }
def TableSeeksCardSaid : Prop := Claim7.holds Tryz.pinned (.plain (OpenSpec.ofChange tableSeeksSpec)) tableSeeksCard

/-- THE SECOND FORM's CARD OF 'knotworklaw.TableSeeks'. -/
def tableSeeksUptoCard : Claim7 := { stood := { row := tableSeeksUptoRow, standIns := [], harness := (true, "3f9a5de4f556fca22d6aa1ae895bcebd15692d4a40870ab53c513f9767fe658d"), looks := true }, kinds := [], alts := [], laidByText := true, laidKinds := [.data, .data, .data], laidTests := true, laidLooks := .later }
def TableSeeksUptoCardSaid : Prop := Claim7.holds Tryz.pinned (.plain (OpenSpec.upto tableSeeksSpec)) tableSeeksUptoCard
end Rows
end Go.Proofs.YtcohmplpgcddiaaGreatDoor
