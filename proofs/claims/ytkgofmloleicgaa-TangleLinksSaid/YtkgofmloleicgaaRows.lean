/-
  No cell of these rows narrows 'for every input' (looked for: loops, veiled, ifaces, maps, wideKeys, modest, calm, conditions, laid).
  DERIVED. THE GIVEN ROWS OF THIS SEAT. 4 by the template 'for every input the law returns true; each argument reads behind the call as it read before'; 0 by the template 'total and deterministic' (their statements: YtkgofmloleicgaaTotals.lean).
  GIVEN WITH THE SEED: the statements are not yours to turn. If you find one false, say at which input.
  Laid BY PROGRAM, IN A SANDBOX (cutbox-rows.mjs): the forced cells as the released guide's own fill.sh prints them over the translation 4bf2d70eda986479… (all of the seat's roots in one cut). By AI agents, Wed Nov 11 2026. No macro, syntax, notation, axiom, sorry.
-/
import Derived.Test.YtkgofmloleicgaaChecked
import GoSem.Claim
import GoSem.ClaimJoined
import GoSem.ClaimMapViews
import Derived.JoinedTies
import Derived.KernelRfl
namespace Go.Proofs.Ytkgofmloleicgaa
/- THE CELL 'sum', in the pinned program and in every row, IS THE sha256 OF THE DUMP (.gsa) THAT YtkgofmloleicgaaProg.lean LOADS. Nothing in Lean hashes anything: it is a label: what it is worth is what the hold of that sum in a sandbox is worth. -/
noncomputable def Try.pinned : Pinned := { name := "ytkgofmloleicgaa", sum := "4bf2d70eda9864794d4ef7f5c56f646d71e070993dc7fb8b00220e04821f5b5f", checked := Try.checked }
namespace Rows
def none {H : Type} : Left H := { results := [], args := [] }

/-- 'knotworklaw.TangleSame': WHATEVER THE INPUT: true; the input reads as it did. -/
def tangleSameSpec : ChangeSpec := { name := "tangleSame", fn := fun _ => fun
  | [d1, d2, d3, d4] => { results := [.lit (.bool true)], args := [d1, d2, d3, d4] }
  | _ => none }
def tangleSameRow : OpenClaim := { program := "ytkgofmloleicgaa", sum := "4bf2d70eda9864794d4ef7f5c56f646d71e070993dc7fb8b00220e04821f5b5f", func := "knotwork/knotworklaw.TangleSame", spec := "tangleSame", plainKeys := false, apart := false }
def TangleSameSaid : Prop := tangleSameRow.holds Try.pinned (OpenSpec.ofChange tangleSameSpec)

/-- ITS FALSE NEIGHBOUR: 'it returns false'. Refute it at one input. -/
def tangleSameWrong : ChangeSpec := { name := "tangleSame", fn := fun _ => fun
  | [d1, d2, d3, d4] => { results := [.lit (.bool false)], args := [d1, d2, d3, d4] }
  | _ => none }
def TangleSameWrongFalsely : Prop := tangleSameRow.holds Try.pinned (OpenSpec.ofChange tangleSameWrong)

/-- 'knotworklaw.TangleExpands': WHATEVER THE INPUT: true; the input reads as it did. -/
def tangleExpandsSpec : ChangeSpec := { name := "tangleExpands", fn := fun _ => fun
  | [d1, d2] => { results := [.lit (.bool true)], args := [d1, d2] }
  | _ => none }
def tangleExpandsRow : OpenClaim := { program := "ytkgofmloleicgaa", sum := "4bf2d70eda9864794d4ef7f5c56f646d71e070993dc7fb8b00220e04821f5b5f", func := "knotwork/knotworklaw.TangleExpands", spec := "tangleExpands", plainKeys := false, apart := false }
def TangleExpandsSaid : Prop := tangleExpandsRow.holds Try.pinned (OpenSpec.ofChange tangleExpandsSpec)

/-- ITS FALSE NEIGHBOUR: 'it returns false'. Refute it at one input. -/
def tangleExpandsWrong : ChangeSpec := { name := "tangleExpands", fn := fun _ => fun
  | [d1, d2] => { results := [.lit (.bool false)], args := [d1, d2] }
  | _ => none }
def TangleExpandsWrongFalsely : Prop := tangleExpandsRow.holds Try.pinned (OpenSpec.ofChange tangleExpandsWrong)

/-- 'knotworklaw.TangleFractions': WHATEVER THE INPUT: true; the input reads as it did. -/
def tangleFractionsSpec : ChangeSpec := { name := "tangleFractions", fn := fun _ => fun
  | [d] => { results := [.lit (.bool true)], args := [d] }
  | _ => none }
def tangleFractionsRow : OpenClaim := { program := "ytkgofmloleicgaa", sum := "4bf2d70eda9864794d4ef7f5c56f646d71e070993dc7fb8b00220e04821f5b5f", func := "knotwork/knotworklaw.TangleFractions", spec := "tangleFractions", plainKeys := false, apart := false }
def TangleFractionsSaid : Prop := tangleFractionsRow.holds Try.pinned (OpenSpec.ofChange tangleFractionsSpec)

/-- ITS FALSE NEIGHBOUR: 'it returns false'. Refute it at one input. -/
def tangleFractionsWrong : ChangeSpec := { name := "tangleFractions", fn := fun _ => fun
  | [d] => { results := [.lit (.bool false)], args := [d] }
  | _ => none }
def TangleFractionsWrongFalsely : Prop := tangleFractionsRow.holds Try.pinned (OpenSpec.ofChange tangleFractionsWrong)

/-- 'knotworklaw.TangleLinks': WHATEVER THE INPUT: true; the input reads as it did. -/
def tangleLinksSpec : ChangeSpec := { name := "tangleLinks", fn := fun _ => fun
  | [d] => { results := [.lit (.bool true)], args := [d] }
  | _ => none }
def tangleLinksRow : OpenClaim := { program := "ytkgofmloleicgaa", sum := "4bf2d70eda9864794d4ef7f5c56f646d71e070993dc7fb8b00220e04821f5b5f", func := "knotwork/knotworklaw.TangleLinks", spec := "tangleLinks", unfollowed := true, recurses := true, plainKeys := false, apart := false }
def TangleLinksSaid : Prop := tangleLinksRow.holds Try.pinned (OpenSpec.ofChange tangleLinksSpec)

/-- ITS FALSE NEIGHBOUR: 'it returns false'. Refute it at one input. -/
def tangleLinksWrong : ChangeSpec := { name := "tangleLinks", fn := fun _ => fun
  | [d] => { results := [.lit (.bool false)], args := [d] }
  | _ => none }
def TangleLinksWrongFalsely : Prop := tangleLinksRow.holds Try.pinned (OpenSpec.ofChange tangleLinksWrong)

/- THE SECOND FORM. 'bulk': how many values and letters a reading holds, each counted each time it is reached (what is shared counts as often as it is met; a slice's spare places count too). A statement '..UptoSaid' is the law's where the arguments, and the package variables that the reading takes, are together of bulk at most 1048576: NARROWER than '..Said'. Prove '..Said' where nothing that the law and all that it calls make is longer than what came in: it says more and counts as full. Else prove '..UptoSaid'. A law counts once. -/
mutual
def uptoBulk {H : Type} : DataW H → Nat
  | .lit (.string bytes) => bytes.length + 1
  | .lit _ => 1
  | .nil => 1
  | .ptr d => uptoBulk d + 1
  | .slice elems spare => uptoBulkAll elems + uptoBulkAll spare + 1
  | .agg parts => uptoBulkAll parts + 1
  | .iface _ d => uptoBulk d + 1
  | .map entries => uptoBulkEntries entries + 1
  | .held _ => 1
def uptoBulkAll {H : Type} : List (DataW H) → Nat
  | [] => 0
  | d :: r => uptoBulk d + uptoBulkAll r
def uptoBulkEntries {H : Type} : List (Lit × DataW H) → Nat
  | [] => 0
  | x :: r => uptoBulkEntry x + uptoBulkEntries r
def uptoBulkEntry {H : Type} : Lit × DataW H → Nat
  | (.string bytes, d) => bytes.length + uptoBulk d + 1
  | (_, d) => uptoBulk d + 1
 end
def uptoSmall : (H : Type) → List (DataW H) → Bool := fun _ ds => decide (uptoBulkAll ds ≤ 1048576)
def OpenSpec.upto (s : _root_.Go.ChangeSpec) : _root_.Go.OpenSpec := { _root_.Go.OpenSpec.ofChange s with cond := some uptoSmall }

/-- 'knotworklaw.TangleSame', WHERE WHAT IT READS IS OF BULK AT MOST 1048576: true; the input reads as it did. -/
def tangleSameUptoRow : OpenClaim := { program := "ytkgofmloleicgaa", sum := "4bf2d70eda9864794d4ef7f5c56f646d71e070993dc7fb8b00220e04821f5b5f", func := "knotwork/knotworklaw.TangleSame", spec := "tangleSame", plainKeys := false, apart := false, narrowed := true }
def TangleSameUptoSaid : Prop := tangleSameUptoRow.holds Try.pinned (OpenSpec.upto tangleSameSpec)

/-- 'knotworklaw.TangleExpands', WHERE WHAT IT READS IS OF BULK AT MOST 1048576: true; the input reads as it did. -/
def tangleExpandsUptoRow : OpenClaim := { program := "ytkgofmloleicgaa", sum := "4bf2d70eda9864794d4ef7f5c56f646d71e070993dc7fb8b00220e04821f5b5f", func := "knotwork/knotworklaw.TangleExpands", spec := "tangleExpands", plainKeys := false, apart := false, narrowed := true }
def TangleExpandsUptoSaid : Prop := tangleExpandsUptoRow.holds Try.pinned (OpenSpec.upto tangleExpandsSpec)

/-- 'knotworklaw.TangleFractions', WHERE WHAT IT READS IS OF BULK AT MOST 1048576: true; the input reads as it did. -/
def tangleFractionsUptoRow : OpenClaim := { program := "ytkgofmloleicgaa", sum := "4bf2d70eda9864794d4ef7f5c56f646d71e070993dc7fb8b00220e04821f5b5f", func := "knotwork/knotworklaw.TangleFractions", spec := "tangleFractions", plainKeys := false, apart := false, narrowed := true }
def TangleFractionsUptoSaid : Prop := tangleFractionsUptoRow.holds Try.pinned (OpenSpec.upto tangleFractionsSpec)

/-- 'knotworklaw.TangleLinks', WHERE WHAT IT READS IS OF BULK AT MOST 1048576: true; the input reads as it did. -/
def tangleLinksUptoRow : OpenClaim := { program := "ytkgofmloleicgaa", sum := "4bf2d70eda9864794d4ef7f5c56f646d71e070993dc7fb8b00220e04821f5b5f", func := "knotwork/knotworklaw.TangleLinks", spec := "tangleLinks", unfollowed := true, recurses := true, plainKeys := false, apart := false, narrowed := true }
def TangleLinksUptoSaid : Prop := tangleLinksUptoRow.holds Try.pinned (OpenSpec.upto tangleLinksSpec)

end Rows
end Go.Proofs.Ytkgofmloleicgaa
