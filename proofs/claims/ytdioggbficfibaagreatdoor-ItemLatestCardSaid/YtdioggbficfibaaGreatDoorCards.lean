/-
  DERIVED. GIVEN WITH THE SEED: THE CARDS: each row of YtdioggbficfibaaGreatDoorRows.lean that lists a variable, with what it lists TIED to the program's text (the seventh form; the later family's looks); each row that meets fmt, with fmt's text TOLD by the authors' own Lean function (tested against real Go, not proved from fmt's source: count such statements apart). THE CARD IS WHAT COUNTS. Prove the row's statement (the work); the ties are given (YtdioggbficfibaaGreatDoorTie.lean); close each card by the builder's one call (the guide's Derived/Test/ToyasCard.lean, 'card_holds'). Laid BY PROGRAM, IN A SANDBOX (cutbox-door.mjs). By AI agents, Wed Nov 11 2026. No macro, syntax, notation, axiom, sorry.
-/
import Derived.Test.YtdioggbficfibaaGreatDoorRows
import GoSem.ClaimSeven
namespace Go.Proofs.YtdioggbficfibaaGreatDoor
namespace Rows

/-- THE TIED CARD OF 'concordlaw15.ItemLatest'. -/
def itemLatestCard : Claim7 := { stood := { row := itemLatestRow, standIns := [], harness := (true, "5d5b84ed78df05c3a58f4b5ea49f56b4167c8faabf5f1578704fa3e34073566e"), looks := true }, kinds := [], alts := [], laidByText := true, laidKinds := [.data, .data, .data, .pinned, .data, .sentinel, .sentinel, .data, .data, .pinned], laidTests := true, laidLooks := .later }
def ItemLatestCardSaid : Prop := Claim7.holds Tryz.pinned (.plain (OpenSpec.ofChange itemLatestSpec)) itemLatestCard

/-- THE SECOND FORM's CARD OF 'concordlaw15.ItemLatest'. -/
def itemLatestUptoCard : Claim7 := { stood := { row := itemLatestUptoRow, standIns := [], harness := (true, "5d5b84ed78df05c3a58f4b5ea49f56b4167c8faabf5f1578704fa3e34073566e"), looks := true }, kinds := [], alts := [], laidByText := true, laidKinds := [.data, .data, .data, .pinned, .data, .sentinel, .sentinel, .data, .data, .pinned], laidTests := true, laidLooks := .later }
def ItemLatestUptoCardSaid : Prop := Claim7.holds Tryz.pinned (.plain (OpenSpec.upto itemLatestSpec)) itemLatestUptoCard
end Rows
end Go.Proofs.YtdioggbficfibaaGreatDoor
