/-
  DERIVED. GIVEN WITH THE SEED: THE CARDS: each row of YtfgcglgpfgifkaaGreatDoorRows.lean that lists a variable, with what it lists TIED to the program's text (the seventh form; the later family's looks); each row that meets fmt, with fmt's text TOLD by the authors' own Lean function (tested against real Go, not proved from fmt's source: count such statements apart). THE CARD IS WHAT COUNTS. Prove the row's statement (the work); the ties are given (YtfgcglgpfgifkaaGreatDoorTie.lean); close each card by the builder's one call (the guide's Derived/Test/ToyasCard.lean, 'card_holds'). Laid BY PROGRAM, IN A SANDBOX (cutbox-door.mjs). By AI agents, Wed Nov 11 2026. No macro, syntax, notation, axiom, sorry.
-/
import Derived.Test.YtfgcglgpfgifkaaGreatDoorRows
import GoSem.ClaimSeven
namespace Go.Proofs.YtfgcglgpfgifkaaGreatDoor
namespace Rows

/-- THE TIED CARD OF 'concordlaw24.ConflictAuthors'. -/
def conflictAuthorsCard : Claim7 := { stood := { row := conflictAuthorsRow, standIns := [], harness := (true, "7e28a275747fccb118d9c27246ccb44bcc60bf1229e768a522db06ecbaeec249"), looks := true }, kinds := [], alts := [], laidByText := true, laidKinds := [.data, .data, .data, .data, .pinned, .data, .pinned, .sentinel, .sentinel, .data], laidTests := true, laidLooks := .later }
def ConflictAuthorsCardSaid : Prop := Claim7.holds Tryz.pinned (.plain (OpenSpec.ofChange conflictAuthorsSpec)) conflictAuthorsCard

/-- THE SECOND FORM's CARD OF 'concordlaw24.ConflictAuthors'. -/
def conflictAuthorsUptoCard : Claim7 := { stood := { row := conflictAuthorsUptoRow, standIns := [], harness := (true, "7e28a275747fccb118d9c27246ccb44bcc60bf1229e768a522db06ecbaeec249"), looks := true }, kinds := [], alts := [], laidByText := true, laidKinds := [.data, .data, .data, .data, .pinned, .data, .pinned, .sentinel, .sentinel, .data], laidTests := true, laidLooks := .later }
def ConflictAuthorsUptoCardSaid : Prop := Claim7.holds Tryz.pinned (.plain (OpenSpec.upto conflictAuthorsSpec)) conflictAuthorsUptoCard
end Rows
end Go.Proofs.YtfgcglgpfgifkaaGreatDoor
