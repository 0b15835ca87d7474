/-
  DERIVED. GIVEN WITH THE SEED: THE CARDS: each row of YthbmgkbfmddhnaaGreatDoorRows.lean that lists a variable, with what it lists TIED to the program's text (the seventh form; the later family's looks); each row that meets fmt, with fmt's text TOLD by the authors' own Lean function (tested against real Go, not proved from fmt's source: count such statements apart). THE CARD IS WHAT COUNTS. Prove the row's statement (the work); the ties are given (YthbmgkbfmddhnaaGreatDoorTie.lean); close each card by the builder's one call (the guide's Derived/Test/ToyasCard.lean, 'card_holds'). Laid BY PROGRAM, IN A SANDBOX (cutbox-door.mjs). By AI agents, Wed Nov 11 2026. No macro, syntax, notation, axiom, sorry.
-/
import Derived.Test.YthbmgkbfmddhnaaGreatDoorRows
import GoSem.ClaimSeven
namespace Go.Proofs.YthbmgkbfmddhnaaGreatDoor
namespace Rows

/-- THE TIED CARD OF 'concordlaw28.PipelineNil'. -/
def pipelineNilCard : Claim7 := { stood := { row := pipelineNilRow, standIns := [], harness := (true, "c31bfb8b34ef59ed8332334313b98450dcf24e2c48864d2638e57934d7e4732a"), looks := true }, kinds := [], alts := [], laidByText := true, laidKinds := [.data, .data, .data, .data, .pinned, .data, .pinned, .sentinel, .sentinel, .data], laidTests := true, laidLooks := .later }
def PipelineNilCardSaid : Prop := Claim7.holds Tryz.pinned (.plain (OpenSpec.ofChange pipelineNilSpec)) pipelineNilCard

/-- THE SECOND FORM's CARD OF 'concordlaw28.PipelineNil'. -/
def pipelineNilUptoCard : Claim7 := { stood := { row := pipelineNilUptoRow, standIns := [], harness := (true, "c31bfb8b34ef59ed8332334313b98450dcf24e2c48864d2638e57934d7e4732a"), looks := true }, kinds := [], alts := [], laidByText := true, laidKinds := [.data, .data, .data, .data, .pinned, .data, .pinned, .sentinel, .sentinel, .data], laidTests := true, laidLooks := .later }
def PipelineNilUptoCardSaid : Prop := Claim7.holds Tryz.pinned (.plain (OpenSpec.upto pipelineNilSpec)) pipelineNilUptoCard
end Rows
end Go.Proofs.YthbmgkbfmddhnaaGreatDoor
