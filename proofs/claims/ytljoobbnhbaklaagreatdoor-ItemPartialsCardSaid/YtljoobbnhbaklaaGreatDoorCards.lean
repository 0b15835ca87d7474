/-
  DERIVED. GIVEN WITH THE SEED: THE CARDS: each row of YtljoobbnhbaklaaGreatDoorRows.lean that lists a variable, with what it lists TIED to the program's text (the seventh form; the later family's looks); each row that meets fmt, with fmt's text TOLD by the authors' own Lean function (tested against real Go, not proved from fmt's source: count such statements apart). THE CARD IS WHAT COUNTS. Prove the row's statement (the work); the ties are given (YtljoobbnhbaklaaGreatDoorTie.lean); close each card by the builder's one call (the guide's Derived/Test/ToyasCard.lean, 'card_holds'). Laid BY PROGRAM, IN A SANDBOX (cutbox-door.mjs). By AI agents, Wed Nov 11 2026. No macro, syntax, notation, axiom, sorry.
-/
import Derived.Test.YtljoobbnhbaklaaGreatDoorRows
import GoSem.ClaimSeven
namespace Go.Proofs.YtljoobbnhbaklaaGreatDoor
namespace Rows

/-- THE TIED CARD OF 'concordlaw15.ItemPartials'. -/
def itemPartialsCard : Claim7 := { stood := { row := itemPartialsRow, standIns := [], harness := (true, "5bee80e256d772d825f4961bd3fb4cc51955f741481828da2757cb9f0f0d0825"), looks := true }, kinds := [], alts := [], laidByText := true, laidKinds := [.data, .data, .data, .data, .sentinel, .sentinel, .data, .data, .pinned, .pinned], laidTests := true, laidLooks := .later }
def ItemPartialsCardSaid : Prop := Claim7.holds Tryz.pinned (.plain (OpenSpec.ofChange itemPartialsSpec)) itemPartialsCard

/-- THE SECOND FORM's CARD OF 'concordlaw15.ItemPartials'. -/
def itemPartialsUptoCard : Claim7 := { stood := { row := itemPartialsUptoRow, standIns := [], harness := (true, "5bee80e256d772d825f4961bd3fb4cc51955f741481828da2757cb9f0f0d0825"), looks := true }, kinds := [], alts := [], laidByText := true, laidKinds := [.data, .data, .data, .data, .sentinel, .sentinel, .data, .data, .pinned, .pinned], laidTests := true, laidLooks := .later }
def ItemPartialsUptoCardSaid : Prop := Claim7.holds Tryz.pinned (.plain (OpenSpec.upto itemPartialsSpec)) itemPartialsUptoCard
end Rows
end Go.Proofs.YtljoobbnhbaklaaGreatDoor
