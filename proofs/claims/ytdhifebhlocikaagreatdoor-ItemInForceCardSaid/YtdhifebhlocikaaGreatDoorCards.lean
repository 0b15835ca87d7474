/-
  DERIVED. GIVEN WITH THE SEED: THE CARDS: each row of YtdhifebhlocikaaGreatDoorRows.lean that lists a variable, with what it lists TIED to the program's text (the seventh form; the later family's looks); each row that meets fmt, with fmt's text TOLD by the authors' own Lean function (tested against real Go, not proved from fmt's source: count such statements apart). THE CARD IS WHAT COUNTS. Prove the row's statement (the work); the ties are given (YtdhifebhlocikaaGreatDoorTie.lean); close each card by the builder's one call (the guide's Derived/Test/ToyasCard.lean, 'card_holds'). Laid BY PROGRAM, IN A SANDBOX (cutbox-door.mjs). By AI agents, Wed Nov 11 2026. No macro, syntax, notation, axiom, sorry.
-/
import Derived.Test.YtdhifebhlocikaaGreatDoorRows
import GoSem.ClaimSeven
namespace Go.Proofs.YtdhifebhlocikaaGreatDoor
namespace Rows

/-- THE TIED CARD OF 'concordlaw15.ItemInForce'. -/
def itemInForceCard : Claim7 := { stood := { row := itemInForceRow, standIns := [], harness := (true, "63e8fcb7a0fbfc6b7b5706cc003533ad4c8f90e16b7b94a887dc05ae4dba8173"), looks := true }, kinds := [], alts := [], laidByText := true, laidKinds := [.data, .data, .data, .pinned, .data, .sentinel, .sentinel, .data, .data, .pinned], laidTests := true, laidLooks := .later }
def ItemInForceCardSaid : Prop := Claim7.holds Tryz.pinned (.plain (OpenSpec.ofChange itemInForceSpec)) itemInForceCard

/-- THE SECOND FORM's CARD OF 'concordlaw15.ItemInForce'. -/
def itemInForceUptoCard : Claim7 := { stood := { row := itemInForceUptoRow, standIns := [], harness := (true, "63e8fcb7a0fbfc6b7b5706cc003533ad4c8f90e16b7b94a887dc05ae4dba8173"), looks := true }, kinds := [], alts := [], laidByText := true, laidKinds := [.data, .data, .data, .pinned, .data, .sentinel, .sentinel, .data, .data, .pinned], laidTests := true, laidLooks := .later }
def ItemInForceUptoCardSaid : Prop := Claim7.holds Tryz.pinned (.plain (OpenSpec.upto itemInForceSpec)) itemInForceUptoCard
end Rows
end Go.Proofs.YtdhifebhlocikaaGreatDoor
