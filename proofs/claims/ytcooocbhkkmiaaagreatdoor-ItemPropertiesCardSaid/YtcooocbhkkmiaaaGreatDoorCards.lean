/-
  DERIVED. GIVEN WITH THE SEED: THE CARDS: each row of YtcooocbhkkmiaaaGreatDoorRows.lean that lists a variable, with what it lists TIED to the program's text (the seventh form; the later family's looks); each row that meets fmt, with fmt's text TOLD by the authors' own Lean function (tested against real Go, not proved from fmt's source: count such statements apart). THE CARD IS WHAT COUNTS. Prove the row's statement (the work); the ties are given (YtcooocbhkkmiaaaGreatDoorTie.lean); close each card by the builder's one call (the guide's Derived/Test/ToyasCard.lean, 'card_holds'). Laid BY PROGRAM, IN A SANDBOX (cutbox-door.mjs). By AI agents, Wed Nov 11 2026. No macro, syntax, notation, axiom, sorry.
-/
import Derived.Test.YtcooocbhkkmiaaaGreatDoorRows
import GoSem.ClaimSeven
namespace Go.Proofs.YtcooocbhkkmiaaaGreatDoor
namespace Rows

/-- THE TIED CARD OF 'concordlaw15.ItemProperties'. -/
def itemPropertiesCard : Claim7 := { stood := { row := itemPropertiesRow, standIns := [], harness := (true, "a70f39bbca027655b7db46f5699c8a9450c94f7bc0d2229e9761fddaa7b33072"), looks := true }, kinds := [], alts := [], laidByText := true, laidKinds := [.data, .data, .data, .data, .sentinel, .sentinel, .data, .data, .pinned, .pinned], laidTests := true, laidLooks := .later }
def ItemPropertiesCardSaid : Prop := Claim7.holds Tryz.pinned (.plain (OpenSpec.ofChange itemPropertiesSpec)) itemPropertiesCard

/-- THE SECOND FORM's CARD OF 'concordlaw15.ItemProperties'. -/
def itemPropertiesUptoCard : Claim7 := { stood := { row := itemPropertiesUptoRow, standIns := [], harness := (true, "a70f39bbca027655b7db46f5699c8a9450c94f7bc0d2229e9761fddaa7b33072"), looks := true }, kinds := [], alts := [], laidByText := true, laidKinds := [.data, .data, .data, .data, .sentinel, .sentinel, .data, .data, .pinned, .pinned], laidTests := true, laidLooks := .later }
def ItemPropertiesUptoCardSaid : Prop := Claim7.holds Tryz.pinned (.plain (OpenSpec.upto itemPropertiesSpec)) itemPropertiesUptoCard
end Rows
end Go.Proofs.YtcooocbhkkmiaaaGreatDoor
