/- ConflictAuthors: one part of the proof. -/
import Derived.Test.YtfgcglgpfgifkaaGreatDoorP20
set_option linter.all false
namespace Go.Proofs.YtfgcglgpfgifkaaGreatDoor
open Go Go.ChangeShapes Go.WideShapes Go.ChangeAt Go.WideMaps Go.WideElems Go.RowKit
set_option maxRecDepth 100000
theorem wit_fits (os : Os) : (World.holding Tryz.prog os ⟨#[], #[], []⟩).layFits Tryz.prog propLaid [] = true := by kernel_rfl
theorem wit_ifaces (os : Os) : (World.holding Tryz.prog os ⟨#[], #[], []⟩).layIfaces Tryz.prog propLaid (World.laidAll Tryz.prog os propLaid) = true := by kernel_rfl
theorem wit_plain : (laidMetH Tryz.prog propLaid = laidMet Tryz.prog propLaid) := by funext W; rw [MakeChecks.laidMetH_plain _ _ _ (by kernel_rfl)]
end Go.Proofs.YtfgcglgpfgifkaaGreatDoor
