/- ConflictAuthors: one part of the proof. -/
import Derived.Test.YtfgcglgpfgifkaaGreatDoorRows
import Derived.ProofKit
import Derived.LaidMore
import Derived.OpenShut
import Derived.Stop.Joined
import Derived.Lay
import Derived.Carry
set_option linter.all false
namespace Go.Proofs.YtfgcglgpfgifkaaGreatDoor
open Go Go.ChangeShapes Go.WideShapes Go.ChangeAt Go.WideMaps Go.WideElems Go.RowKit
set_option maxRecDepth 100000
abbrev propLaid : List (String × DataW Unit) := Rows.conflictAuthorsRow.laid
noncomputable abbrev witW (os : Os) : World := (World.laidAll Tryz.prog os propLaid).forCall (fun _ _ => 0) ⟨#[], #[.slice none 0 0, .slice none 0 0, .slice none 0 0], []⟩
theorem wit_zip (os : Os) : (witW os).variablesZipB Tryz.prog = true := by kernel_rfl
end Go.Proofs.YtfgcglgpfgifkaaGreatDoor
