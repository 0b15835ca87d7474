/-
  One input that fits exists: closed facts on the world in which the listed variables are laid.
-/
import Derived.Test.YthbmgkbfmddhnaaGreatDoorRows
import Derived.ProofKit
import Derived.LaidMore
import Derived.OpenShut
import Derived.Stop.Joined
import Derived.Lay
import Derived.Carry
set_option linter.all false
namespace Go.Proofs.YthbmgkbfmddhnaaGreatDoor
open Go Go.ChangeShapes Go.WideShapes Go.ChangeAt Go.WideMaps Go.WideElems Go.RowKit
set_option maxRecDepth 100000
abbrev nilLaid : List (String × DataW Unit) := Rows.pipelineNilRow.laid
noncomputable abbrev witW (os : Os) : World := (World.laidAll Tryz.prog os nilLaid).forCall (fun _ _ => 0) ⟨#[], #[.int .i64 0, .slice none 0 0, .slice none 0 0], []⟩
theorem wit_zip (os : Os) : (witW os).variablesZipB Tryz.prog = true := by kernel_rfl
end Go.Proofs.YthbmgkbfmddhnaaGreatDoor
