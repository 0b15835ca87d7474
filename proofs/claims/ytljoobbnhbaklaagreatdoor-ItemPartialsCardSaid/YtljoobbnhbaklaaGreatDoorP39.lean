/- ItemPartials, one part of the proof: PartWitA. -/
import Derived.Test.YtljoobbnhbaklaaGreatDoorRows
import Derived.ProofKit
import Derived.LaidMore
import Derived.OpenShut
import Derived.Stop.Joined
import Derived.Lay
import Derived.Carry
set_option linter.all false
set_option maxRecDepth 100000
set_option maxHeartbeats 16000000
namespace Go.Proofs.YtljoobbnhbaklaaGreatDoor
open Go Go.ChangeShapes Go.WideShapes Go.ChangeAt Go.WideMaps Go.WideElems Go.RowKit
abbrev propLaid : List (String × DataW Unit) := Rows.itemPartialsRow.laid
noncomputable abbrev witW (os : Os) : World := (World.laidAll Tryz.prog os propLaid).forCall (fun _ _ => 0) ⟨#[], #[.slice none 0 0, .agg #[.int .i64 0, .int .i64 0], .int .i64 0], []⟩
theorem wit_zip (os : Os) : (witW os).variablesZipB Tryz.prog = true := by kernel_rfl
end Go.Proofs.YtljoobbnhbaklaaGreatDoor
