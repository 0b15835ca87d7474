/- ItemPartials, one part of the proof: PartJf3. -/
import Derived.Test.YtljoobbnhbaklaaGreatDoorRows
set_option linter.all false
set_option maxRecDepth 100000
set_option maxHeartbeats 16000000
namespace Go.Proofs.YtljoobbnhbaklaaGreatDoor
open Go
theorem jf_rec : Tryz.prog.recurses 3 = Rows.itemPartialsRow.recurses := by kernel_rfl
end Go.Proofs.YtljoobbnhbaklaaGreatDoor
