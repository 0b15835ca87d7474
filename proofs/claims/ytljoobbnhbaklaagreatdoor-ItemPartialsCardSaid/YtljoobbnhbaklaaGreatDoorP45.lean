/- ItemPartials, one part of the proof: PartJf2. -/
import Derived.Test.YtljoobbnhbaklaaGreatDoorRows
set_option linter.all false
set_option maxRecDepth 100000
set_option maxHeartbeats 16000000
namespace Go.Proofs.YtljoobbnhbaklaaGreatDoor
open Go
theorem jf_unf : Tryz.prog.unfollowed 3 = Rows.itemPartialsRow.unfollowed := by kernel_rfl
end Go.Proofs.YtljoobbnhbaklaaGreatDoor
