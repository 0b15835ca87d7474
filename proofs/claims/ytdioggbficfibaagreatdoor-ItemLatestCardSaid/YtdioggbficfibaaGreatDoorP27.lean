/- ItemLatest, one part of the proof. -/
import Derived.Test.YtdioggbficfibaaGreatDoorRows
import Derived.Test.YtdioggbficfibaaGreatDoorP00
set_option linter.all false
set_option maxRecDepth 100000
set_option maxHeartbeats 16000000
namespace Go.Proofs.YtdioggbficfibaaGreatDoor
open Go Go.Proofs.Tryz
theorem aC':prog.recurses 3=Rows.itemLatestRow.recurses:=by kernel_rfl
end Go.Proofs.YtdioggbficfibaaGreatDoor
