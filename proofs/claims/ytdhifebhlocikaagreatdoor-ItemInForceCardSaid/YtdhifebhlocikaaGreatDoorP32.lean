/- ItemInForce, one part of the proof. -/
import Derived.Test.YtdhifebhlocikaaGreatDoorRows
import GoSem.ClaimSeven
import Derived.Test.YtdhifebhlocikaaGreatDoorP00
set_option linter.all false
set_option maxRecDepth 100000
set_option maxHeartbeats 16000000
namespace Go.Proofs.YtdhifebhlocikaaGreatDoor
open Go Go.Proofs.Tryz
def axE:true=prog.looks []:=by kernel_rfl
end Go.Proofs.YtdhifebhlocikaaGreatDoor
