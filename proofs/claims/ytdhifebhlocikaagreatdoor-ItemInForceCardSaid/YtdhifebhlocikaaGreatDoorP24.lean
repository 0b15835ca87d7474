/- ItemInForce, one part of the proof. -/
import Derived.Test.YtdhifebhlocikaaGreatDoorP21
set_option linter.all false
set_option maxRecDepth 100000
set_option maxHeartbeats 16000000
namespace Go.Proofs.YtdhifebhlocikaaGreatDoor
open Go Go.Proofs.Tryz Go.ChangeShapes Go.WideShapes Go.ChangeAt Go.WideMaps Go.WideElems Go.RowKit
def aMb{ay:Type}(enc:TypeId×Φ→ay)(os:Os):Rows.itemInForceSpec.preB enc prog f3 [] false (QK os).memory #[.slice none 0 0,.slice none 0 0] 8=true:=by kernel_rfl
def aMd{ay:Type}(enc:TypeId×Φ→ay)(os:Os):Rows.itemInForceSpec.sizedB enc prog f3 false (QK os).memory #[.slice none 0 0,.slice none 0 0] 8=true:=by kernel_rfl
end Go.Proofs.YtdhifebhlocikaaGreatDoor
