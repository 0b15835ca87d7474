/- ItemInForce, one part of the proof. -/
import Derived.Test.YtdhifebhlocikaaGreatDoorP21
set_option linter.all false
set_option maxRecDepth 100000
set_option maxHeartbeats 16000000
namespace Go.Proofs.YtdhifebhlocikaaGreatDoor
open Go Go.Proofs.Tryz Go.ChangeShapes Go.WideShapes Go.ChangeAt Go.WideMaps Go.WideElems Go.RowKit
def aL_(os:Os):(World.holding prog os ⟨#[],#[],[]⟩).layFits prog sG []=true:=by kernel_rfl
def aL'(os:Os):(World.holding prog os ⟨#[],#[],[]⟩).layIfaces prog sG (World.laidAll prog os sG)=true:=by kernel_rfl
def asV:(laidMetH prog sG=laidMet prog sG):=by funext W;rw[MakeChecks.laidMetH_plain _ _ _ (by kernel_rfl)]
end Go.Proofs.YtdhifebhlocikaaGreatDoor
