/- ItemLatest, one part of the proof. -/
import Derived.Test.YtdioggbficfibaaGreatDoorP20
set_option linter.all false
set_option maxRecDepth 100000
set_option maxHeartbeats 16000000
namespace Go.Proofs.YtdioggbficfibaaGreatDoor
open Go Go.Proofs.Tryz Go.ChangeShapes Go.WideShapes Go.ChangeAt Go.WideMaps Go.WideElems Go.RowKit
theorem aLA(os:Os):(World.holding prog os ⟨#[],#[],[]⟩).layFits prog sa []=true:=by kernel_rfl
theorem aLB(os:Os):(World.holding prog os ⟨#[],#[],[]⟩).layIfaces prog sa (World.laidAll prog os sa)=true:=by kernel_rfl
theorem asw:(laidMetH prog sa=laidMet prog sa):=by funext W;rw[MakeChecks.laidMetH_plain _ _ _ (by kernel_rfl)]
end Go.Proofs.YtdioggbficfibaaGreatDoor
