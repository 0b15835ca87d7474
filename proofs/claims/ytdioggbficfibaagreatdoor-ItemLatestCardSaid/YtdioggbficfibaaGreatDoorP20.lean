/- ItemLatest, one part of the proof. -/
import Derived.Test.YtdioggbficfibaaGreatDoorRows
import Derived.ProofKit
import Derived.LaidMore
import Derived.OpenShut
import Derived.Stop.Joined
import Derived.Lay
import Derived.Carry
import Derived.Test.YtdioggbficfibaaGreatDoorP00
set_option linter.all false
set_option maxRecDepth 100000
set_option maxHeartbeats 16000000
namespace Go.Proofs.YtdioggbficfibaaGreatDoor
open Go Go.Proofs.Tryz Go.ChangeShapes Go.WideShapes Go.ChangeAt Go.WideMaps Go.WideElems Go.RowKit
abbrev sa:List (String×DataW Unit):=Rows.itemLatestRow.laid
noncomputable abbrev QP(os:Os):World:=(World.laidAll prog os sa).forCall (fun _ _=>0) ⟨#[],#[.slice none 0 0,.slice none 0 0],[]⟩
theorem aLG(os:Os):(QP os).variablesZipB prog=true:=by kernel_rfl
end Go.Proofs.YtdioggbficfibaaGreatDoor
