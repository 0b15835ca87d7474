/- ItemLatest, one part of the proof. -/
import Derived.Test.YtdioggbficfibaaGreatDoorP20
set_option linter.all false
set_option maxRecDepth 100000
set_option maxHeartbeats 16000000
namespace Go.Proofs.YtdioggbficfibaaGreatDoor
open Go Go.Proofs.Tryz Go.ChangeShapes Go.WideShapes Go.ChangeAt Go.WideMaps Go.WideElems Go.RowKit
theorem aLD{aw:Type}(enc:TypeId×Value→aw)(os:Os):Rows.itemLatestSpec.preB enc prog f3 [] false (QP os).memory #[.slice none 0 0,.slice none 0 0] 8=true:=by kernel_rfl
theorem aLF{aw:Type}(enc:TypeId×Value→aw)(os:Os):Rows.itemLatestSpec.sizedB enc prog f3 false (QP os).memory #[.slice none 0 0,.slice none 0 0] 8=true:=by kernel_rfl
end Go.Proofs.YtdioggbficfibaaGreatDoor
