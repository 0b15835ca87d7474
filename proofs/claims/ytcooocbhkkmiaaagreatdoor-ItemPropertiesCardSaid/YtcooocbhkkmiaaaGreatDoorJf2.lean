/-
  A closed fact of the row: what the function comes to.
-/
import Derived.Test.YtcooocbhkkmiaaaGreatDoorRows
set_option linter.all false
namespace Go.Proofs.YtcooocbhkkmiaaaGreatDoor
open Go
set_option maxRecDepth 100000
theorem jf_unf : Tryz.prog.unfollowed 3 = Rows.itemPropertiesRow.unfollowed := by kernel_rfl
end Go.Proofs.YtcooocbhkkmiaaaGreatDoor
