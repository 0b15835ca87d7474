/-
  A closed fact of the row: what the function comes to.
-/
import Derived.Test.YthbmgkbfmddhnaaGreatDoorRows
set_option linter.all false
namespace Go.Proofs.YthbmgkbfmddhnaaGreatDoor
open Go
set_option maxRecDepth 100000
theorem jf_unf : Tryz.prog.unfollowed 3 = Rows.pipelineNilRow.unfollowed := by kernel_rfl
end Go.Proofs.YthbmgkbfmddhnaaGreatDoor
