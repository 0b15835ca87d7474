/-
  A closed fact of the card.
-/
import Derived.Test.YthbmgkbfmddhnaaGreatDoorRows
import GoSem.ClaimSeven
set_option linter.all false
namespace Go.Proofs.YthbmgkbfmddhnaaGreatDoor
open Go
set_option maxRecDepth 100000
theorem cf_looks : true = Tryz.prog.looks [] := by kernel_rfl
end Go.Proofs.YthbmgkbfmddhnaaGreatDoor
