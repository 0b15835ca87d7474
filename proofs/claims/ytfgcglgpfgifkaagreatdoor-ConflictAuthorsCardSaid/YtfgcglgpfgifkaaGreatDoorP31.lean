/- ConflictAuthors: one part of the proof. -/
import Derived.Test.YtfgcglgpfgifkaaGreatDoorRows
import GoSem.ClaimSeven
set_option linter.all false
namespace Go.Proofs.YtfgcglgpfgifkaaGreatDoor
open Go
set_option maxRecDepth 100000
theorem cf_looks : true = Tryz.prog.looks [] := by kernel_rfl
end Go.Proofs.YtfgcglgpfgifkaaGreatDoor
