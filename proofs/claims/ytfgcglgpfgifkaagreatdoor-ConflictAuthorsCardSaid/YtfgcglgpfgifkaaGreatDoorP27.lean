/- ConflictAuthors: one part of the proof. -/
import Derived.Test.YtfgcglgpfgifkaaGreatDoorRows
import Derived.Test.YtfgcglgpfgifkaaGreatDoorP25
set_option linter.all false
namespace Go.Proofs.YtfgcglgpfgifkaaGreatDoor
open Go
set_option maxRecDepth 100000
theorem jf_unf : Tryz.prog.unfollowed 3 = Rows.conflictAuthorsRow.unfollowed := by
  simp only [Program.unfollowed, Program.closure, clo_eq, fN]
  kernel_rfl
end Go.Proofs.YtfgcglgpfgifkaaGreatDoor
