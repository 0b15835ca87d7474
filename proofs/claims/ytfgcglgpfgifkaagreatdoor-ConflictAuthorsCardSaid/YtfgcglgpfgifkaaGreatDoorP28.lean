/- ConflictAuthors: one part of the proof. -/
import Derived.Test.YtfgcglgpfgifkaaGreatDoorRows
import Derived.Test.YtfgcglgpfgifkaaGreatDoorP25
set_option linter.all false
namespace Go.Proofs.YtfgcglgpfgifkaaGreatDoor
open Go
set_option maxRecDepth 100000
theorem jf_rec : Tryz.prog.recurses 3 = Rows.conflictAuthorsRow.recurses := by
  simp only [Program.recurses, Program.unfollowed, Program.closure, clo_eq, fN]
  kernel_rfl
end Go.Proofs.YtfgcglgpfgifkaaGreatDoor
