/-
  Types of each rule of a sample, worked out by the kernel.
-/
import Derived.Test.YthbmgkbfmddhnaaGreatDoorSmp
set_option linter.all false
namespace Go.EvNil
open Go Go.Ev Go.Proofs
set_option maxRecDepth 100000
theorem ty1 : tyAll sm1 = true := by kernel_rfl

end Go.EvNil
