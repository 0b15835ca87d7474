/-
  Types of each rule of a sample, worked out by the kernel.
-/
import Derived.Test.YthbmgkbfmddhnaaGreatDoorSmp
set_option linter.all false
namespace Go.EvNil
open Go Go.Ev Go.Proofs
set_option maxRecDepth 100000
theorem ty0 : tyAll sm0 = true := by kernel_rfl
theorem base_run : baseChk ((envK Tryz.prog ext tabT.find 300).call 9 [.nilslice] (putL ⟨.e, 13⟩ [])) = true := by kernel_rfl
end Go.EvNil
