/-
  The closed run sanity() of law 28, over its parts.
-/
import Derived.Test.YthbmgkbfmddhnaaGreatDoorRun0
import Derived.Test.YthbmgkbfmddhnaaGreatDoorRun1
import Derived.Test.YthbmgkbfmddhnaaGreatDoorRun2
import Derived.Test.YthbmgkbfmddhnaaGreatDoorRun3
import Derived.Test.YthbmgkbfmddhnaaGreatDoorRun4
import Derived.Test.YthbmgkbfmddhnaaGreatDoorRun5
import Derived.Test.YthbmgkbfmddhnaaGreatDoorRun6
import Derived.Test.YthbmgkbfmddhnaaGreatDoorRun7
set_option linter.all false
namespace Go.EvNil
open Go Go.Ev Go.Proofs
set_option maxRecDepth 100000
def extM : Ext1 := fun f => bif Nat.beq f 15 then some (memosF [memo0]) else bif Nat.beq f 18 then some (memosF [memo1]) else bif Nat.beq f 6 then some (memosF [memo2, memo3, memo4, memo7]) else bif Nat.beq f 8 then some (memosF [memo5, memo6]) else ext f
noncomputable def isTrue (r : Option (AV × H)) : Bool := match r with | some (.bool true, h) => hasAll h [(1, tensB)] | _ => false
theorem sanity_run : isTrue ((envK Tryz.prog extM tabT.find 3000).call 4 [] h0) = true := by kernel_rfl
end Go.EvNil
