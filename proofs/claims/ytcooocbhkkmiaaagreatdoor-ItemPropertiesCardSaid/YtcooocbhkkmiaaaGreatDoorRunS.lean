/-
  The closed run sanity() of law 15, over its parts.
-/
import Derived.Test.YtcooocbhkkmiaaaGreatDoorRun0
import Derived.Test.YtcooocbhkkmiaaaGreatDoorRun1
import Derived.Test.YtcooocbhkkmiaaaGreatDoorRun2
import Derived.Test.YtcooocbhkkmiaaaGreatDoorRun3
import Derived.Test.YtcooocbhkkmiaaaGreatDoorRun4
set_option linter.all false
namespace Go.EvProp
open Go Go.Ev Go.Proofs
set_option maxRecDepth 100000
def extM : Ext1 := fun f => bif Nat.beq f 33 then some (memosF [memo0]) else bif Nat.beq f 12 then some (memosF [memo1, memo2, memo4, memo5, memo7, memo8]) else bif Nat.beq f 8 then some (memosF [memo3, memo6]) else bif Nat.beq f 13 then some (memosF [memo9]) else extP f
noncomputable def isTrue (r : Option (AV × H)) : Bool := match r with | some (.bool true, h) => hasAll h [(0, tensB), (1, powB)] | _ => false
theorem sanity_run : isTrue ((envK Tryz.prog extM tabT.find 3000).call 4 [] h0) = true := by kernel_rfl
end Go.EvProp
