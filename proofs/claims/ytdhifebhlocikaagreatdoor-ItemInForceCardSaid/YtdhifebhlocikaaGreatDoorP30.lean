/- ItemInForce, one part of the proof. -/
import Derived.Test.YtdhifebhlocikaaGreatDoorP25
import Derived.Test.YtdhifebhlocikaaGreatDoorP26
import Derived.Test.YtdhifebhlocikaaGreatDoorP27
import Derived.Test.YtdhifebhlocikaaGreatDoorP28
import Derived.Test.YtdhifebhlocikaaGreatDoorP29
set_option linter.all false
set_option maxRecDepth 100000
set_option maxHeartbeats 16000000
namespace Go.Proofs.YtdhifebhlocikaaGreatDoor
open Go Go.Proofs.Tryz
def aDE:joinedFacts Tryz.pinned.checked.prog 3 f3 Rows.itemInForceSpec Rows.itemInForceRow=true:=by show joinedFacts prog 3 f3 Rows.itemInForceSpec Rows.itemInForceRow=true;unfold joinedFacts;rw[aDF,aDI,aDH,aDG,acR];kernel_rfl
def aDz:Rows.ItemInForceSaid:=
 OpenClaim.holds_of_wide 3 f3 rfl rfl rfl rfl rfl rfl rfl ⟨rfl,rfl,rfl,rfl,rfl⟩ rfl rfl rfl rfl rfl (by kernel_rfl) func3 aDE
  (Rt (by kernel_rfl)) (by unfold Func.isWrapper;first|(rw[ci (by decide+kernel)];kernel_rfl)|(rw[bo (by decide+kernel)];exact⟨rfl,rfl⟩))
  (λos a ay enc _=>aHy os a ay enc)
end Go.Proofs.YtdhifebhlocikaaGreatDoor
