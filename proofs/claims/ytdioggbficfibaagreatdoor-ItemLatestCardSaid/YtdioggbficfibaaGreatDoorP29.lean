/- ItemLatest, one part of the proof. -/
import Derived.Test.YtdioggbficfibaaGreatDoorP24
import Derived.Test.YtdioggbficfibaaGreatDoorP25
import Derived.Test.YtdioggbficfibaaGreatDoorP26
import Derived.Test.YtdioggbficfibaaGreatDoorP27
import Derived.Test.YtdioggbficfibaaGreatDoorP28
set_option linter.all false
set_option maxRecDepth 100000
set_option maxHeartbeats 16000000
namespace Go.Proofs.YtdioggbficfibaaGreatDoor
open Go Go.Proofs.Tryz
theorem aC8:joinedFacts Tryz.pinned.checked.prog 3 f3 Rows.itemLatestSpec Rows.itemLatestRow=true:=by
 show joinedFacts prog 3 f3 Rows.itemLatestSpec Rows.itemLatestRow=true;unfold joinedFacts;rw[aC9,aDa,aC',aC_,adf];kernel_rfl
theorem aC3:Rows.ItemLatestSaid:=
 OpenClaim.holds_of_wide 3 f3 rfl rfl rfl rfl rfl rfl rfl ⟨rfl,rfl,rfl,rfl,rfl⟩ rfl rfl rfl rfl rfl (by kernel_rfl) func3 aC8
  (LZ (by kernel_rfl)) (by unfold Func.isWrapper;first|(rw[co (by decide+kernel)];kernel_rfl)|(rw[bs (by decide+kernel)];exact⟨rfl,rfl⟩))
  (fun os a aw enc _=>aG7 os a aw enc)
end Go.Proofs.YtdioggbficfibaaGreatDoor
