/- ConflictAuthors. -/
import Derived.Test.YtfgcglgpfgifkaaGreatDoorP17
set_option linter.all false
set_option maxRecDepth 100000
set_option maxHeartbeats 16000000
namespace Go.aI
open Go Go.Proofs.Tryz Go.ch Go.Proofs
def UI:AD:=fun f=>bif Nat.beq f 10 then some (LI [P5])else bif Nat.beq f 25 then some (LI [P6,P7,P8,P9])else ext1 f
noncomputable def aid(r:Option (K×ay)):Bool:=match r with|some (.bool true,h)=>pH h [(1,l7),(2,l4)]|_=>false
def ab:ay:=((⟨.e,13⟩:ay).dD 1 (some l7)).dD 2 (some l4)
theorem aBO:aid ((iC prog UI jY.find 3000).call 4 [] ab)=true:=au
end Go.aI
