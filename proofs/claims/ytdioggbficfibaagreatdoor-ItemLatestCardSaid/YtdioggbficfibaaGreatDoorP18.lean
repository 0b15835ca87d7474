/- ItemLatest, one part of the proof. -/
import Derived.Test.YtdioggbficfibaaGreatDoorP17
set_option linter.all false
set_option maxRecDepth 100000
set_option maxHeartbeats 16000000
namespace Go.aJ
open Go Go.Proofs.Tryz Go.cv Go.Proofs
def Zw:C7:=fun f=>bif Nat.beq f 13 then some (Hj [UJ])else bif Nat.beq f 10 then some (Hj [UK,UL,UN,UO,UQ,UR])else bif Nat.beq f 11 then some (Hj [UM,UP])else bif Nat.beq f 12 then some (Hj [US])else tP f
noncomputable def am0(r:Option (O×aw)):Bool:=match r with|some (.bool true,h)=>rY h [(0,np),(1,nk)]|_=>false
theorem aIf:am0 ((iF prog Zw jO.find 3000).call 4 [] ae)=true:=av
end Go.aJ
