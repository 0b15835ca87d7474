/- ItemInForce, one part of the proof. -/
import Derived.Test.YtdhifebhlocikaaGreatDoorP18
set_option linter.all false
set_option maxRecDepth 100000
set_option maxHeartbeats 16000000
namespace Go.aM
open Go Go.Proofs.Tryz Go.cE Go.Proofs
def Zg:CW:=λf=>bif Nat.beq f 17 then some (GS [UB])else bif Nat.beq f 14 then some (GS [UC,UD,UF,UG,UI,UJ])else bif Nat.beq f 15 then some (GS [UE,UH])else bif Nat.beq f 16 then some (GS [UK])else ux f
noncomputable def anf(r:Option (U×ay)):Bool:=match r with|some (.bool true,h)=>st h [(0,nL),(1,nJ)]|_=>false
def aIM:anf ((i0 prog Zg j6.find 3000).call 4 [] af)=true:=aw
end Go.aM
