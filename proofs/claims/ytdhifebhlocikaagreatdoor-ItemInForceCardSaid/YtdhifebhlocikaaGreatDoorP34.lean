/- ItemInForce, one part of the proof. -/
import Derived.Test.YtdhifebhlocikaaGreatDoorCards
import Derived.SevenTiedAt
import Derived.Test.YtdhifebhlocikaaGreatDoorP30
import Derived.Test.YtdhifebhlocikaaGreatDoorP31
import Derived.Test.YtdhifebhlocikaaGreatDoorP32
import Derived.Test.YtdhifebhlocikaaGreatDoorP33
set_option linter.all false
set_option maxRecDepth 100000
set_option maxHeartbeats 16000000
namespace Go.Proofs.YtdhifebhlocikaaGreatDoor
open Go Go.Proofs.Tryz
def axH:Rows.itemInForceRow.wfByText (OpenSpec.ofChange Rows.itemInForceSpec)=true:=by kernel_rfl
def axA:prog.funcNamed f3.name=some 3:=by kernel_rfl
def axG:([22,23].all λu=> !prog.wantsStandIn u)=true:=by kernel_rfl
def axF:prog.mainIs=some (true,("63e8fcb7a0fbfc6b7b5706cc003533ad4c8f90e16b7b94a887dc05ae4dba8173" :String).toList):=by kernel_rfl
theorem itemInForce_card:Rows.ItemInForceCardSaid:=
 Claim7.holds_tied_plain_at .later [] [.data,.data,.data,.pinned,.data,.sentinel,.sentinel,.data,.data,.pinned] true (true,"63e8fcb7a0fbfc6b7b5706cc003533ad4c8f90e16b7b94a887dc05ae4dba8173") true
  aDz (fun _ h=>by cases h) axH (fun _ h=>by cases h) aDA rfl ⟨rfl,rfl⟩ axF rfl
  (fun f fn c a=>by
   obtain rfl:f=3:=gm (axA.symm.trans c) |>.symm
   obtain rfl:fn=f3:=(gm (func3.symm.trans a)).symm
   exact⟨axE,fun j t aj=>by
    rw[params3]at aj
    have b:t∈[22,23]:=by simpa using Array.mem_of_getElem? aj
    exact(show prog.wantsStandIn t=false by simpa using iq.1 axG t b)⟩)
  axC
end Go.Proofs.YtdhifebhlocikaaGreatDoor
