/- ItemLatest, one part of the proof. -/
import Derived.Test.YtdioggbficfibaaGreatDoorCards
import Derived.SevenTiedAt
import Derived.Test.YtdioggbficfibaaGreatDoorP29
import Derived.Test.YtdioggbficfibaaGreatDoorP30
import Derived.Test.YtdioggbficfibaaGreatDoorP31
import Derived.Test.YtdioggbficfibaaGreatDoorP32
set_option linter.all false
set_option maxRecDepth 100000
set_option maxHeartbeats 16000000
namespace Go.Proofs.YtdioggbficfibaaGreatDoor
open Go Go.Proofs.Tryz
theorem axi:Rows.itemLatestRow.wfByText (OpenSpec.ofChange Rows.itemLatestSpec)=true:=by kernel_rfl
theorem axb:prog.funcNamed f3.name=some 3:=by kernel_rfl
theorem axh:([22,23].all fun u=> !prog.wantsStandIn u)=true:=by kernel_rfl
theorem axg:prog.mainIs=some (true,("5d5b84ed78df05c3a58f4b5ea49f56b4167c8faabf5f1578704fa3e34073566e" :String).toList):=by kernel_rfl
theorem itemLatest_card:Rows.ItemLatestCardSaid:=
 Claim7.holds_tied_plain_at .later [] [.data,.data,.data,.pinned,.data,.sentinel,.sentinel,.data,.data,.pinned] true (true,"5d5b84ed78df05c3a58f4b5ea49f56b4167c8faabf5f1578704fa3e34073566e") true
  aC3 (fun _ h=>by cases h) axi (fun _ h=>by cases h) aC4 rfl ⟨rfl,rfl⟩ axg rfl
  (fun f fn c a=>by
   obtain rfl:f=3:=gQ (axb.symm.trans c) |>.symm
   obtain rfl:fn=f3:=(gQ (func3.symm.trans a)).symm
   exact⟨axf,fun j t ai=>by
    rw[params3]at ai
    have b:t∈[22,23]:=by simpa using Array.mem_of_getElem? ai
    exact(show prog.wantsStandIn t=false by simpa using h6.1 axh t b)⟩)
  axd
end Go.Proofs.YtdioggbficfibaaGreatDoor
