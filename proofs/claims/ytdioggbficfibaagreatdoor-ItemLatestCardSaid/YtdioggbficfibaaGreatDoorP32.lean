/- ItemLatest, one part of the proof. -/
import Derived.Test.YtdioggbficfibaaGreatDoorRows
import GoSem.ClaimSeven
import Derived.Test.YtdioggbficfibaaGreatDoorP00
set_option linter.all false
set_option maxRecDepth 100000
set_option maxHeartbeats 16000000
namespace Go.Proofs.YtdioggbficfibaaGreatDoor
open Go Go.Proofs.Tryz
theorem aiw:prog.funcs.any Func.goes=false:=by kernel_rfl
theorem axa(g:Nat):(prog.funcs[g]?).any Func.goes=false:=by
 cases a:prog.funcs[g]? with
 |none=>rfl
 |some fn=>
  obtain⟨au,aO⟩:=g6.1 a;have H:¬(prog.funcs.any Func.goes=true):=by rw[aiw];decide
  rw[Array.any_eq_true]at H;exact Bool.eq_false_iff.2 fun ai=>H ⟨g,au,by rw[aO];exact ai⟩
theorem axe(f:FuncId):prog.goes f=false:=by
 unfold Program.goes;rw[aiw,Bool.and_false,Bool.or_false];rw[List.any_eq_false];intro g _;rw[axa g];decide
theorem aGd{b:Type}(o:Option b)(p:b→Bool)(h:∀a,p a=false):o.any p=false:=by
 cases o with
 |none=>rfl
 |some a=>exact h a
theorem axc(P:Program)(c:OpenClaim)(a:c.start=.entering)(h:∀f,P.goes f=false):false=c.goesBy P:=by
 unfold OpenClaim.goesBy Program.goesAt Program.goesFrom;rw[a,aGd _ _ h];rfl
theorem axd:false=Rows.itemLatestRow.goesBy prog:=axc prog Rows.itemLatestRow rfl axe
end Go.Proofs.YtdioggbficfibaaGreatDoor
