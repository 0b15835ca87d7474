/- ItemInForce, one part of the proof. -/
import Derived.Test.YtdhifebhlocikaaGreatDoorRows
import GoSem.ClaimSeven
import Derived.Test.YtdhifebhlocikaaGreatDoorP00
set_option linter.all false
set_option maxRecDepth 100000
set_option maxHeartbeats 16000000
namespace Go.Proofs.YtdhifebhlocikaaGreatDoor
open Go Go.Proofs.Tryz
def aiF:prog.funcs.any Func.goes=false:=by kernel_rfl
def axz(g:Nat):(prog.funcs[g]?).any Func.goes=false:=by
 cases a:prog.funcs[g]? with
 |none=>rfl
 |some fn=>
  let⟨au,aP⟩:=hl.1 a;have H:¬(prog.funcs.any Func.goes=true):=by rw[aiF];decide
  rw[Array.any_eq_true]at H;exact Bool.eq_false_iff.2 λaj=>H ⟨g,au,by rw[aP];exact aj⟩
def axD(f:FuncId):prog.goes f=false:=by unfold Program.goes;rw[aiF,Bool.and_false,Bool.or_false];rw[List.any_eq_false];intro g _;rw[axz g];decide
def aGG{b:Type}(o:Option b)(p:b→Bool)(h:∀a,p a=false):o.any p=false:=by
 cases o with
 |none=>rfl
 |some a=>exact h a
def axB(P:Program)(c:OpenClaim)(a:c.start=.entering)(h:∀f,P.goes f=false):false=c.goesBy P:=by unfold OpenClaim.goesBy Program.goesAt Program.goesFrom;rw[a,aGG _ _ h];rfl
def axC:false=Rows.itemInForceRow.goesBy prog:=axB prog Rows.itemInForceRow rfl axD
end Go.Proofs.YtdhifebhlocikaaGreatDoor
