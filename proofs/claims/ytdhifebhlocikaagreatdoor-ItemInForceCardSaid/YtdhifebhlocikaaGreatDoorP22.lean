/- ItemInForce, one part of the proof. -/
import Derived.Test.YtdhifebhlocikaaGreatDoorP21
set_option linter.all false
set_option maxRecDepth 100000
set_option maxHeartbeats 16000000
namespace Go.Proofs.YtdhifebhlocikaaGreatDoor
open Go Go.Proofs.Tryz Go.ChangeShapes Go.WideShapes Go.ChangeAt Go.WideMaps Go.WideElems Go.RowKit
def aMc(os:Os):((QK os).heap.toList.drop prog.globals.size).take ((begin prog (λ_ _=>0) default).world.heap.size-prog.globals.size)=
 (begin prog (λ_ _=>0) default).world.heap.toList.drop prog.globals.size:=by kernel_rfl
def aMa(os:Os):Input.okWideB prog (QK os) 3 ⟨#[],#[.slice none 0 0,.slice none 0 0],[]⟩=true:=by kernel_rfl
end Go.Proofs.YtdhifebhlocikaaGreatDoor
