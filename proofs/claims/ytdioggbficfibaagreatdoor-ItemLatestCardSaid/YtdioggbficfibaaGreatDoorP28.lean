/- ItemLatest, one part of the proof. -/
import Derived.Test.YtdioggbficfibaaGreatDoorRows
import Derived.Test.YtdioggbficfibaaGreatDoorP00
set_option linter.all false
set_option maxRecDepth 100000
set_option maxHeartbeats 16000000
namespace Go.Proofs.YtdioggbficfibaaGreatDoor
open Go Go.Proofs.Tryz
def N4{b:Type}:List b→Nat→Option b
 |[],_=>none
 |a::l,k=>bif Nat.beq k 0 then some a else N4 l (Nat.pred k)
theorem ZM{b:Type}:∀(l:List b) (k:Nat),l[k]? =N4 l k
 |[],_=>by simp[N4]
 |a::l,0=>rfl
 |a::l,k+1=>by rw[List.getElem?_cons_succ];exact ZM l k
def j7:List Nat→Nat→Bool
 |[],_=>false
 |a::l,k=>bif Nat.beq k a then true else j7 l k
theorem ajp:∀(l:List Nat) (k:Nat),l.contains k=j7 l k
 |[],_=>rfl
 |a::l,k=>by
  have:=ajp l k
  unfold j7
  cases h:Nat.beq k a with
  |true=>obtain rfl:=gx h;simp
  |false=>
   have b:k≠a:=fun e=>by subst e;simp at h
   simp at this⊢
   simp[this,b]
def SK(a:List Func)(Cw:Func→List Nat):Nat→List Nat→List Nat→List Nat
 |0,_,s=>s.reverse
 |_+1,[],s=>s.reverse
 |n+1,f::t,s=>bif j7 s f then SK a Cw n t s else SK a Cw n ((N4 a f).elim [] Cw++t) (f::s)
theorem YJ(P:Program):∀n t s,P.closureVia n t s=SK P.funcs.toList P.leadsTo n t s
 |0,_,s=>rfl
 |_+1,[],s=>rfl
 |n+1,f::t,s=>by
  unfold Program.closureVia SK
  rw[ajp,←ZM,xU,YJ P n,YJ P n]
  cases j7 s f<;>simp
theorem ajP(P:Program)(g:Nat):P.funcs[g]? =N4 P.funcs.toList g:=by rw[←ZM,xU]
theorem aC_:prog.varsNamed 3=Rows.itemLatestRow.named:=by
 unfold Program.varsNamed Program.closure;rw[YJ];simp only[ajP];kernel_rfl
end Go.Proofs.YtdioggbficfibaaGreatDoor
