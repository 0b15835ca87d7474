/- ItemInForce, one part of the proof. -/
import Derived.Test.YtdhifebhlocikaaGreatDoorRows
import Derived.Test.YtdhifebhlocikaaGreatDoorP00
set_option linter.all false
set_option maxRecDepth 100000
set_option maxHeartbeats 16000000
namespace Go.Proofs.YtdhifebhlocikaaGreatDoor
open Go Go.Proofs.Tryz
def NG{b:Type}:List b→Nat→Option b
 |[],_=>none
 |a::l,k=>bif Nat.beq k 0 then some a else NG l (Nat.pred k)
def Zw{b:Type}:∀(l:List b) (k:Nat),l[k]? =NG l k
 |[],_=>by simp[NG]
 |a::l,0=>rfl
 |a::l,k+1=>by rw[List.getElem?_cons_succ];exact Zw l k
def kl:Δ→Nat→Bool
 |[],_=>false
 |a::l,k=>bif Nat.beq k a then true else kl l k
def ajy:∀(l:Δ) (k:Nat),l.contains k=kl l k
 |[],_=>rfl
 |a::l,k=>by
  have:=ajy l k;unfold kl;cases h:Nat.beq k a with
  |true=>obtain rfl:=gK h;simp
  |false=>
   have b:k≠a:=λe=>by subst e;simp at h
   simp at this|-
   simp[this,b]
def SG(a:List Func)(BR:Func→Δ):Nat→Δ→Δ→Δ
 |0,_,s=>s.reverse
 |_+1,[],s=>s.reverse
 |n+1,f::t,s=>bif kl s f then SG a BR n t s else SG a BR n ((NG a f).elim [] BR++t) (f::s)
def Yl(P:Program):∀n t s,P.closureVia n t s=SG P.funcs.toList P.leadsTo n t s
 |0,_,s=>rfl
 |_+1,[],s=>rfl
 |n+1,f::t,s=>by unfold Program.closureVia SG;rw[ajy,<-Zw,vc,Yl P n,Yl P n];cases kl s f<;>simp
def ajZ(P:Program)(g:Nat):P.funcs[g]? =NG P.funcs.toList g:=by rw[<-Zw,vc]
def aDG:prog.varsNamed 3=Rows.itemInForceRow.named:=by unfold Program.varsNamed Program.closure;rw[Yl];simp only[ajZ];kernel_rfl
end Go.Proofs.YtdhifebhlocikaaGreatDoor
