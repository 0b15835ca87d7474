/- ItemInForce, one part of the proof. -/
import Derived.Test.YtdhifebhlocikaaGreatDoorP00
set_option linter.all false
set_option maxRecDepth 100000
set_option maxHeartbeats 16000000
namespace Go.cE
open Go.Proofs.Tryz
inductive U where
 |int (k:IntKind) (n:Int)
 |bool (b:Bool)
 |str (s:List Nat)
 |ji (b off:Nat)
 |rU
 |slice (b off len esz:Nat) (cap:Option Nat)
 |dM
 |map (b:Nat)
 |Ek
 |fn (f:FuncId) (first cap:List U)
 |xF (b:Nat)
 |z'
 |iface (t:TypeId) (v:U)
 |GV
 |agg (l:List U)
 |tup (l:List U)
 |sym (i:Nat)
 |lZ (b off l esz:Nat)
 deriving Inhabited
structure nT where
 ba:Nat
 del:Nat
 tot:Nat
abbrev b9:=Nat->Option nT
structure cj where
 val:Nat->Φ
 ql:Nat->Option Loop
 bd:Nat->Nat×Nat
 Ar:Nat->Ω
def jP(p:nT)(o esz:Nat):Option Nat->Nat
 |some c=>c
 |none=>(p.tot-o)/esz
def xn:Φ->Bool
 |.agg _=>false
 |.tuple _=>false
 |_=>true
def e2(s:Δ):Ψ:=⟨(s.map UInt8.ofNat).toArray⟩
mutual
def aT(ρ:cj)(σ:b9):U->Option Φ
 |.int k n=>some (.int k n)
 |.bool b=>some (.bool b)
 |.str s=>if s.all (λn=>n<256)then some (.string (e2 s))else none
 |.ji b o=>(σ b).map λp=>.pointer (some ⟨p.ba,p.del+o,none⟩)
 |.rU=>some (.pointer none)
 |.slice b o len esz cap=>(σ b).map λp=>.slice (some ⟨p.ba,p.del+o,none⟩) len (jP p o esz cap)
 |.dM=>some (.slice none 0 0)
 |.map b=>(σ b).map λp=>.map (some p.ba)
 |.Ek=>some (.map none)
 |.fn f a c=>match b5 ρ σ a,b5 ρ σ c with
  |some x,some y=>some (.func (.func f) x.toArray y.toArray)
  |_,_=>none
 |.xF b=>(σ b).map λp=>.func (.yield p.ba) #[] #[]
 |.z'=>some .nilFunc
 |.iface t v=>(aT ρ σ v).map (.iface t)
 |.GV=>some .nilIface
 |.agg l=>(b5 ρ σ l).map λx=>.agg x.toArray
 |.tup l=>(b5 ρ σ l).map λx=>.tuple x.toArray
 |.sym i=>if xn (ρ.val i)=true then some (ρ.val i)else none
 |.lZ b o l esz=>(σ b).map λp=>.slice (some ⟨p.ba,p.del+(if jP p o esz none=l then o else o+l*esz),none⟩) 0 (jP p o esz none-l)
def b5(ρ:cj)(σ:b9):List U->Option υ
 |[]=>some []
 |v::l=>match aT ρ σ v,b5 ρ σ l with
  |some x,some y=>some (x::y)
  |_,_=>none
end
def mV(σ a:b9):Prop:=∀b p,σ b=some p->a b=some p
def mV.refl(σ:b9):mV σ σ:=λ_ _ h=>h
variable{b:b9}
def mV.trans{a c:b9}(h:mV a b)(g:mV b c):mV a c:=λx p d=>g x p (h x p d)
mutual
def Bf{ρ:cj}{σ d:b9}(h:mV σ d):∀{v:U} {c:Φ},aT ρ σ v=some c->aT ρ d v=some c
 |.int ..,_,e=>by simpa[aT]using e
 |.bool _,_,e=>by simpa[aT]using e
 |.str _,_,e=>by simpa[aT]using e
 |.ji b o,c,e=>by simp only[aT,iW]at e|-;obtain⟨p,ag,rfl⟩:=e;exact⟨p,h _ _ ag,rfl⟩
 |.rU,_,e=>by simpa[aT]using e
 |.slice b o len esz cap,c,e=>by simp only[aT,iW]at e|-;obtain⟨p,ag,rfl⟩:=e;exact⟨p,h _ _ ag,rfl⟩
 |.dM,_,e=>by simpa[aT]using e
 |.map b,c,e=>by simp only[aT,iW]at e|-;obtain⟨p,ag,rfl⟩:=e;exact⟨p,h _ _ ag,rfl⟩
 |.Ek,_,e=>by simpa[aT]using e
 |.fn f a k,c,e=>by simp only[aT]at e|-;split at e;{rename_i x y j g;rw[wO h j,wO h g];exact e};{simp at e}
 |.xF b,c,e=>by simp only[aT,iW]at e|-;obtain⟨p,ag,rfl⟩:=e;exact⟨p,h _ _ ag,rfl⟩
 |.z',_,e=>by simpa[aT]using e
 |.iface t v,c,e=>by simp only[aT,iW]at e|-;obtain⟨p,ag,rfl⟩:=e;exact⟨p,Bf h ag,rfl⟩
 |.GV,_,e=>by simpa[aT]using e
 |.agg l,c,e=>by simp only[aT,iW]at e|-;obtain⟨p,ag,rfl⟩:=e;exact⟨p,wO h ag,rfl⟩
 |.tup l,c,e=>by simp only[aT,iW]at e|-;obtain⟨p,ag,rfl⟩:=e;exact⟨p,wO h ag,rfl⟩
 |.sym i,_,e=>by simpa[aT]using e
 |.lZ b o l esz,c,e=>by simp only[aT,iW]at e|-;obtain⟨p,ag,rfl⟩:=e;exact⟨p,h _ _ ag,rfl⟩
def wO{ρ:cj}{σ a:b9}(h:mV σ a):∀{l:List U} {c:υ},b5 ρ σ l=some c->b5 ρ a l=some c
 |[],_,e=>by simpa[b5]using e
 |v::l,c,e=>by simp only[b5]at e|-;split at e;{rename_i x y d b;rw[Bf h d,wO h b];exact e};{simp at e}
end
def nu{ρ:cj}{σ:b9}:∀{l:List U} {c:υ},b5 ρ σ l=some c->c.length=l.length
 |[],_,e=>by simp[b5]at e;simp[<-e]
 |v::l,c,e=>by simp only[b5]at e;split at e;{rename_i x y b a;simp at e;simp[<-e,nu a]};{simp at e}
def zq{ρ:cj}{σ:b9}:∀{l:List U} {c:υ},b5 ρ σ l=some c->∀{i:Nat} {v:U},l[i]? =some v->∃x,c[i]? =some x/\aT ρ σ v=some x
 |[],_,_,i,v,h=>by simp at h
 |u::l,c,e,i,v,h=>by
  simp only[b5]at e;split at e
  .rename_i x y b a;simp at e;subst e;cases i with
   |zero=>simp at h;subst h;exact⟨x,aq,b⟩
   |succ i=>simp at h;let⟨ai,d,J⟩:=zq a h;exact⟨ai,by simpa using d,J⟩
  .simp at e
def zp{ρ:cj}{σ:b9}:∀{l m:List U} {c d:υ},b5 ρ σ l=some c->b5 ρ σ m=some d->b5 ρ σ (l++m)=some (c++d)
 |[],m,c,d,e,f=>by simp[b5]at e;subst e;simpa using f
 |u::l,m,c,d,e,f=>by simp only[b5]at e;split at e;{rename_i x y b a;simp at e;subst e;simp[b5,b,zp a f]};{simp at e}
def ur{ρ:cj}{σ:b9}:∀{l:List U} {c:υ} (n:Nat),b5 ρ σ l=some c->b5 ρ σ (l.take n)=some (c.take n)
 |[],c,n,e=>by simp[b5]at e;subst e;simp[b5]
 |u::l,c,n,e=>by
  simp only[b5]at e;split at e
  .rename_i x y b a;simp at e;subst e;cases n with
   |zero=>simp[b5]
   |succ n=>simp[b5,b,ur n a]
  .simp at e
def vF{ρ:cj}{σ:b9}:∀{l:List U} {c:υ} (n:Nat),b5 ρ σ l=some c->b5 ρ σ (l.drop n)=some (c.drop n)
 |[],c,n,e=>by simp[b5]at e;subst e;simp[b5]
 |u::l,c,n,e=>by
  have b:=e;simp only[b5]at e;split at e
  .rename_i x y d a;simp at e;subst e;cases n with
   |zero=>simpa using b
   |succ n=>simpa using vF n a
  .simp at e
structure c' (cD:Type) where
 a0:cD
 bZ:cD
 cz:cD
 a3:cD
 a4:cD
 a5:cD
 e1:cD
 fF:cD
 fw:cD
 a9:cD
 fK:cD
 fL:cD
 fM:cD
 fN:cD
 fO:cD
 fP:cD
structure awa (cD:Type) where
 fn:c' cD->cD
structure awf (cD:Type) where
 fn:cD->c' cD->c' cD
def oj{a:Type}:Nat->awa a
 |0=>⟨λq=>q.a0⟩
 |1=>⟨λq=>q.bZ⟩
 |2=>⟨λq=>q.cz⟩
 |3=>⟨λq=>q.a3⟩
 |4=>⟨λq=>q.a4⟩
 |5=>⟨λq=>q.a5⟩
 |6=>⟨λq=>q.e1⟩
 |7=>⟨λq=>q.fF⟩
 |8=>⟨λq=>q.fw⟩
 |9=>⟨λq=>q.a9⟩
 |10=>⟨λq=>q.fK⟩
 |11=>⟨λq=>q.fL⟩
 |12=>⟨λq=>q.fM⟩
 |13=>⟨λq=>q.fN⟩
 |14=>⟨λq=>q.fO⟩
 |_=>⟨λq=>q.fP⟩
def VI{a:Type}:Nat->awf a
 |0=>⟨λv q=>⟨v,q.bZ,q.cz,q.a3,q.a4,q.a5,q.e1,q.fF,q.fw,q.a9,q.fK,q.fL,q.fM,q.fN,q.fO,q.fP⟩⟩
 |1=>⟨λv q=>⟨q.a0,v,q.cz,q.a3,q.a4,q.a5,q.e1,q.fF,q.fw,q.a9,q.fK,q.fL,q.fM,q.fN,q.fO,q.fP⟩⟩
 |2=>⟨λv q=>⟨q.a0,q.bZ,v,q.a3,q.a4,q.a5,q.e1,q.fF,q.fw,q.a9,q.fK,q.fL,q.fM,q.fN,q.fO,q.fP⟩⟩
 |3=>⟨λv q=>⟨q.a0,q.bZ,q.cz,v,q.a4,q.a5,q.e1,q.fF,q.fw,q.a9,q.fK,q.fL,q.fM,q.fN,q.fO,q.fP⟩⟩
 |4=>⟨λv q=>⟨q.a0,q.bZ,q.cz,q.a3,v,q.a5,q.e1,q.fF,q.fw,q.a9,q.fK,q.fL,q.fM,q.fN,q.fO,q.fP⟩⟩
 |5=>⟨λv q=>⟨q.a0,q.bZ,q.cz,q.a3,q.a4,v,q.e1,q.fF,q.fw,q.a9,q.fK,q.fL,q.fM,q.fN,q.fO,q.fP⟩⟩
 |6=>⟨λv q=>⟨q.a0,q.bZ,q.cz,q.a3,q.a4,q.a5,v,q.fF,q.fw,q.a9,q.fK,q.fL,q.fM,q.fN,q.fO,q.fP⟩⟩
 |7=>⟨λv q=>⟨q.a0,q.bZ,q.cz,q.a3,q.a4,q.a5,q.e1,v,q.fw,q.a9,q.fK,q.fL,q.fM,q.fN,q.fO,q.fP⟩⟩
 |8=>⟨λv q=>⟨q.a0,q.bZ,q.cz,q.a3,q.a4,q.a5,q.e1,q.fF,v,q.a9,q.fK,q.fL,q.fM,q.fN,q.fO,q.fP⟩⟩
 |9=>⟨λv q=>⟨q.a0,q.bZ,q.cz,q.a3,q.a4,q.a5,q.e1,q.fF,q.fw,v,q.fK,q.fL,q.fM,q.fN,q.fO,q.fP⟩⟩
 |10=>⟨λv q=>⟨q.a0,q.bZ,q.cz,q.a3,q.a4,q.a5,q.e1,q.fF,q.fw,q.a9,v,q.fL,q.fM,q.fN,q.fO,q.fP⟩⟩
 |11=>⟨λv q=>⟨q.a0,q.bZ,q.cz,q.a3,q.a4,q.a5,q.e1,q.fF,q.fw,q.a9,q.fK,v,q.fM,q.fN,q.fO,q.fP⟩⟩
 |12=>⟨λv q=>⟨q.a0,q.bZ,q.cz,q.a3,q.a4,q.a5,q.e1,q.fF,q.fw,q.a9,q.fK,q.fL,v,q.fN,q.fO,q.fP⟩⟩
 |13=>⟨λv q=>⟨q.a0,q.bZ,q.cz,q.a3,q.a4,q.a5,q.e1,q.fF,q.fw,q.a9,q.fK,q.fL,q.fM,v,q.fO,q.fP⟩⟩
 |14=>⟨λv q=>⟨q.a0,q.bZ,q.cz,q.a3,q.a4,q.a5,q.e1,q.fF,q.fw,q.a9,q.fK,q.fL,q.fM,q.fN,v,q.fP⟩⟩
 |_=>⟨λv q=>⟨q.a0,q.bZ,q.cz,q.a3,q.a4,q.a5,q.e1,q.fF,q.fw,q.a9,q.fK,q.fL,q.fM,q.fN,q.fO,v⟩⟩
variable{i:Nat}
def pN(h:i<16):i=0∨i=1∨i=2∨i=3∨i=4∨i=5∨i=6∨i=7∨i=8∨i=9∨i=10∨i=11∨i=12∨i=13∨i=14∨i=15:=z
def adf{a:Type}(i:Nat)(v:a)(q:c' a):(oj i).fn ((VI i).fn v q)=v:=by exact ab_
def arN{a:Type}(i j:Nat)(v:a)(q:c' a)(hi:i<16)(b:j<16)(h:i≠j):(oj i).fn ((VI j).fn v q)=(oj i).fn q:=by rcases pN hi with rfl|rfl|rfl|rfl|rfl|rfl|rfl|rfl|rfl|rfl|rfl|rfl|rfl|rfl|rfl|rfl<;>rcases pN b with rfl|rfl|rfl|rfl|rfl|rfl|rfl|rfl|rfl|rfl|rfl|rfl|rfl|rfl|rfl|rfl<;>first|rfl|exact absurd rfl h
abbrev S:=c' (c' U)
structure rn where
 fn:S->U
def ahV:Nat->rn
 |0=>⟨λs=>s.a0.a0⟩
 |1=>⟨λs=>s.a0.bZ⟩
 |2=>⟨λs=>s.a0.cz⟩
 |3=>⟨λs=>s.a0.a3⟩
 |4=>⟨λs=>s.a0.a4⟩
 |5=>⟨λs=>s.a0.a5⟩
 |6=>⟨λs=>s.a0.e1⟩
 |7=>⟨λs=>s.a0.fF⟩
 |8=>⟨λs=>s.a0.fw⟩
 |9=>⟨λs=>s.a0.a9⟩
 |10=>⟨λs=>s.a0.fK⟩
 |11=>⟨λs=>s.a0.fL⟩
 |12=>⟨λs=>s.a0.fM⟩
 |13=>⟨λs=>s.a0.fN⟩
 |14=>⟨λs=>s.a0.fO⟩
 |_=>⟨λs=>s.a0.fP⟩
def ahW:Nat->rn
 |0=>⟨λs=>s.bZ.a0⟩
 |1=>⟨λs=>s.bZ.bZ⟩
 |2=>⟨λs=>s.bZ.cz⟩
 |3=>⟨λs=>s.bZ.a3⟩
 |4=>⟨λs=>s.bZ.a4⟩
 |5=>⟨λs=>s.bZ.a5⟩
 |6=>⟨λs=>s.bZ.e1⟩
 |7=>⟨λs=>s.bZ.fF⟩
 |8=>⟨λs=>s.bZ.fw⟩
 |9=>⟨λs=>s.bZ.a9⟩
 |10=>⟨λs=>s.bZ.fK⟩
 |11=>⟨λs=>s.bZ.fL⟩
 |12=>⟨λs=>s.bZ.fM⟩
 |13=>⟨λs=>s.bZ.fN⟩
 |14=>⟨λs=>s.bZ.fO⟩
 |_=>⟨λs=>s.bZ.fP⟩
def ah4:Nat->rn
 |0=>⟨λs=>s.cz.a0⟩
 |1=>⟨λs=>s.cz.bZ⟩
 |2=>⟨λs=>s.cz.cz⟩
 |3=>⟨λs=>s.cz.a3⟩
 |4=>⟨λs=>s.cz.a4⟩
 |5=>⟨λs=>s.cz.a5⟩
 |6=>⟨λs=>s.cz.e1⟩
 |7=>⟨λs=>s.cz.fF⟩
 |8=>⟨λs=>s.cz.fw⟩
 |9=>⟨λs=>s.cz.a9⟩
 |10=>⟨λs=>s.cz.fK⟩
 |11=>⟨λs=>s.cz.fL⟩
 |12=>⟨λs=>s.cz.fM⟩
 |13=>⟨λs=>s.cz.fN⟩
 |14=>⟨λs=>s.cz.fO⟩
 |_=>⟨λs=>s.cz.fP⟩
def ah5:Nat->rn
 |0=>⟨λs=>s.a3.a0⟩
 |1=>⟨λs=>s.a3.bZ⟩
 |2=>⟨λs=>s.a3.cz⟩
 |3=>⟨λs=>s.a3.a3⟩
 |4=>⟨λs=>s.a3.a4⟩
 |5=>⟨λs=>s.a3.a5⟩
 |6=>⟨λs=>s.a3.e1⟩
 |7=>⟨λs=>s.a3.fF⟩
 |8=>⟨λs=>s.a3.fw⟩
 |9=>⟨λs=>s.a3.a9⟩
 |10=>⟨λs=>s.a3.fK⟩
 |11=>⟨λs=>s.a3.fL⟩
 |12=>⟨λs=>s.a3.fM⟩
 |13=>⟨λs=>s.a3.fN⟩
 |14=>⟨λs=>s.a3.fO⟩
 |_=>⟨λs=>s.a3.fP⟩
def ah6:Nat->rn
 |0=>⟨λs=>s.a4.a0⟩
 |1=>⟨λs=>s.a4.bZ⟩
 |2=>⟨λs=>s.a4.cz⟩
 |3=>⟨λs=>s.a4.a3⟩
 |4=>⟨λs=>s.a4.a4⟩
 |5=>⟨λs=>s.a4.a5⟩
 |6=>⟨λs=>s.a4.e1⟩
 |7=>⟨λs=>s.a4.fF⟩
 |8=>⟨λs=>s.a4.fw⟩
 |9=>⟨λs=>s.a4.a9⟩
 |10=>⟨λs=>s.a4.fK⟩
 |11=>⟨λs=>s.a4.fL⟩
 |12=>⟨λs=>s.a4.fM⟩
 |13=>⟨λs=>s.a4.fN⟩
 |14=>⟨λs=>s.a4.fO⟩
 |_=>⟨λs=>s.a4.fP⟩
def ah7:Nat->rn
 |0=>⟨λs=>s.a5.a0⟩
 |1=>⟨λs=>s.a5.bZ⟩
 |2=>⟨λs=>s.a5.cz⟩
 |3=>⟨λs=>s.a5.a3⟩
 |4=>⟨λs=>s.a5.a4⟩
 |5=>⟨λs=>s.a5.a5⟩
 |6=>⟨λs=>s.a5.e1⟩
 |7=>⟨λs=>s.a5.fF⟩
 |8=>⟨λs=>s.a5.fw⟩
 |9=>⟨λs=>s.a5.a9⟩
 |10=>⟨λs=>s.a5.fK⟩
 |11=>⟨λs=>s.a5.fL⟩
 |12=>⟨λs=>s.a5.fM⟩
 |13=>⟨λs=>s.a5.fN⟩
 |14=>⟨λs=>s.a5.fO⟩
 |_=>⟨λs=>s.a5.fP⟩
def ah8:Nat->rn
 |0=>⟨λs=>s.e1.a0⟩
 |1=>⟨λs=>s.e1.bZ⟩
 |2=>⟨λs=>s.e1.cz⟩
 |3=>⟨λs=>s.e1.a3⟩
 |4=>⟨λs=>s.e1.a4⟩
 |5=>⟨λs=>s.e1.a5⟩
 |6=>⟨λs=>s.e1.e1⟩
 |7=>⟨λs=>s.e1.fF⟩
 |8=>⟨λs=>s.e1.fw⟩
 |9=>⟨λs=>s.e1.a9⟩
 |10=>⟨λs=>s.e1.fK⟩
 |11=>⟨λs=>s.e1.fL⟩
 |12=>⟨λs=>s.e1.fM⟩
 |13=>⟨λs=>s.e1.fN⟩
 |14=>⟨λs=>s.e1.fO⟩
 |_=>⟨λs=>s.e1.fP⟩
def ah9:Nat->rn
 |0=>⟨λs=>s.fF.a0⟩
 |1=>⟨λs=>s.fF.bZ⟩
 |2=>⟨λs=>s.fF.cz⟩
 |3=>⟨λs=>s.fF.a3⟩
 |4=>⟨λs=>s.fF.a4⟩
 |5=>⟨λs=>s.fF.a5⟩
 |6=>⟨λs=>s.fF.e1⟩
 |7=>⟨λs=>s.fF.fF⟩
 |8=>⟨λs=>s.fF.fw⟩
 |9=>⟨λs=>s.fF.a9⟩
 |10=>⟨λs=>s.fF.fK⟩
 |11=>⟨λs=>s.fF.fL⟩
 |12=>⟨λs=>s.fF.fM⟩
 |13=>⟨λs=>s.fF.fN⟩
 |14=>⟨λs=>s.fF.fO⟩
 |_=>⟨λs=>s.fF.fP⟩
def ah_:Nat->rn
 |0=>⟨λs=>s.fw.a0⟩
 |1=>⟨λs=>s.fw.bZ⟩
 |2=>⟨λs=>s.fw.cz⟩
 |3=>⟨λs=>s.fw.a3⟩
 |4=>⟨λs=>s.fw.a4⟩
 |5=>⟨λs=>s.fw.a5⟩
 |6=>⟨λs=>s.fw.e1⟩
 |7=>⟨λs=>s.fw.fF⟩
 |8=>⟨λs=>s.fw.fw⟩
 |9=>⟨λs=>s.fw.a9⟩
 |10=>⟨λs=>s.fw.fK⟩
 |11=>⟨λs=>s.fw.fL⟩
 |12=>⟨λs=>s.fw.fM⟩
 |13=>⟨λs=>s.fw.fN⟩
 |14=>⟨λs=>s.fw.fO⟩
 |_=>⟨λs=>s.fw.fP⟩
def ah':Nat->rn
 |0=>⟨λs=>s.a9.a0⟩
 |1=>⟨λs=>s.a9.bZ⟩
 |2=>⟨λs=>s.a9.cz⟩
 |3=>⟨λs=>s.a9.a3⟩
 |4=>⟨λs=>s.a9.a4⟩
 |5=>⟨λs=>s.a9.a5⟩
 |6=>⟨λs=>s.a9.e1⟩
 |7=>⟨λs=>s.a9.fF⟩
 |8=>⟨λs=>s.a9.fw⟩
 |9=>⟨λs=>s.a9.a9⟩
 |10=>⟨λs=>s.a9.fK⟩
 |11=>⟨λs=>s.a9.fL⟩
 |12=>⟨λs=>s.a9.fM⟩
 |13=>⟨λs=>s.a9.fN⟩
 |14=>⟨λs=>s.a9.fO⟩
 |_=>⟨λs=>s.a9.fP⟩
def ahX:Nat->rn
 |0=>⟨λs=>s.fK.a0⟩
 |1=>⟨λs=>s.fK.bZ⟩
 |2=>⟨λs=>s.fK.cz⟩
 |3=>⟨λs=>s.fK.a3⟩
 |4=>⟨λs=>s.fK.a4⟩
 |5=>⟨λs=>s.fK.a5⟩
 |6=>⟨λs=>s.fK.e1⟩
 |7=>⟨λs=>s.fK.fF⟩
 |8=>⟨λs=>s.fK.fw⟩
 |9=>⟨λs=>s.fK.a9⟩
 |10=>⟨λs=>s.fK.fK⟩
 |11=>⟨λs=>s.fK.fL⟩
 |12=>⟨λs=>s.fK.fM⟩
 |13=>⟨λs=>s.fK.fN⟩
 |14=>⟨λs=>s.fK.fO⟩
 |_=>⟨λs=>s.fK.fP⟩
def ahY:Nat->rn
 |0=>⟨λs=>s.fL.a0⟩
 |1=>⟨λs=>s.fL.bZ⟩
 |2=>⟨λs=>s.fL.cz⟩
 |3=>⟨λs=>s.fL.a3⟩
 |4=>⟨λs=>s.fL.a4⟩
 |5=>⟨λs=>s.fL.a5⟩
 |6=>⟨λs=>s.fL.e1⟩
 |7=>⟨λs=>s.fL.fF⟩
 |8=>⟨λs=>s.fL.fw⟩
 |9=>⟨λs=>s.fL.a9⟩
 |10=>⟨λs=>s.fL.fK⟩
 |11=>⟨λs=>s.fL.fL⟩
 |12=>⟨λs=>s.fL.fM⟩
 |13=>⟨λs=>s.fL.fN⟩
 |14=>⟨λs=>s.fL.fO⟩
 |_=>⟨λs=>s.fL.fP⟩
def ahZ:Nat->rn
 |0=>⟨λs=>s.fM.a0⟩
 |1=>⟨λs=>s.fM.bZ⟩
 |2=>⟨λs=>s.fM.cz⟩
 |3=>⟨λs=>s.fM.a3⟩
 |4=>⟨λs=>s.fM.a4⟩
 |5=>⟨λs=>s.fM.a5⟩
 |6=>⟨λs=>s.fM.e1⟩
 |7=>⟨λs=>s.fM.fF⟩
 |8=>⟨λs=>s.fM.fw⟩
 |9=>⟨λs=>s.fM.a9⟩
 |10=>⟨λs=>s.fM.fK⟩
 |11=>⟨λs=>s.fM.fL⟩
 |12=>⟨λs=>s.fM.fM⟩
 |13=>⟨λs=>s.fM.fN⟩
 |14=>⟨λs=>s.fM.fO⟩
 |_=>⟨λs=>s.fM.fP⟩
def ah0:Nat->rn
 |0=>⟨λs=>s.fN.a0⟩
 |1=>⟨λs=>s.fN.bZ⟩
 |2=>⟨λs=>s.fN.cz⟩
 |3=>⟨λs=>s.fN.a3⟩
 |4=>⟨λs=>s.fN.a4⟩
 |5=>⟨λs=>s.fN.a5⟩
 |6=>⟨λs=>s.fN.e1⟩
 |7=>⟨λs=>s.fN.fF⟩
 |8=>⟨λs=>s.fN.fw⟩
 |9=>⟨λs=>s.fN.a9⟩
 |10=>⟨λs=>s.fN.fK⟩
 |11=>⟨λs=>s.fN.fL⟩
 |12=>⟨λs=>s.fN.fM⟩
 |13=>⟨λs=>s.fN.fN⟩
 |14=>⟨λs=>s.fN.fO⟩
 |_=>⟨λs=>s.fN.fP⟩
def ah1:Nat->rn
 |0=>⟨λs=>s.fO.a0⟩
 |1=>⟨λs=>s.fO.bZ⟩
 |2=>⟨λs=>s.fO.cz⟩
 |3=>⟨λs=>s.fO.a3⟩
 |4=>⟨λs=>s.fO.a4⟩
 |5=>⟨λs=>s.fO.a5⟩
 |6=>⟨λs=>s.fO.e1⟩
 |7=>⟨λs=>s.fO.fF⟩
 |8=>⟨λs=>s.fO.fw⟩
 |9=>⟨λs=>s.fO.a9⟩
 |10=>⟨λs=>s.fO.fK⟩
 |11=>⟨λs=>s.fO.fL⟩
 |12=>⟨λs=>s.fO.fM⟩
 |13=>⟨λs=>s.fO.fN⟩
 |14=>⟨λs=>s.fO.fO⟩
 |_=>⟨λs=>s.fO.fP⟩
def ah2:Nat->rn
 |0=>⟨λs=>s.fP.a0⟩
 |1=>⟨λs=>s.fP.bZ⟩
 |2=>⟨λs=>s.fP.cz⟩
 |3=>⟨λs=>s.fP.a3⟩
 |4=>⟨λs=>s.fP.a4⟩
 |5=>⟨λs=>s.fP.a5⟩
 |6=>⟨λs=>s.fP.e1⟩
 |7=>⟨λs=>s.fP.fF⟩
 |8=>⟨λs=>s.fP.fw⟩
 |9=>⟨λs=>s.fP.a9⟩
 |10=>⟨λs=>s.fP.fK⟩
 |11=>⟨λs=>s.fP.fL⟩
 |12=>⟨λs=>s.fP.fM⟩
 |13=>⟨λs=>s.fP.fN⟩
 |14=>⟨λs=>s.fP.fO⟩
 |_=>⟨λs=>s.fP.fP⟩
def aia(a b:Nat):rn:=match a with
 |0=>ahV b
 |1=>ahW b
 |2=>ah4 b
 |3=>ah5 b
 |4=>ah6 b
 |5=>ah7 b
 |6=>ah8 b
 |7=>ah9 b
 |8=>ah_ b
 |9=>ah' b
 |10=>ahX b
 |11=>ahY b
 |12=>ahZ b
 |13=>ah0 b
 |14=>ah1 b
 |_=>ah2 b
def awn(b:Nat)(s:S):(ahV b).fn s=(oj b).fn s.a0:=by exact sC
def awt(b:Nat)(s:S):(ahW b).fn s=(oj b).fn s.bZ:=by exact sC
def awu(b:Nat)(s:S):(ah4 b).fn s=(oj b).fn s.cz:=by exact sC
def awv(b:Nat)(s:S):(ah5 b).fn s=(oj b).fn s.a3:=by exact sC
def aww(b:Nat)(s:S):(ah6 b).fn s=(oj b).fn s.a4:=by exact sC
def awx(b:Nat)(s:S):(ah7 b).fn s=(oj b).fn s.a5:=by exact sC
def awy(b:Nat)(s:S):(ah8 b).fn s=(oj b).fn s.e1:=by exact sC
def awz(b:Nat)(s:S):(ah9 b).fn s=(oj b).fn s.fF:=by exact sC
def awA(b:Nat)(s:S):(ah_ b).fn s=(oj b).fn s.fw:=by exact sC
def awB(b:Nat)(s:S):(ah' b).fn s=(oj b).fn s.a9:=by exact sC
def awo(b:Nat)(s:S):(ahX b).fn s=(oj b).fn s.fK:=by exact sC
def awp(b:Nat)(s:S):(ahY b).fn s=(oj b).fn s.fL:=by exact sC
def awq(b:Nat)(s:S):(ahZ b).fn s=(oj b).fn s.fM:=by exact sC
def awr(b:Nat)(s:S):(ah0 b).fn s=(oj b).fn s.fN:=by exact sC
def aws(b:Nat)(s:S):(ah1 b).fn s=(oj b).fn s.fO:=by exact sC
def ah3(b:Nat)(s:S):(ah2 b).fn s=(oj b).fn s.fP:=by exact sC
def Sl(a b:Nat)(s:S):(aia a b).fn s=(oj b).fn ((oj a).fn s):=by
 by_cases h:a<16;rcases pN h with rfl|rfl|rfl|rfl|rfl|rfl|rfl|rfl|rfl|rfl|rfl|rfl|rfl|rfl|rfl|rfl;exact awn b s;exact awt b s;exact awu b s;exact awv b s;exact aww b s;exact awx b s;exact awy b s;exact awz b s;exact awA b s;exact awB b s;exact awo b s;exact awp b s;exact awq b s;exact awr b s;exact aws b s;exact ah3 b s
 obtain⟨k,rfl⟩:∃k,a=k+16:=⟨a-16,z⟩;exact ah3 b s
structure avw (cD:Type) where
 fn:(cD->cD)->c' cD->c' cD
def apt{a:Type}:Nat->avw a
 |0=>⟨λf q=>⟨f q.a0,q.bZ,q.cz,q.a3,q.a4,q.a5,q.e1,q.fF,q.fw,q.a9,q.fK,q.fL,q.fM,q.fN,q.fO,q.fP⟩⟩
 |1=>⟨λf q=>⟨q.a0,f q.bZ,q.cz,q.a3,q.a4,q.a5,q.e1,q.fF,q.fw,q.a9,q.fK,q.fL,q.fM,q.fN,q.fO,q.fP⟩⟩
 |2=>⟨λf q=>⟨q.a0,q.bZ,f q.cz,q.a3,q.a4,q.a5,q.e1,q.fF,q.fw,q.a9,q.fK,q.fL,q.fM,q.fN,q.fO,q.fP⟩⟩
 |3=>⟨λf q=>⟨q.a0,q.bZ,q.cz,f q.a3,q.a4,q.a5,q.e1,q.fF,q.fw,q.a9,q.fK,q.fL,q.fM,q.fN,q.fO,q.fP⟩⟩
 |4=>⟨λf q=>⟨q.a0,q.bZ,q.cz,q.a3,f q.a4,q.a5,q.e1,q.fF,q.fw,q.a9,q.fK,q.fL,q.fM,q.fN,q.fO,q.fP⟩⟩
 |5=>⟨λf q=>⟨q.a0,q.bZ,q.cz,q.a3,q.a4,f q.a5,q.e1,q.fF,q.fw,q.a9,q.fK,q.fL,q.fM,q.fN,q.fO,q.fP⟩⟩
 |6=>⟨λf q=>⟨q.a0,q.bZ,q.cz,q.a3,q.a4,q.a5,f q.e1,q.fF,q.fw,q.a9,q.fK,q.fL,q.fM,q.fN,q.fO,q.fP⟩⟩
 |7=>⟨λf q=>⟨q.a0,q.bZ,q.cz,q.a3,q.a4,q.a5,q.e1,f q.fF,q.fw,q.a9,q.fK,q.fL,q.fM,q.fN,q.fO,q.fP⟩⟩
 |8=>⟨λf q=>⟨q.a0,q.bZ,q.cz,q.a3,q.a4,q.a5,q.e1,q.fF,f q.fw,q.a9,q.fK,q.fL,q.fM,q.fN,q.fO,q.fP⟩⟩
 |9=>⟨λf q=>⟨q.a0,q.bZ,q.cz,q.a3,q.a4,q.a5,q.e1,q.fF,q.fw,f q.a9,q.fK,q.fL,q.fM,q.fN,q.fO,q.fP⟩⟩
 |10=>⟨λf q=>⟨q.a0,q.bZ,q.cz,q.a3,q.a4,q.a5,q.e1,q.fF,q.fw,q.a9,f q.fK,q.fL,q.fM,q.fN,q.fO,q.fP⟩⟩
 |11=>⟨λf q=>⟨q.a0,q.bZ,q.cz,q.a3,q.a4,q.a5,q.e1,q.fF,q.fw,q.a9,q.fK,f q.fL,q.fM,q.fN,q.fO,q.fP⟩⟩
 |12=>⟨λf q=>⟨q.a0,q.bZ,q.cz,q.a3,q.a4,q.a5,q.e1,q.fF,q.fw,q.a9,q.fK,q.fL,f q.fM,q.fN,q.fO,q.fP⟩⟩
 |13=>⟨λf q=>⟨q.a0,q.bZ,q.cz,q.a3,q.a4,q.a5,q.e1,q.fF,q.fw,q.a9,q.fK,q.fL,q.fM,f q.fN,q.fO,q.fP⟩⟩
 |14=>⟨λf q=>⟨q.a0,q.bZ,q.cz,q.a3,q.a4,q.a5,q.e1,q.fF,q.fw,q.a9,q.fK,q.fL,q.fM,q.fN,f q.fO,q.fP⟩⟩
 |_=>⟨λf q=>⟨q.a0,q.bZ,q.cz,q.a3,q.a4,q.a5,q.e1,q.fF,q.fw,q.a9,q.fK,q.fL,q.fM,q.fN,q.fO,f q.fP⟩⟩
def apu{a:Type}(i:Nat)(f:a->a)(q:c' a):(apt i).fn f q=(VI i).fn (f ((oj i).fn q)) q:=by exact ab_
def g(i:Nat)(s:S):U:=(aia (Nat.div i 16) (Nat.mod i 16)).fn s
def put(i:Nat)(v:U)(s:S):S:=(apt (Nat.div i 16)).fn ((VI (Nat.mod i 16)).fn v) s
def qG:U:=.tup []
def fi{a:Type}(v:a):c' a:=⟨v,v,v,v,v,v,v,v,v,v,v,v,v,v,v,v⟩
def bY:S:=fi (fi qG)
def arM{a:Type}(i:Nat)(v:a):(oj i).fn (fi v)=v:=by exact ab_
def ZA(i:Nat)(v:U)(s:S):g i (put i v s)=v:=by unfold g put;rw[Sl,apu,adf,adf]
def Zz(i j:Nat)(v:U)(s:S)(hi:i<256)(d:j<256)(h:i≠j):g i (put j v s)=g i s:=by unfold g put;rw[Sl,Sl,apu];have ak:i.mod 16=i%16:=rfl;have a:j.mod 16=j%16:=rfl;have b:i.div 16=i/16:=rfl;have c:j.div 16=j/16:=rfl;rw[ak,a,b,c];by_cases hd:i/16=j/16;rw[hd,adf,arN _ _ _ _ z z z];rw[arN (i/16) (j/16) _ _ z z hd]
def azU(i:Nat):g i bY=qG:=by unfold g bY;rw[Sl,arM,arM]
def nW(ρ:cj)(σ:b9)(aB:Nat)(s:S)(a:Ω):Prop:=
 a.size=aB/\aB<=256/\∀i,i<aB->aT ρ σ (g i s)=some (a.getD i undef)
variable{ρ:cj}{σ:b9}{aB:Nat}{s:S}{a:Ω}
def nW.ext(h:nW ρ σ aB s a)(e:mV σ b):nW ρ b aB s a:=
 ⟨h.1,h.2.1,λi hi=>Bf e (h.2.2 i hi)⟩
def nW.put(h:nW ρ σ aB s a)(hi:i<aB){v:U}{c:Φ}(J:aT ρ σ v=some c): nW ρ σ aB (put i v s) (a.setIfInBounds i c):=by let⟨H,I,d⟩:=h;refine⟨by simp[H],I,λj b=>?_⟩;by_cases e:j=i;subst e;rw[ZA];simp[J,Array.getD,H,b];rw[Zz j i v s z z e];have:=d j b;rw[this];simp[Array.getD,H,b,VR,it e]
end Go.cE
namespace Go.cE
inductive T (cD:Type) where
 |e:T cD
 |n (v:Option cD) (l r:T cD):T cD
def T.cW{a:Type}:T a->Nat->Option a
 |.e,_=>none
 |.n v l r,k=>bif Nat.beq k 0 then v else bif Nat.beq (Nat.mod k 2) 1 then l.cW (Nat.div k 2)else r.cW (Nat.sub (Nat.div k 2) 1)
def T.set{a:Type}:Nat->T a->Nat->Option a->T a
 |0,t,_,_=>t
 |f+1,.e,k,x=>bif Nat.beq k 0 then .n x .e .e else bif Nat.beq (Nat.mod k 2) 1 then .n none (T.set f .e (Nat.div k 2) x) .e else .n none .e (T.set f .e (Nat.sub (Nat.div k 2) 1) x)
 |f+1,.n v l r,k,x=>bif Nat.beq k 0 then .n x l r else bif Nat.beq (Nat.mod k 2) 1 then .n v (T.set f l (Nat.div k 2) x) r else .n v l (T.set f r (Nat.sub (Nat.div k 2) 1) x)
def ML{a b:Nat}(h:a≠b):Nat.beq a b=false:=by
 cases G:Nat.beq a b with
 |false=>rfl
 |true=>exact absurd (gK G) h
def zj{c:Type}(a b:Nat)(x y:c):(bif Nat.beq a b then x else y)=if a=b then x else y:=by by_cases h:a=b;subst h;simp;rw[ML h,bo h];rfl
def T.Bo{a:Type}(v:Option a)(l r:T a)(k:Nat):T.cW (.n v l r) k=if k=0 then v else if k%2=1 then l.cW (k/2)else r.cW (k/2-1):=by rw[T.cW,zj,zj];rfl
def T.adj{a:Type}(f k:Nat)(x:Option a):T.set (f+1) .e k x=if k=0 then .n x .e .e else if k%2=1 then .n none (T.set f .e (k/2) x) .e else .n none .e (T.set f .e (k/2-1) x):=by rw[T.set,zj,zj];rfl
def T.adk{a:Type}(f k:Nat)(x v:Option a)(l r:T a):T.set (f+1) (.n v l r) k x=if k=0 then .n x l r else if k%2=1 then .n v (T.set f l (k/2) x) r else .n v l (T.set f r (k/2-1) x):=by rw[T.set,zj,zj];rfl
def T.Jn{g:Type}:∀(f:Nat) (t:T g) (k j:Nat) (x:Option g),k+1<2^f->T.cW (T.set f t k x) j=if j=k then x else T.cW t j
 |0,t,k,j,x,h=>by simp at h
 |f+1,t,k,j,x,h=>by
  have ag:2^(f+1)=2*2^f:=z;have lx:∀m,T.cW (.e:T g) m=none:=λ_=>by simp[T.cW]
  by_cases c:k=0
  .subst c;cases t with
   |e=>rw[T.adj,ci rfl,T.Bo];by_cases a:j=0<;>simp[a,lx]
   |n v l r=>rw[T.adk,ci rfl,T.Bo,T.Bo];by_cases a:j=0<;>simp[a]
  .by_cases d:k%2=1
   .have o:k/2+1<2^f:=z;cases t with
    |e=>
     rw[T.adj,bo c,ci d,T.Bo,T.Jn f .e (k/2) (j/2) x o]
     by_cases a:j=0
     .subst a;simp[it c,lx]
     .by_cases b:j%2=1
      .rw[bo a,ci b]
       by_cases e:j=k
       .subst e;simp
       .rw[bo z,bo e];simp[lx]
      .rw[bo a,bo b,bo z];simp[lx]
    |n v l r=>
     rw[T.adk,bo c,ci d,T.Bo,T.Bo,T.Jn f l (k/2) (j/2) x o]
     by_cases a:j=0
     .subst a;simp[it c]
     .by_cases b:j%2=1
      .rw[bo a,ci b,bo a,ci b]
       by_cases e:j=k
       .subst e;simp
       .rw[bo z,bo e]
      .rw[bo a,bo b,bo z,bo a,bo b]
   .have i:k/2-1+1<2^f:=z;cases t with
    |e=>
     rw[T.adj,bo c,bo d,T.Bo,T.Jn f .e (k/2-1) (j/2-1) x i]
     by_cases a:j=0
     .subst a;simp[it c,lx]
     .by_cases b:j%2=1
      .rw[bo a,ci b,bo z];simp[lx]
      .rw[bo a,bo b]
       by_cases e:j=k
       .subst e;simp
       .rw[bo z,bo e];simp[lx]
    |n v l r=>
     rw[T.adk,bo c,bo d,T.Bo,T.Bo,T.Jn f r (k/2-1) (j/2-1) x i]
     by_cases a:j=0
     .subst a;simp[it c]
     .by_cases b:j%2=1
      .rw[bo a,ci b,bo z,bo a,ci b]
      .rw[bo a,bo b,bo a,bo b]
       by_cases e:j=k
       .subst e;simp
       .rw[bo z,bo e]
inductive X where
 |iH
 |exit (id:Nat)
 |ret
def X.code:X->Code
 |.iH=>.skip
 |.exit id=>.exit id
 |.ret=>.ret
inductive eK where
 |cells (elem:TypeId) (vs:List U) (ku wr:Bool)
 |map (bU:List (U×U×Nat)) (aiL:Nat)
 |mapIter (map arV:Nat) (BY:List Nat) (anx:Nat)
 |loop (key:Nat) (state:LoopState) (wj:Option X) (kb:Nat) (s:S) (aB:Nat)
 |deferred
 |aK (elem:TypeId) (vs:List U)
structure ay where
 t:T eK
 nx:Nat
def DA:Nat:=32
def eG:Nat:=4294967294
def ay.cW(h:ay)(b:Nat):Option eK:=h.t.cW b
def ay.db(h:ay)(b:Nat)(x:Option eK):ay:=⟨h.t.set DA b x,h.nx⟩
def ay.add(h:ay)(x:eK):ay:=⟨h.t.set DA h.nx (some x),h.nx+1⟩
def ay.vJ(h:ay)(b j:Nat)(x:Option eK)(G:b<eG):(h.db b x).cW j=if j=b then x else h.cW j:=
 T.Jn _ _ _ _ _ (by unfold eG at G;unfold DA;omega)
def ay.S'(h:ay)(j:Nat)(x:eK)(G:h.nx<eG):(h.add x).cW j=if j=h.nx then some x else h.cW j:=
 T.Jn _ _ _ _ _ (by unfold eG at G;unfold DA;omega)
def S1(ρ:cj)(σ:b9)(e:U×U×Nat)(m:MapEntry):Prop:=
 aT ρ σ e.1=some m.key/\aT ρ σ e.2.1=some m.val/\m.born=e.2.2
def uv(ρ:cj)(σ:b9):List (U×U×Nat)->List MapEntry->Prop
 |[],[]=>True
 |e::l,m::r=>S1 ρ σ e m/\uv ρ σ l r
 |_,_=>False
def kA(ρ:cj)(σ:b9)(p:nT)(o:Option Obj):eK->Prop
 |.cells elem vs g wr=>∃arr bd,o=some (.cells arr elem bd)/\arr.size=p.del+p.tot/\vs.length<=p.tot/\(g=true->vs.length=p.tot/\p.del=0)/\
  (∃cs,b5 ρ σ vs=some cs/\∀i,i<vs.length->arr[p.del+i]? =cs[i]?)/\
  (wr=true->∀i,p.del<=i->i<arr.size->¬(bd.1<=i/\i<bd.2))
 |.map f c=>p.del=0/\∃b,o=some (.map b c)/\uv ρ σ f b.toList
 |.mapIter m e BY d=>p.del=0/\∃q,σ m=some q/\o=some (.mapIter (some q.ba) e BY.toArray d)
 |.loop key state h kb s aB=>p.del=0/\∃a q l,ρ.ql key=some l/\nW ρ σ aB s a/\σ kb=some q/\o=some (.loop {l with state:=state,pending:=h.map X.code,tmps:=a,defers:=q.ba})
 |.deferred=>p.del=0/\o=some (.deferred (some []))
 |.aK elem vs=>∃cs,b5 ρ σ vs=some cs/\o=some (.cells (ρ.Ar p.ba) elem (ρ.bd p.ba))/\∀i,i<vs.length->(ρ.Ar p.ba)[p.del+i]? =cs[i]?
def ajM{ρ:cj}{σ e:b9}(h:mV σ e):∀{l:List (U×U×Nat)} {r:List MapEntry},uv ρ σ l r->uv ρ e l r
 |[],[],_=>gL
 |_::_,_::_,⟨⟨a,b,c⟩,d⟩=>⟨⟨Bf h a,Bf h b,c⟩,ajM h d⟩
 |[],_::_,x=>x.elim
 |_::_,[],x=>x.elim
def kA.ext{ρ:cj}{σ i:b9}{p:nT}{o:Option Obj}(h:mV σ i):∀{x:eK},kA ρ σ p o x->kA ρ i p o x
 |.cells ..,⟨arr,bd,a,b,c,d,⟨cs,e,f⟩,g⟩=>⟨arr,bd,a,b,c,d,⟨cs,wO h e,f⟩,g⟩
 |.map ..,⟨a,k,b,c⟩=>⟨a,k,b,ajM h c⟩
 |.mapIter ..,⟨a,q,b,c⟩=>⟨a,q,h _ _ b,c⟩
 |.loop ..,⟨a,x,q,l,j,b,c,d⟩=>⟨a,x,q,l,j,b.ext h,h _ _ c,d⟩
 |.deferred,x=>x
 |.aK ..,⟨cs,a,b,c⟩=>⟨cs,wO h a,b,c⟩
structure c_ (ρ:cj) (σ:b9) (h:ay) (w:Γ):Prop where
 ba:∀b x,h.cW b=some x->∃p,σ b=some p/\kA ρ σ p w.heap[p.ba]? x
 inj:∀b cQ x da p b1,h.cW b=some x->h.cW cQ=some da->σ b=some p->σ cQ=some b1->b≠cQ->p.ba≠b1.ba
 kn:∀b,h.nx<=b->σ b=none
def lV(σ:b9)(h:ay)(r:Nat):Prop:=∃b x p,h.cW b=some x/\σ b=some p/\p.ba=r
structure jY (σ:b9) (h:ay) (w:Γ) (cH:b9) (aX:ay) (w':Γ):Prop where
 ext:mV σ cH
 d_:∀b,σ b=none->cH b≠none->h.nx<=b
 nx:h.nx<=aX.nx
 size:w.heap.size<=w'.heap.size
 kept:∀r,r<w.heap.size->¬lV σ h r->w'.heap[r]? =w.heap[r]?
 oe:∀r,lV cH aX r->w.heap.size<=r∨lV σ h r
 os:w'.os=w.os
 output:w'.output=w.output
 tape:w'.tape=w.tape
def jY.refl(σ:b9)(h:ay)(w:Γ):jY σ h w σ h w:=
 ⟨.refl _,λ_ a b=>(b a).elim,aY _,aY _,λ_ _ _=>rfl,λ_ h=>.inr h,rfl,rfl,rfl⟩
def jY.trans{σ d i:b9}{h f g:ay}{w w' j:Γ}(a:jY σ h w d f w')(b:jY d f w' i g j):jY σ h w i g j where
 ext:=a.ext.trans b.ext
 d_:=λx n m=>by
  cases e:d x with
  |none=>exact c6 a.nx (b.d_ x e m)
  |some p=>exact a.d_ x n (by simp[e])
 nx:=c6 a.nx b.nx
 size:=c6 a.size b.size
 kept:=λr c k=>by
  rw[b.kept r (i4 c a.size) (λl=>?_),a.kept r c k]
  rcases a.oe r l with H|H
  .omega
  .exact k H
 oe:=λr c=>by
  rcases b.oe r c with H|H
  .exact .inl (c6 a.size H)
  .exact a.oe r H
 os:=b.os.trans a.os
 output:=b.output.trans a.output
 tape:=b.tape.trans a.tape
end Go.cE
namespace Go.cE
open Go.Proofs.Tryz
structure mz where
 fn:FuncId
 kind:CallKind
 roundOf:Option Nat
def fr(b:mz)(a:Ω)(ds:List Deferred)(todo:List Item):Frame:=
 {fn:=b.fn,tmps:=a,todo,defers:=ds,mode:=.run,kind:=b.kind,roundOf:=b.roundOf}
def eC(a:Ω):Operand->Φ
 |.tmp t=>a.getD t undef
 |.const v=>v
 |.global g=>.pointer (some ⟨g,0,none⟩)
 |.func f=>.func (.func f) #[] #[]
def S4(b:mz)(a:Ω)(ds:List Deferred)(todo:List Item):(fr b a ds todo).eval=eC a:=by funext x;cases x<;>rfl
section aJ'
variable {P:Program} {b:mz} {a:Ω} {ds:List Deferred} {k:List Item} {cs:List Frame} {w:Γ}
def aJ0:step P (lone (fr b a ds (.code .skip::k)) cs w)=.next (lone (fr b a ds k) cs w):=
 mv (by simp[stepG,stepG.exec,fr])
def aJQ{l:Nat}:step P (lone (fr b a ds (.code (.label l)::k)) cs w)=.next (lone (fr b a ds k) cs w):=
 mv (by simp[stepG,stepG.exec,fr])
variable{id:Nat}
def aJO:step P (lone (fr b a ds (.inBlock id::k)) cs w)=.next (lone (fr b a ds k) cs w):=
 mv (by simp[stepG,stepG.exec,fr])
def ady{x y:Code}:step P (lone (fr b a ds (.code (.seq x y)::k)) cs w)=.next (lone (fr b a ds (.code x::.code y::k)) cs w):=
 mv (by simp[stepG,stepG.exec,fr])
def ar_{c:Operand}{x y:Code}{t:Bool}(h:eC a c=.bool t):
  step P (lone (fr b a ds (.code (.cond c x y)::k)) cs w)=.next (lone (fr b a ds (.code (if t then x else y)::k)) cs w):=
 mv (by
  have:=congrFun (S4 b a ds (.code (.cond c x y)::k)) c
  simp only[fr]at this
  simp[stepG,stepG.exec,fr,this,h])
def Vt{c:Code}:step P (lone (fr b a ds (.code (.block id c)::k)) cs w)=.next (lone (fr b a ds (.code c::.inBlock id::k)) cs w):=
 mv (by simp[stepG,stepG.exec,fr])
def aJR{c:Code}:step P (lone (fr b a ds (.code (.loop c)::k)) cs w)=.next (lone (fr b a ds (.code c::.inLoop c::k)) cs w):=
 mv (by simp[stepG,stepG.exec,fr])
def aJP{c:Code}:step P (lone (fr b a ds (.inLoop c::k)) cs w)=.next (lone (fr b a ds (.code c::.inLoop c::k)) cs w):=
 mv (by simp[stepG,stepG.exec,fr])
def aJN{c:List Item}(h:exitTo id k=some c):
  step P (lone (fr b a ds (.code (.exit id)::k)) cs w)=.next (lone (fr b a ds c) cs w):=
 mv (by simp[stepG,stepG.exec,fr,h])
variable{ops:Array Oper}
def aJV:
  step P (lone (fr b a ds (.code (.region id ops false)::k)) cs w)=.next (lone (fr b a ds (.inRegion ops (List.range ops.size)::k)) cs w):=
 mv (by simp[stepG,stepG.exec,fr])
def aJW:
  step P (lone (fr b a ds (.code (.region id ops true)::k)) cs w)=
   .next (lone (fr b a ds (.inRegion ops (Region.schedule (P.follows .mixedOrders) ops (w.tape w.drawn (.order b.fn id)))::k)) cs {w with drawn:=w.drawn+1}):=
 mv (by simp[stepG,stepG.exec,fr,choose,Sem.run,Question.forced,Question.cut])
def asb:step P (lone (fr b a ds (.inRegion ops []::k)) cs w)=.next (lone (fr b a ds k) cs w):=
 mv (by simp[stepG,stepG.exec,fr])
end aJ'
def ui(P:Program)(f:Frame)(w:Γ)(R:Φ->Γ->Prop):Prop:=
 ∀(c:Frame) (cs:List Frame),∃v w',R v w'/\Steps P (lone f (c::cs) w) (lone (c.finish v) cs w')
variable{P:Program}{w:Γ}{R:Φ->Γ->Prop}
def ui.aF0{f:FuncId}{args:Ω} (h:Calls P f args w λe w'=>∃v,e=.returned v/\R v w'):ui P (Frame.enter P f args .normal) w R:=by intro c cs;obtain⟨e,w',j,⟨v,rfl,i⟩,g,_,d⟩:=h (c::cs);exact⟨v,w',i,tT g (.one (step_leave_returned d))⟩
def rA(d:Option Tmp)(v:Φ)(a:Ω):Ω:=match d with|some d=>a.setIfInBounds d v|none=>a
def EY(P:Program)(o:Oper)(a:Ω)(w:Γ)(R:Φ->Γ->Prop):Prop:=
 (∃v w',(execOp (eC a) o).run P w=.ok (.value v) w'/\R v w')∨
 (∃w',(execOp (eC a) o).run P w=.ok .skip w'/\R undef w')∨
 (∃f args c,(execOp (eC a) o).run P w=.ok (.enter f args) c/\ui P (Frame.enter P f args .normal) c R)∨
 (∃l f t x y c,(execOp (eC a) o).run P w=.ok (.round l f t x y) c/\ui P (Frame.round l f t x y .normal) c R)
variable{o:Oper}{a:Ω}
def EY.mono{j:Φ->Γ->Prop}(h:EY P o a w R)(d:∀v w,R v w->j v w):EY P o a w j:=by
 rcases h with⟨v,w',e,r⟩|⟨w',e,r⟩|⟨f,g,i,e,r⟩|⟨l,f,t,x,y,i,e,r⟩
 exact .inl ⟨v,w',e,d _ _ r⟩;exact .inr (.inl ⟨w',e,d _ _ r⟩);exact .inr (.inr (.inl ⟨f,g,i,e,λc cs=>let ⟨v,w',q,s⟩:=r c cs;⟨v,w',d _ _ q,s⟩⟩));exact .inr (.inr (.inr ⟨l,f,t,x,y,i,e,λc cs=>let ⟨v,w',q,s⟩:=r c cs;⟨v,w',d _ _ q,s⟩⟩))
def aj5(b:mz)(a:Ω)(ds:List Deferred)(ops:Array Oper)(i:Nat)(rest:Δ)(k:List Item)(v:Φ): (fr b a ds (.inRegion ops (i::rest)::k)).finish v=fr b (rA ((ops[i]?).bind (·.dst)) v a) ds (.inRegion ops rest::k):=by cases h:(ops[i]?).bind (·.dst)<;>simp[Frame.finish,fr,rA,h]
def asa{P:Program}{b:mz}{a:Ω}{ds:List Deferred}{k:List Item}{cs:List Frame}{w:Γ}{ops:Array Oper}{i:Nat}{rest:Δ} (h:((ops[i]?).map (Region.wanted · (yielded ops a))).getD false=false): step P (lone (fr b a ds (.inRegion ops (i::rest)::k)) cs w)=.next (lone (fr b (rA ((ops[i]?).bind (·.dst)) undef a) ds (.inRegion ops rest::k)) cs w):=by
 rw[<-aj5];exact mv (by
  simp only[fr]at*
  simp[stepG,stepG.exec,h])
def aJ7{P:Program}{b:mz}{a:Ω}{ds:List Deferred}{k:List Item}{cs:List Frame}{w:Γ}{ops:Array Oper}{i:Nat}{rest:Δ}{o:Oper} (e:ops[i]? =some o)(f:Region.wanted o (yielded ops a)=true)(hd:∀c,o.op≠ .defer c): stepG P true {frame:=fr b a ds (.inRegion ops (i::rest)::k),callers:=cs,status:=.running,dying:=none} w= stepG.apply P true (fr b a ds (.inRegion ops (i::rest)::k)) cs none (execOp (eC a) o) w:=by
 have aP:=S4 b a ds (.inRegion ops (i::rest)::k);simp only[fr]at aP;cases d:b.roundOf with
 |none=>simp[stepG,stepG.exec,stepG.oper,Frame.oper?,fr,e,f,d]at*;rw[aP]
 |some l=>cases g:o.op<;>first|exact absurd g (hd _)|(simp[stepG,stepG.exec,stepG.oper,Frame.oper?,fr,e,f,d,g]at*;rw[aP])
end Go.cE
namespace Go.cE
structure gU where
 s:S
 h:ay
 kb:Δ
abbrev kB:=gU->Option (X×gU)
def wR(σ:b9):Δ->Option (List Deferred)
 |[]=>some []
 |b::l=>match σ b,wR σ l with
  |some p,some ds=>some ({target:=.collected p.ba,args:=#[]}::ds)
  |_,_=>none
def SO{σ a:b9}(h:mV σ a):∀{l:Δ} {ds:List Deferred},wR σ l=some ds->wR a l=some ds
 |[],_,e=>by simpa[wR]using e
 |b::l,ds,e=>by simp only[wR]at e|-;split at e;{rename_i p q ag c;rw[h _ _ ag,SO h c];exact e};{simp at e}
def kM(P:Program)(σ:b9):Prop:=∀g,g<P.globals.size->∃t,σ g=some ⟨g,0,t⟩
variable{P:Program}
def kM.ext{σ a:b9}(h:kM P σ)(e:mV σ a):kM P a:=λg ar=>let ⟨t,aj⟩:=h g ar;⟨t,e _ _ aj⟩
structure Dl (P:Program) (ρ:cj) (aB:Nat) (σ:b9) (x:gU) (a:Ω) (ds:List Deferred) (w:Γ):Prop where
 s:nW ρ σ aB x.s a
 h:c_ ρ σ x.h w
 d:wR σ x.kb=some ds
 g:kM P σ
def IC(P:Program)(m:Machine)(b:mz)(a:Ω)(ds:List Deferred)(k:List Item)(cs:List Frame)(w:Γ):X->Prop
 |.iH=>Steps P m (lone (fr b a ds k) cs w)
 |.exit id=>∃dx,exitTo id dx=exitTo id k/\Steps P m (lone (fr b a ds (.code (.exit id)::dx)) cs w)
 |.ret=>∃dx,Steps P m (lone (fr b a ds (.code .ret::dx)) cs w)
def IC.PJ{P:Program}{m c:Machine}{b:mz}{a:Ω}{ds:List Deferred}{k:List Item}{cs:List Frame}{w:Γ}{x:X} (s:Steps P m c)(h:IC P c b a ds k cs w x):IC P m b a ds k cs w x:=by
 cases x with
 |iH=>exact s.trans h
 |exit id=>let⟨dx,e,t⟩:=h;exact⟨dx,e,s.trans t⟩
 |ret=>let⟨dx,t⟩:=h;exact⟨dx,s.trans t⟩
def ns(P:Program)(ρ:cj)(aB:Nat)(B:mz->Prop)(c:Code)(F:kB):Prop:=
 ∀(σ:b9) (x:gU) (e:X) (d:gU),F x=some (e,d)->
 ∀(b:mz),B b->∀(k:List Item) (cs:List Frame) (a:Ω) (ds:List Deferred) (w:Γ),Dl P ρ aB σ x a ds w->
 ∃g a' f w',Dl P ρ aB g d a' f w'/\jY σ x.h w g d.h w'/\IC P (lone (fr b a ds (.code c::k)) cs w) b a' f k cs w' e
def Qa:kB:=λx=>some (.iH,x)
def Zf(id:Nat):kB:=λx=>some (.exit id,x)
def ac2:kB:=λx=>some (.ret,x)
def Zi:kB:=λ_=>none
def P8(F a:kB):kB:=λx=>match F x with
 |some (.iH,b)=>a b
 |r=>r
def Nb(c:S->U)(F a:kB):kB:=λx=>match c x.s with
 |.bool true=>F x
 |.bool false=>a x
 |_=>none
def MP(id:Nat)(F:kB):kB:=λx=>match F x with
 |some (.exit j,a)=>bif Nat.beq j id then some (.iH,a)else some (.exit j,a)
 |r=>r
def Ee(F:kB):Nat->kB
 |0=>λ_=>none
 |n+1=>λx=>match F x with
  |some (.iH,a)=>Ee F n a
  |r=>r
section
variable {P:Program} {ρ:cj} {aB:Nat} {B:mz->Prop}
def aJe:ns P ρ aB B .skip Qa:=by intro σ x e d h b f k cs a ds w c;simp only[Qa,cx,iX]at h;obtain⟨rfl,rfl⟩:=h;exact⟨σ,a,ds,w,c,.refl _ _ _,.one aJ0⟩
def aI_{l:Nat}:ns P ρ aB B (.label l) Qa:=by intro σ x e d h b f k cs a ds w c;simp only[Qa,cx,iX]at h;obtain⟨rfl,rfl⟩:=h;exact⟨σ,a,ds,w,c,.refl _ _ _,.one aJQ⟩
def KG{c:Code}:ns P ρ aB B c Zi:=by intro σ x e a h;simp[Zi]at h
variable{id:Nat}
def aI9:ns P ρ aB B (.exit id) (Zf id):=by intro σ x e d h b f k cs a ds w c;simp only[Zf,cx,iX]at h;obtain⟨rfl,rfl⟩:=h;exact⟨σ,a,ds,w,c,.refl _ _ _,k,rfl,.refl _ _⟩
def aJc:ns P ρ aB B .ret ac2:=by intro σ x e d h b f k cs a ds w c;simp only[ac2,cx,iX]at h;obtain⟨rfl,rfl⟩:=h;exact⟨σ,a,ds,w,c,.refl _ _ _,k,.refl _ _⟩
def aJd{c d:Code}{F o:kB}(A:ns P ρ aB B c F)(z:ns P ρ aB B d o):ns P ρ aB B (.seq c d) (P8 F o):=by
 intro σ x e D h b q k cs a ds w u;unfold P8 at h;cases g:F x with
 |none=>rw[g]at h;simp at h
 |some r=>
  let⟨ak,p⟩:=r;rw[g]at h;let⟨m,bZ,n,i,j,f,b7⟩:=A σ x ak p g b q (.code d::k) cs a ds w u;cases ak with
  |iH=>simp only at h;let⟨G,cz,s,y,E,C,cw⟩:=z m p e D h b q k cs bZ n i j;exact⟨G,cz,s,y,E,f.trans C,.PJ (.head ady b7) cw⟩
  |exit id=>simp only[cx,iX]at h;obtain⟨rfl,rfl⟩:=h;let⟨dx,t,l⟩:=b7;exact⟨m,bZ,n,i,j,f,dx,by rw[t];rfl,.head ady l⟩
  |ret=>simp only[cx,iX]at h;obtain⟨rfl,rfl⟩:=h;let⟨dx,l⟩:=b7;exact⟨m,bZ,n,i,j,f,dx,.head ady l⟩
def R_(P:Program)(ρ:cj)(aB:Nat)(o:Operand)(x:S->U):Prop:=
 ∀σ s a,kM P σ->nW ρ σ aB s a->aT ρ σ (x s)=some (eC a o)
variable{F:kB}
def aI7{o:Operand}{t:S->U}{c d:Code}{n:kB}(s:R_ P ρ aB o t)(u:ns P ρ aB B c F)(r:ns P ρ aB B d n): ns P ρ aB B (.cond o c d) (Nb t F n):=by intro σ x e p h b q k cs a ds w f;have J:=s σ x.s a f.g f.s;unfold Nb at h;split at h;rename_i G;rw[G]at J;simp only[aT,cx]at J;let⟨l,bZ,m,i,j,g,b7⟩:=u σ x e p h b q k cs a ds w f;exact⟨l,bZ,m,i,j,g,.PJ (.one (ar_ J.symm)) b7⟩;rename_i G;rw[G]at J;simp only[aT,cx]at J;let⟨l,bZ,m,i,j,g,b7⟩:=r σ x e p h b q k cs a ds w f;exact⟨l,bZ,m,i,j,g,.PJ (.one (ar_ J.symm)) b7⟩;simp at h
def aI6{id:Nat}{c:Code}{F:kB}(s:ns P ρ aB B c F):ns P ρ aB B (.block id c) (MP id F):=by
 intro σ x e y h b u k cs a ds w q;unfold MP at h;cases o:F x with
 |none=>rw[o]at h;simp at h
 |some r=>
  let⟨ak,t⟩:=r;rw[o]at h;let⟨m,bZ,n,g,i,d,b7⟩:=s σ x ak t o b u (.inBlock id::k) cs a ds w q;cases ak with
  |iH=>simp only[cx,iX]at h;obtain⟨rfl,rfl⟩:=h;exact⟨m,bZ,n,g,i,d,.head Vt (tT b7 (.one aJO))⟩
  |exit j=>
   simp only[zj]at h;let⟨dx,p,l⟩:=b7;by_cases f:j=id;rw[ci f]at h;simp only[cx,iX]at h;obtain⟨rfl,rfl⟩:=h;subst f;refine⟨m,bZ,n,g,i,d,.head Vt (tT l (.one (aJN ?_)))⟩;rw[p];simp[exitTo]
   .rw[bo f]at h;simp only[cx,iX]at h;obtain⟨rfl,rfl⟩:=h;refine⟨m,bZ,n,g,i,d,dx,?_,.head Vt l⟩;rw[p];have:(id==j)=false:=by simp;exact λe=>f e.symm
    simp[exitTo,this]
  |ret=>simp only[cx,iX]at h;obtain⟨rfl,rfl⟩:=h;let⟨dx,l⟩:=b7;exact⟨m,bZ,n,g,i,d,dx,.head Vt l⟩
def aI'{c:Code}(A:ns P ρ aB B c F)(n:Nat):ns P ρ aB B (.loop c) (Ee F n):=by
 have key:∀(n:Nat) (σ:b9) (x:gU) (e:X) (d:gU),Ee F n x=some (e,d)->∀(b:mz),B b->∀(k:List Item) (cs:List Frame) (a:Ω) (ds:List Deferred) (w:Γ),Dl P ρ aB σ x a ds w->
   ∃s a' q w',Dl P ρ aB s d a' q w'/\jY σ x.h w s d.h w'/\IC P (lone (fr b a ds (.code c::.inLoop c::k)) cs w) b a' q k cs w' e:=by
  intro n;induction n with
  |zero=>intro σ x e d h;simp[Ee]at h
  |succ n E=>
   intro σ x e d h b m k cs a ds w p;simp only[Ee]at h;cases o:F x with
   |none=>rw[o]at h;simp at h
   |some r=>
    let⟨ak,t⟩:=r;rw[o]at h;let⟨j,bZ,l,g,i,f,b7⟩:=A σ x ak t o b m (.inLoop c::k) cs a ds w p;cases ak with
    |iH=>simp only at h;let⟨H,cz,u,z,D,C,cw⟩:=E j t e d h b m k cs bZ l g i;exact⟨H,cz,u,z,D,f.trans C,.PJ (tT b7 (.one aJP)) cw⟩
    |exit id=>simp only[cx,iX]at h;obtain⟨rfl,rfl⟩:=h;let⟨dx,y,G⟩:=b7;exact⟨j,bZ,l,g,i,f,dx,by rw[y];rfl,G⟩
    |ret=>simp only[cx,iX]at h;obtain⟨rfl,rfl⟩:=h;exact⟨j,bZ,l,g,i,f,b7⟩
 intro σ x e d h b m k cs a ds w p;let⟨j,bZ,l,g,i,f,b7⟩:=key n σ x e d h b m k cs a ds w p;exact⟨j,bZ,l,g,i,f,.PJ (.one aJR) b7⟩
end
inductive pv where
 |pure (f:List U->Option U)
 |sB (f:List U->ay->Option U)
 |alloc (f:List U->Option eK) (ret:List U->Nat->U)
 |tl (f:List U->ay->Option (U×ay))
def zh:pv->List U->ay->Option (U×ay)
 |.pure f,s,h=>match f s with|some v=>some (v,h)|none=>none
 |.sB f,s,h=>match f s h with|some v=>some (v,h)|none=>none
 |.alloc f ret,s,h=>match f s with
  |some x=>bif Nat.blt h.nx eG then some (ret s h.nx,h.add x)else none
  |none=>none
 |.tl f,s,h=>f s h
def ea(σ:b9)(b:Nat)(p:nT):b9:=λj=>if j=b then some p else σ j
variable{b:Nat}
def mV.db{σ:b9}{p:nT}(h:σ b=none):mV σ (ea σ b p):=λj q a=>by
 unfold ea
 rw[bo]
 .exact a
 .intro e;subst e;rw[h]at a;cases a
def gf(o:Oper)(a:Ω):υ:=o.op.operands.toList.map (eC a)
def Da(P:Program)(ρ:cj)(o:Oper)(f:List U->ay->Option (U×ay)):Prop:=
 ∀σ s h a w v b,kM P σ->b5 ρ σ s=some (gf o a)->c_ ρ σ h w->f s h=some (v,b)->
  EY P o a w λc w'=>∃d,aT ρ d v=some c/\c_ ρ d b w'/\jY σ h w d b w'
def AZ(P:Program)(ρ:cj)(o:Oper)(f:List U->ay->Option U):Prop:=
 ∀σ s h a w v,kM P σ->b5 ρ σ s=some (gf o a)->c_ ρ σ h w->f s h=some v->∃c,aT ρ σ v=some c/\(execOp (eC a) o).run P w=.ok (.value c) w
def m1(P:Program)(ρ:cj)(o:Oper)(f:List U->Option U):Prop:=
 ∀σ s a w v,kM P σ->b5 ρ σ s=some (gf o a)->f s=some v->∃c,aT ρ σ v=some c/\(execOp (eC a) o).run P w=.ok (.value c) w
def H'(P:Program)(ρ:cj)(o:Oper)(f:List U->Option eK)(ret:List U->Nat->U):Prop:=
 ∀σ s a w x b,kM P σ->b5 ρ σ s=some (gf o a)->f s=some x->σ b=none->
  ∃obj tot d c,(execOp (eC a) o).run P w=.ok (.value c) {w with heap:=w.heap.push obj,drawn:=d}/\
   aT ρ (ea σ b ⟨w.heap.size,0,tot⟩) (ret s b)=some c/\kA ρ (ea σ b ⟨w.heap.size,0,tot⟩) ⟨w.heap.size,0,tot⟩ (some obj) x
def sY(P:Program)(ρ:cj)(o:Oper):pv->Prop
 |.pure f=>m1 P ρ o f
 |.sB f=>AZ P ρ o f
 |.alloc f ret=>H' P ρ o f ret
 |.tl f=>Da P ρ o f
variable{w:Γ}
def c_.apT{ρ:cj}{σ:b9}{h:ay}{w':Γ}(r:c_ ρ σ h w)(e:w'.heap=w.heap):c_ ρ σ h w':=
 ⟨λb x G=>by rw[e];exact r.ba b x G,r.inj,r.kn⟩
variable{obj:Obj}{tot d:Nat}
def c_.add{ρ:cj}{σ:b9}{h:ay}(r:c_ ρ σ h w)(G:σ b=none)(t:b<eG){nx:Nat}(D:h.nx<=nx)(B:b<nx){x:eK} (z:kA ρ (ea σ b ⟨w.heap.size,0,tot⟩) ⟨w.heap.size,0,tot⟩ (some obj) x): c_ ρ (ea σ b ⟨w.heap.size,0,tot⟩) ⟨h.t.set DA b (some x),nx⟩ {w with heap:=w.heap.push obj,drawn:=d}:=by
 have s:∀j,(⟨h.t.set DA b (some x),nx⟩:ay).cW j=if j=b then some x else h.cW j:=λj=>ay.vJ h b j (some x) t
 have C:∀y,h.cW b=some y->False:=λy l=>by let⟨p,ag,_⟩:=r.ba b y l;rw[G]at ag;cases ag
 have old:∀j y,j≠b->h.cW j=some y->∃p,σ j=some p/\p.ba<w/\kA ρ σ p w.heap[p.ba]? y:=λj y _ l=>by let⟨p,ag,f⟩:=r.ba j y l;refine⟨p,ag,?_,f⟩;refine afH λA=>?_;rw[VP A]at f;cases y<;>simp[kA]at f
 refine⟨λj y a=>?_,λj n y o p u a g ag c k=>?_,λj a=>?_⟩
 .rw[s]at a;by_cases e:j=b;subst e;rw[ci rfl]at a;cases a;refine⟨⟨w.heap.size,0,tot⟩,by simp[ea],?_⟩;simpa using z
  .rw[bo e]at a;let⟨p,ag,au,f⟩:=old j y e a;refine⟨p,by simp[ea,e,ag],?_⟩;have:({w with heap:=w.heap.push obj,drawn:=d}:Γ).heap[p.ba]? =w.heap[p.ba]? :=by simp[QZ,sM au]
   rw[this];exact f.ext (.db G)
 rw[s]at a g;by_cases e:j=b;subst e;rw[bo (it k)]at g;let⟨q,i,au,_⟩:=old n o (it k) g;simp only[ea,ci,cx]at ag;simp only[ea,bo (it k)]at c;rw[i]at c;cases c;subst ag;simp;omega;rw[bo e]at a;let⟨q,i,au,_⟩:=old j y e a;simp only[ea,bo e]at ag;rw[i]at ag;cases ag;by_cases m:n=b;subst m;simp only[ea,ci,cx]at c;subst c;simp;omega;rw[bo m]at g;simp only[ea,bo m]at c;exact r.inj j n y o _ u a g i c k
 .have:j≠b:=by simp at a;omega
  simp only[ea,bo this];exact r.kn j (by simp at a;omega)
def jY.add{σ:b9}{h:ay}(G:σ b=none)(f:b<eG)(i:h.nx<=b){nx:Nat}(k:h.nx<=nx){x:eK}:
  jY σ h w (ea σ b ⟨w.heap.size,0,tot⟩) ⟨h.t.set DA b (some x),nx⟩ {w with heap:=w.heap.push obj,drawn:=d} where
 ext:=.db G
 d_:=λj a g=>by
  by_cases e:j=b
  .subst e;exact i
  .simp[ea,e,a]at g
 nx:=k
 size:=aq
 kept:=λr c _=>by simp[QZ,sM c]
 oe:=λr ⟨j,y,p,a,ag,c⟩=>by
  rw[show(⟨h.t.set DA b (some x),nx⟩:ay).cW j=if j=b then some x else h.cW j from ay.vJ h b j (some x) f]at a
  by_cases e:j=b
  .subst e
   simp only[ea,ci,cx]at ag
   subst ag
   left;simp at c;omega
  .rw[bo e]at a
   simp only[ea,bo e]at ag
   exact .inr ⟨j,y,p,a,ag,c⟩
 os:=rfl
 output:=rfl
 tape:=rfl
def sY.tl{P:Program}{ρ:cj}{o:Oper}:∀{f:pv},sY P ρ o f->Da P ρ o (zh f)
 |.pure f,b=>by intro σ s h a w v l ar j g e;simp only[zh]at e;split at e;{rename_i u hu;simp at e;obtain⟨rfl,rfl⟩:=e;let⟨c,i,k⟩:=b σ s a w _ ar j hu;exact .inl ⟨c,w,k,σ,i,g,.refl _ _ _⟩};{simp at e}
 |.sB f,b=>by intro σ s h a w v l ar j g e;simp only[zh]at e;split at e;{rename_i u hu;simp at e;obtain⟨rfl,rfl⟩:=e;let⟨c,i,k⟩:=b σ s h a w _ ar j g hu;exact .inl ⟨c,w,k,σ,i,g,.refl _ _ _⟩};{simp at e}
 |.alloc f ret,b=>by
  intro σ s h a w v l ar j g e;simp only[zh]at e;split at e
  .rename_i u hu;cases au:Nat.blt h.nx eG with
   |false=>simp[au]at e
   |true=>
    have m:h.nx<eG:=by simpa using au
    simp[au]at e
    obtain⟨rfl,rfl⟩:=e
    have G:=g.kn h.nx (aY _)
    let⟨obj,tot,d,c,k,i,n⟩:=b σ s a w u h.nx ar j hu G
    exact .inl ⟨c,_,k,_,i,g.add G m (rj _) (EU _) n,.add G m (aY _) (rj _)⟩
  .simp at e
 |.tl f,b=>b
def zA(x:U)(a:Bool):Option Bool:=match x with
 |.bool b=>some (b==a)
 |.sym _=>none
 |_=>some false
structure za where
 guard:Option ((S->U)×Bool)
 dst:Option Nat
 aH:List (S->U)
 op:pv
def nd(aH:List (S->U))(s:S):List U:=match aH with
 |[]=>[]
 |x::l=>x s::nd l s
def pP(d:Option Nat)(v:U)(s:S):S:=match d with|some d=>put d v s|none=>s
def Ev:List za->S->ay->Option (S×ay)
 |[],s,h=>some (s,h)
 |o::l,s,h=>
  match (match o.guard with|none=>some true|some (x,b)=>zA (x s) b)with
  |some true=>match zh o.op (nd o.aH s) h with
   |some (v,a)=>Ev l (pP o.dst v s) a
   |none=>none
  |some false=>Ev l (pP o.dst qG s) h
  |none=>none
def Mk(P:Program)(ρ:cj)(aB:Nat):List Operand->List (S->U)->Prop
 |[],[]=>True
 |o::l,x::m=>R_ P ρ aB o x/\Mk P ρ aB l m
 |_,_=>False
def Mk.aT{P:Program}{ρ:cj}{aB:Nat}:∀{l:List Operand} {aH:List (S->U)},Mk P ρ aB l aH->∀{σ:b9} {s:S} {a:Ω},kM P σ->nW ρ σ aB s a->
  b5 ρ σ (nd aH s)=some (l.map (eC a))
 |[],[],_,_,_,_,_,_=>rfl
 |o::l,x::m,⟨h,t⟩,σ,s,a,ar,b=>by simp only[nd,b5,h σ s a ar b,t.aT ar b,qu]
 |[],_::_,h,_,_,_,_,_=>h.elim
 |_::_,[],h,_,_,_,_,_=>h.elim
structure Sc (P:Program) (ρ:cj) (aB:Nat) (ops:Array Oper) (o:Oper) (r:za):Prop where
 op:sY P ρ o r.op
 aH:Mk P ρ aB o.op.operands.toList r.aH
 dst:r.dst=o.dst
 lt:∀t,o.dst=some t->t<aB
 UR:∀c,o.op≠ .defer c
 guard:match o.guard with
  |none=>r.guard=none
  |some (j,ip)=>∃t,(ops[j]?).bind (·.dst)=some t/\t<aB/\r.guard=some (g t,ip)
def aet{P:Program}{ρ:cj}{aB:Nat}{ops:Array Oper}{o:Oper}{r:za}(p:Sc P ρ aB ops o r){σ:b9}{s:S}{a:Ω}(i:nW ρ σ aB s a){t:Bool} (e:(match r.guard with|none=>some true|some (x,h)=>zA (x s) h)=some t):Region.wanted o (yielded ops a)=t:=by
 have ar:=p.guard;unfold Region.wanted;cases k:o.guard with
 |none=>rw[k]at ar;simp only at ar;rw[ar]at e;simp at e;simp[e]
 |some m=>
  let⟨j,h⟩:=m;rw[k]at ar;simp only at ar;let⟨u,hu,au,n⟩:=ar;rw[n]at e;simp only at e|-;have d:=i.2.2 u au;have w:a[u]? =some (a.getD u undef):=by
   have:u<a.size:=by rw[i.1];exact au
   simp[Array.getD,this]
  unfold yielded;rw[hu];simp only[CQ,w];generalize a.getD u undef=c at d;generalize g u s=x at d e;cases x<;>simp only[zA,cx,reduceCtorEq]at e<;>simp only[aT]at d;case bool b=>cases d;subst e;cases b<;>cases h<;>rfl
  case str l=>split at d<;>cases d;subst e;rfl
  case fn f x y=>split at d<;>cases d;subst e;rfl
  all_goals
   subst e;first
    |(cases d;rfl)
    |(simp only[iW]at d;obtain⟨q,_,rfl⟩:=d;rfl)
def Sm{P:Program}{b:mz}{a:Ω}{ds:List Deferred}{k:List Item}{cs:List Frame}{w:Γ}{ops:Array Oper}{i:Nat}{rest:Δ}{o:Oper}{R:Φ->Γ->Prop} (g:ops[i]? =some o)(j:Region.wanted o (yielded ops a)=true)(hd:∀c,o.op≠ .defer c)(h:EY P o a w R):∃v w',R v w'/\Steps P (lone (fr b a ds (.inRegion ops (i::rest)::k)) cs w) (lone (fr b (rA o.dst v a) ds (.inRegion ops rest::k)) cs w'):=by
 have ar:=aJ7 (P:=P) (b:=b) (ds:=ds) (k:=k) (cs:=cs) (w:=w) (rest:=rest) g j hd;have Bx:∀v,(fr b a ds (.inRegion ops (i::rest)::k)).finish v=fr b (rA o.dst v a) ds (.inRegion ops rest::k):=λv=>by rw[aj5,g];rfl
 rcases h with⟨v,w',d,r⟩|⟨w',d,r⟩|⟨f,args,e,d,amv⟩|⟨l,f,t,x,y,e,d,amv⟩
 .refine⟨v,w',r,.one (mv ?_)⟩;rw[ar,<-Bx];simp[stepG.apply,d]
 .refine⟨undef,w',r,.one (mv ?_)⟩;rw[ar,<-Bx];simp[stepG.apply,d]
 .have H:step P (lone (fr b a ds (.inRegion ops (i::rest)::k)) cs w)=.next (lone (Frame.enter P f args .normal) (fr b a ds (.inRegion ops (i::rest)::k)::cs) e):= mv (by rw[ar];simp[stepG.apply,d,fr]);exact an2
 .have H:step P (lone (fr b a ds (.inRegion ops (i::rest)::k)) cs w)=.next (lone (Frame.round l f t x y .normal) (fr b a ds (.inRegion ops (i::rest)::k)::cs) e):= mv (by rw[ar];simp[stepG.apply,d]);exact an2
def nW.pP{ρ:cj}{σ:b9}{aB:Nat}{s:S}{a:Ω}(h:nW ρ σ aB s a){d:Option Nat}(hd:∀t,d=some t->t<aB){v:U}{c:Φ}(J:aT ρ σ v=some c): nW ρ σ aB (cE.pP d v s) (rA d c a):=by
 cases d with
 |none=>exact h
 |some t=>exact h.put (hd t rfl) J
def Na(ρ:cj)(σ:b9):aT ρ σ qG=some undef:=by simp[qG,aT,b5,undef]
def Sd(P:Program)(ρ:cj)(aB:Nat)(ops:Array Oper):List Oper->List za->Prop
 |[],[]=>True
 |o::l,r::m=>Sc P ρ aB ops o r/\Sd P ρ aB ops l m
 |_,_=>False
def acH{P:Program}{ρ:cj}{aB:Nat}{ops:Array Oper}:∀(l:List Oper) (rs:List za) (j:Nat),Sd P ρ aB ops l rs->(∀i,ops[j+i]? =l[i]?)->
  ∀(σ:b9) (s:S) (h:ay) (m:S) (g:ay),Ev rs s h=some (m,g)->
  ∀(b:mz) (k:List Item) (cs:List Frame) (a:Ω) (ds:List Deferred) (w:Γ),kM P σ->nW ρ σ aB s a->c_ ρ σ h w->
  ∃y a' w',nW ρ y aB m a'/\c_ ρ y g w'/\jY σ h w y g w'/\Steps P (lone (fr b a ds (.inRegion ops (List.range' j l)::k)) cs w) (lone (fr b a' ds k) cs w')
 |[],[],j,_,_,σ,s,h,m,g,e,b,k,cs,a,ds,w,ar,f,n=>by simp only[Ev,cx,iX]at e;obtain⟨rfl,rfl⟩:=e;exact⟨σ,a,w,f,n,.refl _ _ _,.one asb⟩
 |o::l,r::rs,j,⟨d,F⟩,E,σ,s,h,m,g,e,b,k,cs,a,ds,w,ar,f,n=>by(have x:ops[j]? =some o:=by simpa using E 0);(have D:∀i,ops[j+1+i]? =l[i]? :=λi=>by have:=E (i+1);simpa[k4,tW 1 i]using this);simp only[Ev]at e;split at e;{rename_i aj;have z:=aet d f aj;split at e;{rename_i v H J;have L:=d.op.tl σ _ h a w v H ar (d.aH.aT ar f) n J;obtain⟨c,K,⟨M,G,I,p⟩,an⟩:=Sm (b:=b) (ds:=ds) (k:=k) (cs:=cs) (rest:=List.range' (j+1) l) x z d.UR L;rw[d.dst]at e;obtain⟨B,cz,u,A,t,C,q⟩:=acH l rs (j+1) F D M _ H m g e b k cs (rA o.dst c a) ds K (ar.ext p.ext) ((f.ext p.ext).pP d.lt G) I;exact⟨B,cz,u,A,t,p.trans C,an.trans q⟩};{simp at e}};{rename_i aj;have z:=aet d f aj;have an:=asa (P:=P) (b:=b) (a:=a) (ds:=ds) (k:=k) (cs:=cs) (w:=w) (ops:=ops) (i:=j) (rest:=List.range' (j+1) l) (by simp[x,z]);simp only[x,CQ]at an;rw[d.dst]at e;obtain⟨B,cz,u,A,t,C,q⟩:=acH l rs (j+1) F D σ _ h m g e b k cs (rA o.dst undef a) ds w ar (f.pP d.lt (Na ρ σ)) n;exact⟨B,cz,u,A,t,C,.head an q⟩};{simp at e}
 |[],_::_,_,h,_,_,_,_,_,_,_,_,_,_,_,_,_,_,_,_=>h.elim
 |_::_,[],_,h,_,_,_,_,_,_,_,_,_,_,_,_,_,_,_,_=>h.elim
def Vc(rs:List za):kB:=λx=>match Ev rs x.s x.h with
 |some (s,h)=>some (.iH,⟨s,h,x.kb⟩)
 |none=>none
def aJb{P:Program}{ρ:cj}{aB:Nat}{B:mz->Prop}{id:Nat}{ops:Array Oper}{rs:List za}(g:Sd P ρ aB ops ops.toList rs):ns P ρ aB B (.region id ops false) (Vc rs):=by
 intro σ x e q h b _ k cs a ds w c;unfold Vc at h;split at h
 .rename_i n f m;simp only[cx,iX]at h;obtain⟨rfl,rfl⟩:=h;obtain⟨o,bZ,j,l,H,d,an⟩:=acH ops.toList rs 0 g (λi=>aq) σ x.s x.h n f m b k cs a ds w c.g c.s c.h;refine⟨o,bZ,ds,j,⟨l,H,SO d.ext c.d,c.g.ext d.ext⟩,d,.head aJV ?_⟩;simpa[afb]using an
 .simp at h
inductive IJ (ops:Array Oper):(Nat->Bool)->List Nat->Prop
 |nil {D:Nat->Bool}:(∀i,i<ops.size->D i=true)->IJ ops D []
 |cons {D:Nat->Bool} {i:Nat} {o:Oper} {l:List Nat}:ops[i]? =some o->D i=false->(∀e∈o.after.toList,Region.binds .any e=true->D e.on=true)->
  IJ ops (fun j=>D j||j==i) l->IJ ops D (i::l)
def Wt(ops:Array Oper):Prop:=∀i o,ops[i]? =some o->∀e∈o.after.toList,Region.binds .any e=true->e.on<i
def anD(D:Nat->Bool):∀n,(∃i,i<n/\D i=false)->∃i,i<n/\D i=false/\∀j,j<i->D j=true
 |0,⟨i,h,_⟩=>by omega
 |n+1,⟨i,h,hi⟩=>by
  by_cases a:∃i,i<n/\D i=false
  .obtain⟨k,H,I,c⟩:=anD D n a;exact⟨k,z,I,c⟩
  .have:i=n:=by by_cases e:i<n;exact(a ⟨i,e,hi⟩).elim;omega
   subst this;refine⟨i,h,hi,λj b=>?_⟩;cases hd:D j with
   |true=>rfl
   |false=>exact(a ⟨j,b,hd⟩).elim
def EH(n:Nat)(D:Nat->Bool):Nat:=((List.range n).filter λi=> !D i).length
variable{n:Nat}
def aLT{D:Nat->Bool}(h:EH n D=0)(i:Nat)(hi:i<n):D i=true:=by unfold EH at h;have:=CN.1 h;rw[ato]at this;have:=this i (xK.2 hi);simpa using this
def aj3(D:Nat->Bool)(i:Nat)(c:D i=false):∀(l:Δ),l.Nodup->i∈l->(l.filter λj=> !D j).length=(l.filter λj=> !(D j||j==i)).length+1
 |[],_,h=>by cases h
 |a::l,b,h=>by
  rw[List.nodup_cons]at b;by_cases e:a=i
  .subst e;have:(l.filter λj=> !(D j||j==a))=l.filter λj=> !D j:=by apply List.filter_congr;intro j d;have:j≠a:=λe=>b.1 (e▸d);simp[this]
   rw[afw,afw,this];simp[c]
  .have hi:i∈l:=by
    cases h with
    |head=>exact(e rfl).elim
    |tail _ h=>exact h
   have f:=aj3 D i c l b.2 hi;simp only[afw];have:(a==i)=false:=by simpa using e
   cases g:D a<;>simp[this]at f|- <;>omega
variable{i:Nat}
def aLS{D:Nat->Bool}(hi:i<n)(a:D i=false):EH n D=EH n (λj=>D j||j==i)+1:=
 aj3 D i a _ List.nodup_range (xK.2 hi)
def anI{ops:Array Oper}(G:Wt ops):∀(o t:Nat) (c:Array Bool) (k:Δ) (D:Nat->Bool),c.size=ops.size->(∀i,i<ops.size->c.getD i true=D i)->(∀i,ops.size<=i->D i=true∨D i=false)->
  (∀i,i<ops.size->c.getD i false=D i)->EH ops.size D=o->(∀i,ops.size<=i->D i=false)->
  ∃n,Region.linearise.go .any ops o t c k=k.reverse++n/\IJ ops D n
 |0,t,c,k,D,f,H,_,I,hu,y=>⟨[],by simp[Region.linearise.go],.nil λi hi=>aLT hu i hi⟩
 |o+1,t,c,k,D,f,H,Q,I,hu,y=>by
  have C:∃i,i<ops.size/\D i=false:=by
   apply Classical.byContradiction;intro B
   have:EH ops.size D=0:=by
    unfold EH;rw[CN,ato];intro a aL;have aL:=xK.1 aL;cases hd:D a with
    |true=>simp
    |false=>exact(B ⟨a,aL,hd⟩).elim
   omega
  let⟨g,r,F,K⟩:=anD D ops.size C;rw[Region.linearise.go]
  generalize A:((List.range ops.size).filter λi=>
    !c.getD i true&&((ops[i]?).map (·.after.all λe=> !Region.binds .any e||c.getD e.on false)).getD false)=rs
  have M:rs≠[]:=by intro J;(have u:g∈rs:=by rw[<-A,H6];refine⟨xK.2 r,?_⟩;(have d:ops[g]? =some ops[g]:=by simp[r]);simp only[H g r,F,d,ov,Ln,Q0,Bool.true_and,as8];intro e aP;by_cases m:Region.binds .any e=true;{have au:=G g _ d e (by simpa using aP) m;simp[I e.on z,K e.on au]};simp[m]);rw[J]at u;cases u
  have N:0<rs.length:=by
   cases rs with
   |nil=>exact(M rfl).elim
   |cons a l=>simp
  have au:=yP t N;have s:rs[t%rs.length]? =some rs[t%rs.length]:=by simp[au]
  generalize rs[t%rs.length]=i at s;rw[s];simp only;have x:i∈rs:=CO s;rw[<-A,H6]at x;let⟨hi,ag⟩:=x;have hi:=xK.1 hi;have d:ops[i]? =some ops[i]:=by simp[hi]
  simp only[H i hi,d,ov,Ln,dW,Bool.not_eq_true',as8]at ag;let⟨w,P⟩:=ag
  have O:=anI G o (t/rs.length) (c.setIfInBounds i true) (i::k) (λj=>D j||j==i) (by simpa using f)
   (λj b=>by
    by_cases e:j=i
    .subst e;simp[Array.getD,f,b]
    .have:=H j b
     have q:(j==i)=false:=by simpa using e
     simp[Array.getD,f,b,VR,it e,q]at this|-
     exact this)
   (λj _=>by cases (D j||j==i)<;>simp)
   (λj b=>by
    by_cases e:j=i
    .subst e;simp[Array.getD,f,b]
    .have:=I j b
     have q:(j==i)=false:=by simpa using e
     simp[Array.getD,f,b,VR,it e,q]at this|-
     exact this)
   (by have:=aLS hi w;omega)
   (λj b=>by
    have:(j==i)=false:=bw
    simp[y j b,this])
  let⟨n,L,E⟩:=O;refine⟨i::n,by rw[L];simp,.cons d w (λe aP m=>?_) E⟩;have:=P e (by simpa using aP);rw[m]at this;have au:=G i _ d e aP m;rw[I e.on z]at this;simpa using this
variable{ops:Array Oper}
def aIP(G:Wt ops)(t:Nat):IJ ops (λ_=>false) (Region.schedule true ops t):=by unfold Region.schedule;simp only[Bool.true_or,oR];unfold Region.linearise;let⟨b,h,a⟩:=anI G ops.size t (Array.replicate ops.size false) [] (λ_=>false) aq (λi hi=>by simp[Array.getD,hi]) (λ_ _=>.inr rfl) (λi hi=>by simp[Array.getD,hi]) (by simp only[EH,Q0];rw[List.filter_eq_self.2 (λ_ _=>rfl)];simp) (λ_ _=>rfl);rw[h];simpa using a
mutual
def U.beq:U->U->Bool
 |.int k n,.int j m=>decide (k=j)&&decide (n=m)
 |.bool a,.bool b=>a==b
 |.str a,.str b=>decide (a=b)
 |.ji a b,.ji c d=>Nat.beq a c&&Nat.beq b d
 |.rU,.rU=>true
 |.slice a b c d e,.slice a' i g h l=>Nat.beq a a'&&Nat.beq b i&&Nat.beq c g&&Nat.beq d h&&decide (e=l)
 |.dM,.dM=>true
 |.map a,.map b=>Nat.beq a b
 |.Ek,.Ek=>true
 |.fn f a c,.fn q a' g=>Nat.beq f q&&U.p_ a a'&&U.p_ c g
 |.xF a,.xF b=>Nat.beq a b
 |.z',.z'=>true
 |.iface t v,.iface p o=>Nat.beq t p&&U.beq v o
 |.GV,.GV=>true
 |.agg a,.agg b=>U.p_ a b
 |.tup a,.tup b=>U.p_ a b
 |.sym a,.sym b=>Nat.beq a b
 |.lZ a b c d,.lZ a' i g h=>Nat.beq a a'&&Nat.beq b i&&Nat.beq c g&&Nat.beq d h
 |_,_=>false
def U.p_:List U->List U->Bool
 |[],[]=>true
 |a::l,b::m=>U.beq a b&&U.p_ l m
 |_,_=>false
end
mutual
def U.beq_eq:∀{a b:U},U.beq a b=true->a=b
 |.int k n,b,h=>by cases b<;>simp[U.beq]at h;simp[h]
 |.bool _,b,h=>by cases b<;>simp[U.beq]at h;simp[h]
 |.str _,b,h=>by cases b<;>simp[U.beq]at h;simp[h]
 |.ji _ _,b,h=>by cases b<;>simp[U.beq]at h;simp[h]
 |.rU,b,h=>by cases b<;>simp[U.beq]at h;rfl
 |.slice ..,b,h=>by cases b<;>simp[U.beq]at h;simp[h]
 |.dM,b,h=>by cases b<;>simp[U.beq]at h;rfl
 |.map _,b,h=>by cases b<;>simp[U.beq]at h;simp[h]
 |.Ek,b,h=>by cases b<;>simp[U.beq]at h;rfl
 |.fn f x y,b,h=>by cases b<;>simp only[U.beq,dW,re]at h;let⟨⟨H,I⟩,c⟩:=h;rw[gK H,U.un I,U.un c]
 |.xF _,b,h=>by cases b<;>simp[U.beq]at h;simp[h]
 |.z',b,h=>by cases b<;>simp[U.beq]at h;rfl
 |.iface t v,b,h=>by cases b<;>simp only[U.beq,dW,re]at h;let⟨H,I⟩:=h;rw[gK H,U.beq_eq I]
 |.GV,b,h=>by cases b<;>simp[U.beq]at h;rfl
 |.agg l,b,h=>by cases b<;>simp only[U.beq,re]at h;rw[U.un h]
 |.tup l,b,h=>by cases b<;>simp only[U.beq,re]at h;rw[U.un h]
 |.sym _,b,h=>by cases b<;>simp[U.beq]at h;simp[h]
 |.lZ ..,b,h=>by cases b<;>simp[U.beq]at h;simp[h]
def U.un:∀{a b:List U},U.p_ a b=true->a=b
 |[],[],_=>rfl
 |a::l,b::m,h=>by simp only[U.p_,dW]at h;rw[U.beq_eq h.1,U.un h.2]
 |[],_::_,h=>by simp[U.p_]at h
 |_::_,[],h=>by simp[U.p_]at h
end
structure f_ where
 r:za
 slots:Δ
 pre:Nat
inductive iB where
 |skip
 |uX (v:U)
 |zZ (f:List U->ay->Option U) (aH:List U) (v:U)
 |kI (b:Nat) (x:eK) (v:U)
 |J (v:U) (hx mL:ay)
def iB.val:iB->U
 |.skip=>qG
 |.uX v=>v
 |.zZ _ _ v=>v
 |.kI _ _ v=>v
 |.J v _ _=>v
abbrev s0:=Nat×Nat×eK
def wJ(h:ay):List s0->ay
 |[]=>h
 |q::l=>wJ (h.db q.2.1 (some q.2.2)) l
def NL(o:za)(s:S):Option Bool:=match o.guard with|none=>some true|some (x,a)=>zA (x s) a
def yD(d:f_)(i:Nat)(p:List s0):iB->List s0
 |.J _ _ _=>p.filter λq=> !d.pre.testBit q.1
 |.kI b x _=>(i,b,x)::p
 |_=>p
def apE(h:ay):iB->ay
 |.J _ _ a=>a
 |_=>h
def HD(d:f_)(s:S)(a:ay)(p:List s0)(rb:Nat):Option iB:=
 match NL d.r s with
 |none=>none
 |some false=>some .skip
 |some true=>
  match d.r.op with
  |.pure f=>match f (nd d.r.aH s)with|some v=>some (.uX v)|none=>none
  |.sB f=>match f (nd d.r.aH s) a with|some v=>some (.zZ f (nd d.r.aH s) v)|none=>none
  |.alloc f ret=>match f (nd d.r.aH s)with|some x=>some (.kI rb x (ret (nd d.r.aH s) rb))|none=>none
  |.tl f=>match f (nd d.r.aH s) (wJ a (p.filter λq=>d.pre.testBit q.1))with
   |some (v,b)=>some (.J v (wJ a (p.filter λq=>d.pre.testBit q.1)) b)
   |none=>none
def MQ(rb:Nat):iB->Nat
 |.kI _ _ _=>rb+1
 |_=>rb
def Np:List f_->Nat->S->ay->List s0->Nat->Option (List iB×S×ay×List s0×Nat)
 |[],_,s,a,p,rb=>some ([],s,a,p,rb)
 |d::l,i,s,a,p,rb=>
  match HD d s a p rb with
  |none=>none
  |some eO=>match Np l (i+1) (pP d.r.dst eO.val s) (apE a eO) (yD d i p eO) (MQ rb eO)with
   |none=>none
   |some (tr,r)=>some (eO::tr,r)
def jT:List f_->List iB->Nat->List (Nat×Nat×ay)
 |d::l,.J _ _ h::tr,i=>(i,d.pre,h)::jT l tr (i+1)
 |_::l,_::tr,i=>jT l tr (i+1)
 |_,_,_=>[]
def Bd:List (Nat×Nat×ay)->Bool
 |[]=>true
 |x::l=>l.all (λy=>y.2.1.testBit x.1)&&Bd l
def NC(a:Option U)(v:U):Bool:=match a with|some u=>U.beq u v|none=>false
def FD(i pre:Nat)(f:ay->Option U)(v:U):ay->List (Nat×Nat×ay)->Bool
 |h,[]=>NC (f h) v
 |h,y::l=>bif y.2.1.testBit i then NC (f h) v else(bif pre.testBit y.1 then true else NC (f h) v)&&FD i pre f v y.2.2 l
def x9(af:ay)(a:List (Nat×Nat×ay)):List f_->List iB->Nat->Bool
 |d::l,.zZ f aH v::tr,i=>FD i d.pre (f aH) v af a&&x9 af a l tr (i+1)
 |_::l,_::tr,i=>x9 af a l tr (i+1)
 |_,_,_=>true
def No(rs:List f_)(a:Nat):kB:=λx=>
 bif Nat.blt (x.h.nx+a) eG then
  match Np rs 0 x.s ⟨x.h.t,x.h.nx+a⟩ [] x.h.nx with
  |some (tr,s,h,p,rb)=>
   bif Nat.ble rb (x.h.nx+a)&&(let b:=jT rs tr 0;Bd b&&x9 ⟨x.h.t,x.h.nx+a⟩ b rs tr 0)then some (.iH,⟨s,wJ h p,x.kb⟩)else none
  |none=>none
 else none
def B1(aB:Nat)(ops:List Oper)(rs:List f_):Bool:=
 let n:=ops.length
 (List.range n).all λi=>
  match ops[i]?,rs[i]? with
  |some o,some d=>
   (o.after.toList.all λe=> !Region.binds .any e||decide (e.on<i))&&
   ((List.range n).all λj=> !d.pre.testBit j||(o.after.toList.any λe=>Region.binds .any e&&(e.on==j||((rs[e.on]?).map (·.pre.testBit j)).getD false)))&&
   (match d.r.dst with|some t=>decide (t<aB)|none=>true)&&
   (d.slots.all λt=>decide (t<aB))&&
   ((
    List.range n).all λj=>
    match rs[j]? with
    |some a=>match a.r.dst with
     |some t=>i==j|| !(d.slots.contains t||d.r.dst==some t)||(if j<i then d.pre.testBit j else a.pre.testBit i)
     |none=>true
    |none=>true)
  |_,_=>false
def pQ:List f_->List iB->Nat->S->S
 |d::l,eO::tr,k+1,s=>pQ l tr k (pP d.r.dst eO.val s)
 |_,_,_,s=>s
def s9:List iB->Nat->ay->ay
 |eO::tr,k+1,h=>s9 tr k (apE h eO)
 |_,_,h=>h
def nI:List f_->List iB->Nat->Nat->List s0->List s0
 |d::l,eO::tr,i,k+1,p=>nI l tr (i+1) k (yD d i p eO)
 |_,_,_,_,p=>p
def kZ:List iB->Nat->Nat->Nat
 |eO::tr,k+1,rb=>kZ tr k (MQ rb eO)
 |_,_,rb=>rb
def ajw:∀{rs:List f_} {i:Nat} {s:S} {a:ay} {p:List s0} {rb:Nat} {tr:List iB} {f:S} {c:ay} {e:List s0} {g:Nat},
  Np rs i s a p rb=some (tr,f,c,e,g)->
  tr.length=rs.length/\f=pQ rs tr rs s/\c=s9 tr rs a/\e=nI rs tr i rs p/\g=kZ tr rs rb/\
  ∀k d,rs[k]? =some d->∃eO,tr[k]? =some eO/\HD d (pQ rs tr k s) (s9 tr k a) (nI rs tr i k p) (kZ tr k rb)=some eO
 |[],i,s,a,p,rb,tr,f,c,e,g,h=>by simp only[Np,cx,iX]at h;obtain⟨rfl,rfl,rfl,rfl,rfl⟩:=h;simp[pQ,s9,nI,kZ]
 |d::l,i,s,a,p,rb,tr,f,c,e,g,h=>by
  simp only[Np]at h;split at h
  .simp at h
  .rename_i eO y;split at h
   .simp at h
   .rename_i z u n;let⟨bZ,cz,a3,a4⟩:=u;simp only[cx,iX]at h;obtain⟨rfl,rfl,rfl,rfl,rfl⟩:=h;let⟨H,I,o,m,q,x⟩:=ajw n;refine⟨by simp[H],by simpa[pQ]using I,by simpa[s9]using o,by simpa[nI]using m,by simpa[kZ]using q,λk t b=>?_⟩;cases k with
    |zero=>
     simp at b;subst b
     exact⟨eO,aq,by simpa[pQ,s9,nI,kZ]using y⟩
    |succ k=>
     simp at b
     let⟨j,r,w⟩:=x k t b
     exact⟨j,by simpa using r,by simpa[pQ,s9,nI,kZ]using w⟩
def rS(D:Nat->Bool):List f_->List iB->Nat->Nat->U->U
 |d::l,eO::tr,i,t,v=>rS D l tr (i+1) t (if D i=true/\d.r.dst=some t then eO.val else v)
 |_,_,_,_,v=>v
def aki{t:Nat}(aj:t<256){d:Option Nat}(hd:∀u,d=some u->u<256)(v:U)(s:S):g t (pP d v s)=if d=some t then v else g t s:=by
 cases d with
 |none=>simp[pP]
 |some u=>
  simp only[pP,cx];by_cases e:u=t;subst e;rw[ci rfl,ZA];rw[bo e];exact Zz t u v s z (by have:=hd u rfl;omega) (it e)
def Uq{D D':Nat->Bool}{t:Nat}:∀{rs:List f_} {tr:List iB} {i:Nat} {v:U},(∀j d,rs[j]? =some d->d.r.dst=some t->D (i+j)=D' (i+j))->rS D rs tr i t v=rS D' rs tr i t v
 |[],_,_,_,_=>rfl
 |_::_,[],_,_,_=>rfl
 |d::l,eO::tr,i,v,h=>by simp only[rS];have af:=h 0 d aq;(have:(if D i=true/\d.r.dst=some t then eO.val else v)=(if D' i=true/\d.r.dst=some t then eO.val else v):=by by_cases e:d.r.dst=some t;{have:=af e;simp at this;simp[e,this]};simp[e]);rw[this];exact Uq λj b a hd=>by have:=h (j+1) b (by simpa using a) hd;simpa[k4,tW 1 j]using this
def Ur{D:Nat->Bool}{t:Nat}:∀{rs:List f_} {tr:List iB} {i:Nat} {v:U},(∀j d,rs[j]? =some d->d.r.dst=some t->D (i+j)=false)->rS D rs tr i t v=v
 |[],_,_,_,_=>rfl
 |_::_,[],_,_,_=>rfl
 |d::l,eO::tr,i,v,h=>by simp only[rS];have af:=h 0 d aq;(have:(if D i=true/\d.r.dst=some t then eO.val else v)=v:=by rw[bo];rintro⟨H,I⟩;have:=af I;simp at this;rw[this]at H;cases H);rw[this];exact Ur λj b a hd=>by have:=h (j+1) b (by simpa using a) hd;simpa[k4,tW 1 j]using this
def anz{D:Nat->Bool}{t:Nat}:∀{rs:List f_} {tr:List iB} {i k:Nat} {v:U} {d:f_} {eO:iB},rs[k]? =some d->tr[k]? =some eO->d.r.dst=some t->D (i+k)=true->
  (∀j a,k<j->rs[j]? =some a->a.r.dst=some t->D (i+j)=false)->rS D rs tr i t v=eO.val
 |[],_,_,k,_,_,_,h,_,_,_,_=>by simp at h
 |_::_,[],_,k,_,_,_,_,h,_,_,_=>by simp at h
 |q::l,o::tr,i,k,v,d,eO,hd,b,g,c,f=>by
  simp only[rS];cases k with
  |zero=>
   simp at hd b
   subst hd;subst b
   simp at c
   rw[ci ⟨c,g⟩]
   exact Ur λj a e hd=>by
    have:=f (j+1) a z (by simpa using e) hd
    simpa[k4,tW 1 j]using this
  |succ k=>
   simp at hd b
   exact anz hd b g (by simpa[k4,tW 1 k]using c) λj a e n m=>by
    have:=f (j+1) a z (by simpa using n) m
    simpa[k4,tW 1 j]using this
def ZB{t:Nat}(aj:t<256):∀{rs:List f_} {tr:List iB} {i k:Nat} {s:S},(∀d∈rs,∀u,d.r.dst=some u->u<256)->
  g t (pQ rs tr k s)=rS (λj=>decide (j<i+k)) rs tr i t (g t s)
 |[],_,_,_,_,_=>by simp[pQ,rS]
 |_::_,[],_,_,_,_=>by simp[pQ,rS]
 |d::l,eO::tr,i,k,s,h=>by
  cases k with
  |zero=>
   simp only[pQ,hY]
   rw[Ur]
   intro j a _ _
   simp
  |succ k=>
   simp only[pQ,rS]
   rw[ZB aj (i:=i+1) λa b=>h a (jw _ b),aki aj (h d aq)]
   have e:(λj=>decide (j<i+1+k))=(λj=>decide (j<i+(k+1))):=by funext j;congr 1;simp;omega
   rw[e]
   congr 1
   simp
def sA(h:ay):List (Nat×Nat×ay)->ay
 |[]=>h
 |y::l=>sA y.2.2 l
def J'(h:ay):∀(l m:List (Nat×Nat×ay)),sA h (l++m)=sA (sA h l) m
 |[],_=>rfl
 |y::l,m=>by simp[sA,J' y.2.2 l m]
def qh:List f_->List iB->Nat->Nat->List (Nat×Nat×ay)
 |d::l,eO::tr,i,k+1=>(match eO with|.J _ _ h=>[(i,d.pre,h)]|_=>[])++qh l tr (i+1) k
 |_,_,_,_=>[]
def abK:∀{rs:List f_} {tr:List iB} {i k:Nat} {h:ay},tr.length=rs.length->sA h (qh rs tr i k)=s9 tr k h
 |[],[],_,_,_,_=>rfl
 |d::l,eO::tr,i,0,h,_=>rfl
 |d::l,eO::tr,i,k+1,h,a=>by simp only[qh,s9,J'];rw[abK (by simpa using a)];cases eO<;>rfl
 |[],_::_,_,_,_,a=>by simp at a
 |_::_,[],_,_,_,a=>by simp at a
def alG:∀{rs:List f_} {tr:List iB} {i k:Nat} {d:f_} {v:U} {b a:ay},rs[k]? =some d->tr[k]? =some (.J v b a)->
  ∃B,jT rs tr i=qh rs tr i k++(i+k,d.pre,a)::B
 |[],_,_,_,_,_,_,_,h,_=>by simp at h
 |_::_,[],_,_,_,_,_,_,_,h=>by simp at h
 |g::l,c::tr,i,0,d,v,b,a,hd,aj=>by simp at hd aj;subst hd;subst aj;exact⟨jT l tr (i+1),by simp[jT,qh]⟩
 |g::l,c::tr,i,k+1,d,v,b,a,hd,aj=>by simp at hd aj;let⟨B,f⟩:=alG (i:=i+1) hd aj;refine⟨B,?_⟩;have e:i+1+k=i+(k+1):=z;rw[e]at f;cases c<;>simp[jT,qh,f]
def DT:∀{rs:List f_} {tr:List iB} {i:Nat} {y:Nat×Nat×ay},y∈jT rs tr i->∃k d v a,y.1=i+k/\rs[k]? =some d/\tr[k]? =some (.J v a y.2.2)/\y.2.1=d.pre
 |[],_,_,_,h=>by simp[jT]at h
 |_::_,[],_,_,h=>by simp[jT]at h
 |e::l,c::tr,i,y,h=>by
  have b:y∈jT l tr (i+1)->∃k d v a,y.1=i+k/\(e::l)[k]? =some d/\(c::tr)[k]? =some (.J v a y.2.2)/\y.2.1=d.pre:=λh=>by let⟨k,d,v,a,H,I,g,f⟩:=DT h;exact⟨k+1,d,v,a,z,by simpa using I,by simpa using g,f⟩
  cases c with
  |J v a j=>
   simp only[jT,gJ]at h
   rcases h with h|h
   .subst h;exact⟨0,e,v,a,aq,aq,aq,rfl⟩
   .exact b h
  |skip=>exact b (by simpa[jT]using h)
  |uX _=>exact b (by simpa[jT]using h)
  |zZ _ _ _=>exact b (by simpa[jT]using h)
  |kI _ _ _=>exact b (by simpa[jT]using h)
def aiI:∀{l d B:List (Nat×Nat×ay)} {x:Nat×Nat×ay},Bd l=true->l=d++x::B->(∀y∈d,x.2.1.testBit y.1=true)/\(∀y∈B,y.2.1.testBit x.1=true)
 |[],d,B,x,_,h=>by simp at h
 |ai::l,[],B,x,b,h=>by simp at h;obtain⟨rfl,rfl⟩:=h;simp only[Bd,dW,iq]at b;exact⟨(λy c=>by cases c),b.1⟩
 |ai::l,a::d,B,x,b,h=>by
  simp at h;obtain⟨rfl,rfl⟩:=h;simp only[Bd,dW,iq]at b;let⟨H,I⟩:=aiI b.2 rfl;refine⟨λy c=>?_,I⟩;cases c with
  |head=>exact b.1 x aq
  |tail _ c=>exact H y c
def Y7{a:Option U}{v:U}(h:NC a v=true):a=some v:=by unfold NC at h;split at h;rw[U.beq_eq h];cases h
def aiG{i pre:Nat}{f:ay->Option U}{v:U}:∀{b7 cw:List (Nat×Nat×ay)} {h:ay},FD i pre f v h (b7++cw)=true->(∀y∈b7,y.2.1.testBit i=false)->(∀y∈cw,pre.testBit y.1=false)->
  f (sA h b7)=some v
 |[],[],h,a,_,_=>Y7 (by simpa[FD,sA]using a)
 |[],y::cw,h,a,_,I=>by
  simp only[vf,FD]at a;have:=I y aq;cases b:y.2.1.testBit i with
  |true=>simp[b]at a;exact Y7 a
  |false=>simp[b,this]at a;exact Y7 a.1
 |y::b7,cw,h,a,H,I=>by simp only[Wd,FD,H y aq,jL,dW]at a;rw[sA];exact aiG a.2 (λai c=>H ai (jw _ c)) I
def aiH{af:ay}{b:List (Nat×Nat×ay)}:∀{rs:List f_} {tr:List iB} {i k:Nat} {d:f_} {f:List U->ay->Option U} {aH:List U} {v:U},x9 af b rs tr i=true->rs[k]? =some d->tr[k]? =some (.zZ f aH v)->
  FD (i+k) d.pre (f aH) v af b=true
 |[],_,_,_,_,_,_,_,_,h,_=>by simp at h
 |_::_,[],_,_,_,_,_,_,_,_,h=>by simp at h
 |e::l,c::tr,i,0,d,f,aH,v,a,hd,aj=>by simp at hd aj;subst hd;subst aj;simp only[x9,dW]at a;exact a.1
 |e::l,c::tr,i,k+1,d,f,aH,v,a,hd,aj=>by simp at hd aj;(have g:x9 af b l tr (i+1)=true:=by cases c<;>simp[x9]at a<;>first|exact a|exact a.2);have:=aiH g hd aj;simpa[k4,tW 1 k]using this
def aqz:∀{rs:List f_} {tr:List iB} {i k:Nat} {p:List s0} {q:s0},(∀q∈p,q.1<i)->q∈nI rs tr i k p->
  (q∈p∨ ∃m v,m<k/\q.1=i+m/\tr[m]? =some (.kI q.2.1 q.2.2 v))/\∀y∈qh rs tr i k,q.1<y.1->y.2.1.testBit q.1=false
 |[],_,_,_,_,_,_,h=>⟨.inl (by simpa[nI]using h),λy e=>by simp[qh]at e⟩
 |_::_,[],_,_,_,_,_,h=>⟨.inl (by simpa[nI]using h),λy e=>by simp[qh]at e⟩
 |d::l,eO::tr,i,0,p,q,_,h=>⟨.inl (by simpa[nI]using h),λy e=>by simp[qh]at e⟩
 |d::l,eO::tr,i,k+1,p,q,ag,h=>by
  simp only[nI]at h
  have j:∀q∈yD d i p eO,q.1<i+1:=λai f=>by
   cases eO with
   |J v a b=>simp only[yD,H6]at f;have:=ag ai f.1;omega
   |kI b x v=>
    simp only[yD,gJ]at f
    rcases f with rfl|f
    .simp
    .have:=ag ai f;omega
   |skip=>have:=ag ai f;omega
   |uX _=>have:=ag ai f;omega
   |zZ _ _ _=>have:=ag ai f;omega
  let⟨H,I⟩:=aqz j h;refine⟨?_,λy e g=>?_⟩
  .rcases H with H|⟨m,v,a,b,c⟩
   .cases eO with
    |J v a b=>simp only[yD,H6]at H;exact .inl H.1
    |kI b x v=>
     simp only[yD,gJ]at H
     rcases H with rfl|H
     .exact .inr ⟨0,v,z,aq,aq⟩
     .exact .inl H
    |skip=>exact .inl H
    |uX _=>exact .inl H
    |zZ _ _ _=>exact .inl H
   .exact .inr ⟨m+1,v,z,z,by simpa using c⟩
  .simp only[qh,kx]at e;rcases e with e|e
   .cases eO with
    |J v a b=>
     simp at e
     subst e
     rcases H with H|⟨m,o,a',n,r⟩
     .simp only[yD,H6]at H
      simpa using H.2
     .simp at g;omega
    |skip=>simp at e
    |uX _=>simp at e
    |zZ _ _ _=>simp at e
    |kI _ _ _=>simp at e
   .exact I y e g
def G5:∀{rs:List f_} {tr:List iB} {i k:Nat} {p:List s0},(∀q∈p,q.1<i)->p.Pairwise (λa b=>a.1≠b.1)->(nI rs tr i k p).Pairwise (λa b=>a.1≠b.1)
 |[],_,_,_,_,_,h=>by simpa[nI]using h
 |_::_,[],_,_,_,_,h=>by simpa[nI]using h
 |d::l,eO::tr,i,0,p,_,h=>by simpa[nI]using h
 |d::l,eO::tr,i,k+1,p,ag,h=>by
  simp only[nI];cases eO with
  |J v a b=>exact G5 (λai c=>by simp only[yD,H6]at c;have:=ag ai c.1;omega) (h.filter _)
  |kI b x v=>
   refine G5 (λai c=>?_) ?_
   .simp only[yD,gJ]at c
    rcases c with rfl|c
    .simp
    .have:=ag ai c;omega
   .simp only[yD,Lg]
    exact⟨λai c=>by have:=ag ai c;simp;omega,h⟩
  |skip=>exact G5 (λai c=>by have:=ag ai c;omega) h
  |uX _=>exact G5 (λai c=>by have:=ag ai c;omega) h
  |zZ _ _ _=>exact G5 (λai c=>by have:=ag ai c;omega) h
def acY:∀{tr:List iB} {k rb:Nat},rb<=kZ tr k rb
 |[],_,_=>by simp[kZ]
 |eO::tr,0,_=>by simp[kZ]
 |eO::tr,k+1,rb=>by simp only[kZ];exact c6 (by cases eO<;>simp[MQ]) acY
def U9:∀{tr:List iB} {k rb b:Nat} {x:eK} {v:U},tr[k]? =some (.kI b x v)->kZ tr (k+1) rb=kZ tr k rb+1
 |[],_,_,_,_,_,h=>by simp at h
 |eO::tr,0,_,_,_,_,h=>by simp at h;subst h;cases tr<;>simp[kZ,MQ]
 |eO::tr,k+1,rb,b,x,v,h=>by simp at h;rw[kZ];exact U9 (rb:=MQ rb eO) h
def U8:∀{tr:List iB} {j k rb:Nat},j<=k->kZ tr j rb<=kZ tr k rb
 |[],_,_,_,_=>by simp[kZ]
 |eO::tr,0,k,rb,_=>by simpa[kZ]using acY
 |eO::tr,j+1,0,rb,h=>by omega
 |eO::tr,j+1,k+1,rb,h=>by simp only[kZ];exact U8 z
def Ie(slots:Δ)(x:S->U):Prop:=∀s a,(∀t∈slots,g t s=g t a)->x s=x a
structure af2 (P:Program) (ρ:cj) (aB:Nat) (ops:Array Oper) (o:Oper) (d:f_):Prop where
 r:Sc P ρ aB ops o d.r
 aH:∀x∈d.r.aH,Ie d.slots x
 ed:∀x ip,d.r.guard=some (x,ip)->Ie d.slots x
def asP{slots:Δ}{s a:S}(h:∀t∈slots,g t s=g t a):∀{aH:List (S->U)},(∀x∈aH,Ie slots x)->nd aH s=nd aH a
 |[],_=>rfl
 |x::l,b=>by simp only[nd];rw[b x aq s a h,asP h λy c=>b y (jw _ c)]
structure se (aB:Nat) (ops:Array Oper) (rs:List f_):Prop where
 len:rs.length=ops.size
 XZ:Wt ops
 pre:∀(i:Nat) (o:Oper) (d:f_) (j:Nat),ops[i]? =some o->rs[i]? =some d->j<ops.size->d.pre.testBit j=true->∃e∈o.after.toList,Region.binds .any e=true/\(e.on=j∨ ∃c9:f_,rs[e.on]? =some c9/\c9.pre.testBit j=true)
 dst:∀(i:Nat) (d:f_) (t:Nat),rs[i]? =some d->d.r.dst=some t->t<aB
 aJm:∀(i:Nat) (d:f_) (t:Nat),rs[i]? =some d->t∈d.slots->t<aB
 ai1:∀(i j:Nat) (d c9:f_) (t:Nat),rs[i]? =some d->rs[j]? =some c9->c9.r.dst=some t->i≠j->(t∈d.slots∨d.r.dst=some t)->if j<i then d.pre.testBit j=true else c9.pre.testBit i=true
variable{aB:Nat}
def aJ5{rs:List f_}(f:rs.length=ops.size)(h:B1 aB ops.toList rs=true):se aB ops rs:=by
 unfold B1 at h;simp only[iV,iq,xK]at h;have has:∀(i:Nat) (d:f_),rs[i]? =some d->∃o,ops[i]? =some o/\i<ops.size:=λi d hd=>by have hi:i<rs.length:=(kL.1 hd).1;rw[f]at hi;exact⟨ops[i],by simp[hi],hi⟩
 have m:∀(i:Nat) (o:Oper),ops[i]? =some o->i<ops.size/\∃d,rs[i]? =some d:=λi o b=>by have hi:i<ops.size:=(hl.1 b).1;refine⟨hi,?_⟩;rw[<-f]at hi;exact⟨rs[i],by simp[hi]⟩
 refine⟨f,?_,?_,?_,?_,?_⟩;intro i o b e aP G;let⟨hi,d,hd⟩:=m i o b;have a:=h i hi;rw[vc,b,hd]at a;simp only[dW]at a;let⟨⟨⟨⟨H,_⟩,_⟩,_⟩,_⟩:=a;rw[iq]at H;have:=H e aP;simpa[G]using this
 .intro i o d j b hd g G;let⟨hi,_⟩:=m i o b;have a:=h i hi;rw[vc,b,hd]at a;simp only[dW]at a;let⟨⟨⟨⟨_,H⟩,_⟩,_⟩,_⟩:=a;rw[iq]at H;have:=H j (xK.2 g);simp only[G,aff,Bool.false_or,K_,dW,Q2,beq_iff_eq]at this;let⟨e,aP,r,I⟩:=this;refine⟨e,aP,r,?_⟩;rcases I with I|I
  exact .inl I
  .right;cases l:rs[e.on]? with
   |none=>simp[l]at I
   |some k=>simp[l]at I;exact⟨k,rfl,I⟩
 intro i d t hd aj;let⟨o,b,hi⟩:=has i d hd;have a:=h i hi;rw[vc,b,hd]at a;simp only[dW]at a;let⟨⟨⟨_,H⟩,_⟩,_⟩:=a;rw[aj]at H;simpa using H;intro i d t hd aj;let⟨o,b,hi⟩:=has i d hd;have a:=h i hi;rw[vc,b,hd]at a;simp only[dW]at a;let⟨⟨_,H⟩,_⟩:=a;rw[iq]at H;simpa using H t aj
 .intro i j d k t hd n aj q c;let⟨o,b,hi⟩:=has i d hd;let⟨u,s,g⟩:=has j k n;have a:=h i hi;rw[vc,b,hd]at a;simp only[dW]at a;let⟨_,H⟩:=a;rw[iq]at H;have:=H j (xK.2 g);rw[n]at this;simp only[aj]at this;have ak:(i==j)=false:=by simpa using q
  have p:(d.slots.contains t||d.r.dst==some t)=true:=by rcases c with c|c;simp[c];simp[c]
  rw[ak,p]at this;simp only[aff,Bool.or_self,Bool.false_or]at this;split at this;rename_i au;rw[ci au];exact this;rename_i au;rw[bo au];exact this
def se.lt{aB:Nat}{ops:Array Oper}{rs:List f_}(an:se aB ops rs):∀(i:Nat) (d:f_) (j:Nat),rs[i]? =some d->j<ops.size->d.pre.testBit j=true->j<i:=by
 intro i;induction i using Nat.strongRecOn with
 |_ i c=>
  intro d j hd a G;have hi:i<ops.size:=by rw[<-an.len];exact(kL.1 hd).1
  let⟨e,aP,k,h⟩:=an.pre i ops[i] d j (by simp[hi]) hd a G;have au:=an.XZ i ops[i] (by simp[hi]) e aP k;rcases h with h|⟨b,g,f⟩
  omega;have:=c e.on au b j g a f;omega
def E4(ops:Array Oper)(D:Nat->Bool):Prop:=∀i o,ops[i]? =some o->D i=true->∀e∈o.after.toList,Region.binds .any e=true->D e.on=true
def se.YU{aB:Nat}{ops:Array Oper}{rs:List f_}(an:se aB ops rs){D:Nat->Bool}(f:E4 ops D):∀(i:Nat) (d:f_) (j:Nat),rs[i]? =some d->D i=true->j<ops.size->d.pre.testBit j=true->D j=true:=by
 intro i;induction i using Nat.strongRecOn with
 |_ i k=>
  intro d j hd l a G;have hi:i<ops.size:=by rw[<-an.len];exact(kL.1 hd).1
  let⟨e,aP,c,h⟩:=an.pre i ops[i] d j (by simp[hi]) hd a G;have au:=an.XZ i ops[i] (by simp[hi]) e aP c;have b:=f i ops[i] (by simp[hi]) l e aP c;rcases h with h|⟨g,n,m⟩
  exact h▸b;exact k e.on au g j n b a m
def Hb(D:Nat->Bool):List f_->List iB->Nat->S->S
 |d::l,eO::tr,i,s=>Hb D l tr (i+1) (if D i=true then pP d.r.dst eO.val s else s)
 |_,_,_,s=>s
def ZC{D:Nat->Bool}{t:Nat}(aj:t<256):∀{rs:List f_} {tr:List iB} {i:Nat} {s:S},(∀d∈rs,∀u,d.r.dst=some u->u<256)->g t (Hb D rs tr i s)=rS D rs tr i t (g t s)
 |[],_,_,_,_=>rfl
 |_::_,[],_,_,_=>rfl
 |d::l,eO::tr,i,s,h=>by simp only[Hb,rS];rw[ZC aj λb c=>h b (jw _ c)];congr 1;by_cases a:D i=true;{rw[ci a,aki aj (h d aq)];simp[a]};{rw[bo a];simp[a]}
def c_.insert{ρ:cj}{σ:b9}{h:ay}(r:c_ ρ σ h w){p:nT}{x:eK}(ag:σ b=some p)(u:kA ρ σ p w.heap[p.ba]? x)(k:¬lV σ h p.ba)(t:b<eG): c_ ρ σ (h.db b (some x)) w:=by have s:=λj=>ay.vJ h b j (some x) t;refine⟨λj y a=>?_,λj i y o q n a c d f l=>?_,λj a=>r.kn j a⟩;rw[s]at a;by_cases e:j=b;subst e;rw[ci rfl]at a;cases a;exact⟨p,ag,u⟩;rw[bo e]at a;exact r.ba j y a;rw[s]at a c;by_cases e:j=b;subst e;rw[bo (it l)]at c;rw[ag]at d;cases d;intro g;exact k ⟨i,o,n,c,f,g.symm⟩;rw[bo e]at a;by_cases m:i=b;subst m;rw[ag]at f;cases f;intro g;exact k ⟨j,y,q,a,d,g⟩;rw[bo m]at c;exact r.inj j i y o q n a c d f l
def lV.db{σ:b9}{h:ay}{x:eK}{r:Nat}(d:b<eG)(f:lV σ (h.db b (some x)) r):lV σ h r∨ ∃p,σ b=some p/\p.ba=r:=by let⟨j,y,p,a,ag,c⟩:=f;rw[ay.vJ h b j (some x) d]at a;by_cases e:j=b;subst e;exact .inr ⟨p,ag,c⟩;rw[bo e]at a;exact .inl ⟨j,y,p,a,ag,c⟩
def c_.wJ{ρ:cj}{σ:b9}{w:Γ}:∀{l:List s0} {h:ay},c_ ρ σ h w->l.Pairwise (λa b=>a.1≠b.1)->(∀q∈l,q.2.1<eG)->
  (∀q∈l,∃p,σ q.2.1=some p/\kA ρ σ p w.heap[p.ba]? q.2.2/\¬lV σ h p.ba)->
  (∀q∈l,∀x∈l,q.1≠x.1->∀p e,σ q.2.1=some p->σ x.2.1=some e->p.ba≠e.ba)->
  c_ ρ σ (cE.wJ h l) w/\(cE.wJ h l).nx=h.nx/\∀r,lV σ (cE.wJ h l) r->lV σ h r∨ ∃q∈l,∃p,σ q.2.1=some p/\p.ba=r
 |[],h,k,_,_,_,_=>⟨k,rfl,λr n=>.inl n⟩
 |q::l,h,k,m,u,t,hi=>by
  rw[Lg]at m;let⟨p,ag,n,C⟩:=t q aq;have j:=u q aq;have H:=k.insert ag n C j
  let⟨a,b,c⟩:=c_.wJ (l:=l) H m.2 (λai d=>u ai (jw _ d))
   (λai d=>by
    let⟨e,g,y,B⟩:=t ai (jw _ d)
    refine⟨e,g,y,λi=>?_⟩
    rcases i.db j with i|⟨o,s,aP⟩
    .exact B i
    .exact hi q aq ai (jw _ d) (m.1 ai d) o e s g aP)
   (λai d A z=>hi ai (jw _ d) A (jw _ z))
  refine⟨a,b,λr f=>?_⟩;rcases c r f with f|⟨ai,d,e,g,aP⟩
  .rcases f.db j with f|⟨o,s,aP⟩
   .exact .inl f
   .exact .inr ⟨q,aq,o,s,aP⟩
  .exact .inr ⟨ai,jw _ d,e,g,aP⟩
structure oT (P:Program) (ρ:cj) (aB:Nat) (ops:Array Oper) (rs:List f_) (tr:List iB) (bY:S) (bt af:ay) (pi:b9) (jW:Γ)
  (D:Nat->Bool) (σ:b9) (a:Ω) (w:Γ):Prop where
 sl:E4 ops D
 FH:∀i,ops.size<=i->D i=false
 l6:a.size=aB
 cZ:∀t,t<aB->aT ρ σ (rS D rs tr 0 t (g t bY))=some (a.getD t undef)
 ag:∃b7 cw,jT rs tr 0=b7++cw/\(∀y∈b7,D y.1=true)/\(∀y∈cw,D y.1=false)/\c_ ρ σ (sA af b7) w/\af.nx<=(sA af b7).nx/\
  (∀(j b:Nat) (x:eK) (v:U),tr[j]? =some (.kI b x v)->D j=true->(∀y∈b7,y.2.1.testBit j=false)->
   ∃p,σ b=some p/\p.ba<w.heap.size/\jW.heap.size<=p.ba/\kA ρ σ p w.heap[p.ba]? x/\¬lV σ (sA af b7) p.ba)/\
  (∀(j gl b cQ:Nat) (x da:eK) (v dS:U) (p b1:nT),tr[j]? =some (.kI b x v)->tr[gl]? =some (.kI cQ da dS)->j≠gl->D j=true->D gl=true->(∀y∈b7,y.2.1.testBit j=false)->(∀y∈b7,y.2.1.testBit gl=false)->
   σ b=some p->σ cQ=some b1->p.ba≠b1.ba)/\
  (∀r,lV σ (sA af b7) r->jW.heap.size<=r∨lV pi bt r)
 Cz:∀(j b:Nat) (x:eK) (v:U),tr[j]? =some (.kI b x v)->D j=false->σ b=none
 yc:kM P σ
 ext:mV pi σ
 d_:∀b,pi b=none->σ b≠none->bt.nx<=b
 size:jW.heap.size<=w.heap.size
 kept:∀r,r<jW.heap.size->¬lV pi bt r->w.heap[r]? =jW.heap[r]?
 os:w.os=jW.os
 output:w.output=jW.output
 tape:w.tape=jW.tape
section
variable {P:Program} {ρ:cj} {aB:Nat} {ops:Array Oper} {rs:List f_} {tr:List iB} {bY:S} {bt af:ay} {pi:b9} {jW:Γ}
abbrev sF(D:Nat->Bool)(i:Nat):Nat->Bool:=λj=>D j||j==i
def oK(D:Nat->Bool){j:Nat}(h:j≠i):sF D i j=D j:=by
 have:(j==i)=false:=by simpa using h
 simp[sF,this]
variable{o:Oper}
def Ym{D:Nat->Bool}(c:E4 ops D)(f:ops[i]? =some o)(g:∀e∈o.after.toList,Region.binds .any e=true->D e.on=true):E4 ops (sF D i):=by intro j d a b e aP G;by_cases ak:j=i;subst ak;rw[f]at a;cases a;simp[sF,g e aP G];rw[oK D ak]at b;simp[sF,c j d a b e aP G]
def YT{D:Nat->Bool}(hd:∀i,ops.size<=i->D i=false)(b:ops[i]? =some o):∀j,ops.size<=j->sF D i j=false:=by intro j a;have hi:i<ops.size:=(hl.1 b).1;rw[oK D z];exact hd j a
def Eh{D:Nat->Bool}(an:se aB ops rs)(c:E4 ops D){i j:Nat}{d a:f_}{t:Nat}(hd:rs[i]? =some d)(b:rs[j]? =some a)(aj:a.r.dst=some t)(au:i<j)(f:D i=false) (e:t∈d.slots∨d.r.dst=some t):D j=false:=by
 have:=an.ai1 i j d a t hd b aj z e;rw[bo z]at this;cases g:D j with
 |false=>rfl
 |true=>
  have hi:i<ops.size:=by rw[<-an.len];exact(kL.1 hd).1
  have:=an.YU c j a i b g hi this;rw[f]at this;cases this
variable{a:Ω}{c:Φ}
def ad3{D:Nat->Bool}(an:se aB ops rs)(n:E4 ops D){d:f_}{eO:iB}(hd:rs[i]? =some d)(x:tr[i]? =some eO)(m:d.r.dst=o.dst)(w:D i=false) {σ:b9}(l:a.size=aB)(q:∀t,t<aB->aT ρ σ (rS D rs tr 0 t (g t bY))=some (a.getD t undef))(J:aT ρ σ eO.val=some c):∀t,t<aB->aT ρ σ (rS (sF D i) rs tr 0 t (g t bY))=some ((rA o.dst c a).getD t undef):=by
 intro t aj;by_cases e:d.r.dst=some t
 .rw[anz (k:=i) hd x e (by simp[sF]) λj s au b f=>by
   rw[gy,oK D z]
   exact Eh an n hd b f au w (.inr e),J]
  rw[<-m,e];simp[rA,Array.getD,l,aj]
 .rw[Uq (D':=D) λj s b f=>by
   rw[gy]
   refine oK D λak=>?_
   subst ak
   rw[hd]at b;cases b
   exact e f,q t aj]
  rw[<-m];cases r:d.r.dst with
  |none=>rfl
  |some u=>have:u≠t:=λak=>e (by rw[r,ak]);simp[rA,Array.getD,l,aj,VR,this]
def oT.aqY{D:Nat->Bool}{σ:b9}(an:se aB ops rs)(v:oT P ρ aB ops rs tr bY bt af pi jW D σ a w){d:f_}{eO:iB}(r:ops[i]? =some o)(hd:rs[i]? =some d)(n:tr[i]? =some eO) (yl:d.r.dst=o.dst)(W:D i=false)(Z:∀e∈o.after.toList,Region.binds .any e=true->D e.on=true)(M:∀b x u,eO≠ .kI b x u)(L:∀u F mL,eO≠ .J u F mL)(J:aT ρ σ eO.val=some c): oT P ρ aB ops rs tr bY bt af pi jW (sF D i) σ (rA o.dst c a) w:=by
 let⟨b7,cw,H,I,O,N,R,X,Y,V⟩:=v.ag;have q:∀y∈jT rs tr 0,y.1≠i:=λy l e=>by let⟨k,c9,dS,F,ak,aI,s,_⟩:=DT l;have:k=i:=z;subst this;rw[n]at s;cases s;exact L _ _ _ rfl
 have m:∀(j b:Nat) (x:eK) (u:U),tr[j]? =some (.kI b x u)->j≠i:=λj b x u f e=>by subst e;rw[n]at f;cases f;exact M _ _ _ rfl
 refine {v with sl:=Ym v.sl r Z,FH:=YT v.FH r,l6:=?_,cZ:=ad3 an v.sl hd n yl W v.l6 v.cZ J,ag:=?_,Cz:=?_};have:=v.l6;cases o.dst<;>simp[rA,this];refine⟨b7,cw,H,λy l=>?_,λy l=>?_,N,R,λj b x u f g K=>?_,λj B b t x A u E p Q f C T g G=>?_,V⟩;rw[oK D (q y (by rw[H];simp[l]))];exact I y l;rw[oK D (q y (by rw[H];simp[l]))];exact O y l;rw[oK D (m j b x u f)]at g;exact X j b x u f g K;rw[oK D (m j b x u f)]at g;rw[oK D (m B t A E C)]at G;exact Y j B b t x A u E p Q f C T g G;intro j b x u f g;rw[oK D (m j b x u f)]at g;exact v.Cz j b x u f g
end
def c_.lt{ρ:cj}{σ:b9}{h:ay}(r:c_ ρ σ h w){x:eK}(G:h.cW b=some x):∃p,σ b=some p/\p.ba<w/\kA ρ σ p w.heap[p.ba]? x:=by let⟨p,ag,a⟩:=r.ba b x G;refine⟨p,ag,afH λc=>?_,a⟩;rw[VP c]at a;cases x<;>simp[kA]at a
variable{k:Nat}
def c_.aGO{ρ:cj}{σ:b9}{h:ay}(r:c_ ρ σ h w)(c:lV σ h k):k<w.heap.size:=by obtain⟨b,x,p,H,I,rfl⟩:=c;let⟨q,a,au,_⟩:=r.lt H;rw[I]at a;cases a;exact au
def c_.push{ρ:cj}{σ:b9}{h:ay}(r:c_ ρ σ h w)(G:σ b=none)(au:b<h.nx){p:nT}: c_ ρ (ea σ b p) h {w with heap:=w.heap.push obj,drawn:=d}:=by
 have f:∀j y,h.cW j=some y->j≠b:=λj y a e=>by subst e;let⟨q,c,_⟩:=r.ba j y a;rw[G]at c;cases c
 refine⟨λj y a=>?_,λj g y l q s a i c k n=>?_,λj a=>?_⟩
 .obtain⟨q,c,m,o⟩:=r.lt a;refine⟨q,by simp[ea,f j y a,c],?_⟩;have:({w with heap:=w.heap.push obj,drawn:=d}:Γ).heap[q.ba]? =w.heap[q.ba]? :=by simp[QZ,sM m]
  rw[this];exact o.ext (.db G)
 simp only[ea,bo (f j y a)]at c;simp only[ea,bo (f g l i)]at k;exact r.inj j g y l q s a i c k n;rw[ea,bo z];exact r.kn j a
def lV.acC{ρ:cj}{σ:b9}{h:ay}(r:c_ ρ σ h w)(G:σ b=none){p:nT}(d:lV (ea σ b p) h k):lV σ h k:=by
 let⟨j,y,q,c,a,e⟩:=d;have:j≠b:=λe=>by subst e;let⟨q,a,_⟩:=r.ba j y c;rw[G]at a;cases a
 rw[ea,bo this]at a;exact⟨j,y,q,c,a,e⟩
def ar8{g:Type}{D:g->Bool}:∀{b7 cw c B:List g} {x:g},b7++cw=c++x::B->(∀y∈b7,D y=true)->(∀y∈cw,D y=false)->(∀y∈c,D y=true)->D x=false->b7=c/\cw=x::B
 |[],cw,[],B,x,h,_,_,_,_=>⟨rfl,by simpa using h⟩
 |[],cw,a::c,B,x,h,_,I,f,_=>by simp at h;have i:=I a (by rw[h];simp);rw[f a aq]at i;cases i
 |b::b7,cw,[],B,x,h,H,_,_,d=>by simp at h;obtain⟨rfl,_⟩:=h;rw[H b aq]at d;cases d
 |b::b7,cw,a::c,B,x,h,H,I,f,d=>by simp at h;obtain⟨rfl,h⟩:=h;let⟨ak,j⟩:=ar8 h (λy e=>H y (jw _ e)) I (λy e=>f y (jw _ e)) d;exact⟨by rw[ak],j⟩
section
variable {P:Program} {ρ:cj} {aB:Nat} {ops:Array Oper} {rs:List f_} {tr:List iB} {bY:S} {bt af:ay} {pi:b9} {jW:Γ}
structure IF (tr:List iB) (eo hi:Nat):Prop where
 eo:∀(j b:Nat) (x:eK) (v:U),tr[j]? =some (.kI b x v)->eo<=b
 hi:∀(j b:Nat) (x:eK) (v:U),tr[j]? =some (.kI b x v)->b<hi
 inj:∀(j gl b:Nat) (x da:eK) (v dS:U),tr[j]? =some (.kI b x v)->tr[gl]? =some (.kI b da dS)->j=gl
def oT.alloc{D:Nat->Bool}{σ:b9}{a:Ω}{w:Γ}(an:se aB ops rs)(nm:IF tr bt.nx af.nx)(v:oT P ρ aB ops rs tr bY bt af pi jW D σ a w){i:Nat}{o:Oper}{d:f_}{b:Nat}{x:eK}{u:U}(bF:ops[i]? =some o)(hd:rs[i]? =some d)(s:tr[i]? =some (.kI b x u)) (yl:d.r.dst=o.dst)(eE:D i=false)(jG:∀e∈o.after.toList,Region.binds .any e=true->D e.on=true){obj:Obj}{tot dH:Nat}{c:Φ} (J:aT ρ (ea σ b ⟨w.heap.size,0,tot⟩) u=some c)(dD:kA ρ (ea σ b ⟨w.heap.size,0,tot⟩) ⟨w.heap.size,0,tot⟩ (some obj) x): oT P ρ aB ops rs tr bY bt af pi jW (sF D i) (ea σ b ⟨w.heap.size,0,tot⟩) (rA o.dst c a) {w with heap:=w.heap.push obj,drawn:=dH}:=by
 obtain⟨b7,cw,H,I,ah,K,b4,fY,fh,e8⟩:=v.ag;have G:σ b=none:=v.Cz i b x u s eE;have L:mV σ (ea σ b ⟨w.heap.size,0,tot⟩):=.db G;have Pv:∀y∈jT rs tr 0,y.1≠i:=λy A e=>by obtain⟨k,c9,N,hx,ak,aI,bv,_⟩:=DT A;have:k=i:=z;subst this;rw[s]at bv;cases bv
 have Bu:b<(sA af b7).nx:=i4 (nm.hi i b x u s) b4;have old:∀(j f:Nat) (l:eK) (N:U),tr[j]? =some (.kI f l N)->j≠i->f≠b:=λj f l N g B e=>by subst e;exact B (nm.inj j i f l x N u g s)
 refine {sl:=Ym v.sl bF jG,FH:=YT v.FH bF,l6:=?_,cZ:=ad3 an v.sl hd s yl eE v.l6 (λt aj=>Bf L (v.cZ t aj)) J,ag:=?_,Cz:=?_,yc:=v.yc.ext L,ext:=v.ext.trans L,d_:=?_,size:=?_,kept:=?_,os:=v.os,output:=v.output,tape:=v.tape}
 .have:=v.l6;cases o.dst<;>simp[rA,this]
 .refine⟨b7,cw,H,λy A=>?_,λy A=>?_,K.push G Bu,b4,λj f l n g m F=>?_,λj Q Y W dP dq u1 u2 p X g M B m R F m_ ag O=>?_,λr V=>e8 r (V.acC K G)⟩
  .rw[oK D (Pv y (by rw[H];simp[A]))];exact I y A
  .rw[oK D (Pv y (by rw[H];simp[A]))];exact ah y A
  .by_cases e:j=i
   .subst e;rw[s]at g;cases g;refine⟨⟨w.heap.size,0,tot⟩,by simp[ea],aq,v.size,by simpa using dD,λT=>?_⟩;exact absurd (K.aGO (T.acC K G)) aq
   .rw[oK D e]at m;obtain⟨p,E,C,ek,il,lm⟩:=fY j f l n g m F;refine⟨p,L _ _ E,bw,ek,?_,λT=>lm (T.acC K G)⟩;have:({w with heap:=w.heap.push obj,drawn:=dH}:Γ).heap[p.ba]? =w.heap[p.ba]? :=by simp[QZ,sM C]
    rw[this];exact il.ext L
  .have kn:∀(k f:Nat) (l:eK) (n:U) (q:nT),tr[k]? =some (.kI f l n)->k≠i->sF D i k=true->(∀y∈b7,y.2.1.testBit k=false)->ea σ b ⟨w.heap.size,0,tot⟩ f=some q->σ f=some q/\q.ba<w.heap.size:=λk f l n q ad ai NT al aE=>by rw[oK D ai]at NT;obtain⟨p,E,C,_⟩:=fY k f l n ad NT al;rw[ea,bo (old k f l n ad ai),E]at aE;cases aE;exact⟨E,C⟩
   by_cases e:j=i
   .subst e;rw[s]at g;cases g;simp only[ea,ci,cx]at ag;subst ag;obtain⟨_,C⟩:=kn Q W dq u2 X M (it B) R m_ O;simp;omega
   .by_cases Z:Q=i
    .subst Z;rw[s]at M;cases M;simp only[ea,ci,cx]at O;subst O;obtain⟨_,C⟩:=kn j Y dP u1 p g e m F ag;simp;omega
    .obtain⟨E,_⟩:=kn j Y dP u1 p g e m F ag;obtain⟨C,_⟩:=kn Q W dq u2 X M Z R m_ O;rw[oK D e]at m;rw[oK D Z]at R;exact fh j Q Y W dP dq u1 u2 p X g M B m R F m_ E C
 .intro j f l n g m;have B:j≠i:=λe=>by subst e;simp[sF]at m
  rw[oK D B]at m;rw[ea,bo (old j f l n g B)];exact v.Cz j f l n g m
 .intro f NN rC;by_cases e:f=b
  .subst e;exact nm.eo i f x u s
  .rw[ea,bo e]at rC;exact v.d_ f NN rC
 .have:=v.size;simp;omega
 .intro r V xa;have:({w with heap:=w.heap.push obj,drawn:=dH}:Γ).heap[r]? =w.heap[r]? :=by have:=v.size;simp[QZ,show r≠w.heap.size by omega]
  rw[this];exact v.kept r V xa
end
end Go.cE
namespace Go.cE
open Go.Proofs.Tryz
section
variable {P:Program} {ρ:cj} {aB:Nat} {ops:Array Oper} {rs:List f_} {tr:List iB} {bY:S} {bt af:ay} {pi:b9} {jW:Γ}
variable{i:Nat}{o:Oper}
def se.Sn{D:Nat->Bool}(an:se aB ops rs)(f:E4 ops D){d:f_}(g:ops[i]? =some o)(hd:rs[i]? =some d)(b:∀e∈o.after.toList,Region.binds .any e=true->D e.on=true){j:Nat}(a:j<ops.size)(G:d.pre.testBit j=true):D j=true:=by
 let⟨e,aP,c,h⟩:=an.pre i o d j g hd a G;rcases h with h|⟨k,m,l⟩
 exact h▸b e aP c;exact an.YU f e.on k j m (b e aP c) a l
variable{a:Ω}{w:Γ}
def oT.arU{D:Nat->Bool}{σ:b9}(an:se aB ops rs)(s:tr.length=rs.length)(v:oT P ρ aB ops rs tr bY bt af pi jW D σ a w){k:Nat}{b7:List (Nat×Nat×ay)}(r:b7=qh rs tr 0 k) (f:∀y∈b7,y∈jT rs tr 0){q:s0}(g:q∈nI rs tr 0 k []):∃u,tr[q.1]? =some (.kI q.2.1 q.2.2 u)/\q.1<k/\q.1<ops.size/\∀y∈b7,y.2.1.testBit q.1=false:=by
 let⟨H,I⟩:=aqz aq g;rcases H with H|⟨m,u,j,e,aj⟩
 cases H
 .have c:q.1=m:=z;rw[c];have d:m<ops.size:=by rw[<-an.len,<-s];exact(kL.1 aj).1
  refine⟨u,aj,j,d,λy b=>?_⟩;by_cases au:m<y.1
  .have:=I y (r▸b) z;rwa [c]at this
  .cases G:y.2.1.testBit m with
   |false=>rfl
   |true=>let⟨o,l,x,A,ak,i,t,n⟩:=DT (f y b);rw[n]at G;have:=an.lt o l m i d G;omega
def oT.tl{D:Nat->Bool}{σ:b9}(an:se aB ops rs)(vY:tr.length=rs.length)(nm:IF tr bt.nx af.nx)(zR:af.nx<eG)(dQ:bt.nx<=af.nx)(Bw:Bd (jT rs tr 0)=true) (v:oT P ρ aB ops rs tr bY bt af pi jW D σ a w){d:f_}{u:U}{E L:ay}(O:ops[i]? =some o)(hd:rs[i]? =some d)(j4:tr[i]? =some (.J u E L)) (yl:d.r.dst=o.dst)(eE:D i=false)(jG:∀e∈o.after.toList,Region.binds .any e=true->D e.on=true)(ap:E=wJ (s9 tr i af) ((nI rs tr 0 i []).filter λq=>d.pre.testBit q.1)): c_ ρ σ E w/\∀(K:b9) (w':Γ) (c:Φ),aT ρ K u=some c->c_ ρ K L w'->jY σ E w K L w'->oT P ρ aB ops rs tr bY bt af pi jW (sF D i) K (rA o.dst c a) w':=by
 let⟨b7,cw,H,I,ah,aS,b4,R,fh,e8⟩:=v.ag;have hi:i<ops.size:=(hl.1 O).1;let⟨B,F⟩:=alG (i:=0) hd j4;rw[gy]at F;let⟨ZM,al⟩:=aiI Bw F;have O2:∀y∈jT rs tr 0,y.1<ops.size:=λy aC=>by exact ao8
 have NQ:∀y∈qh rs tr 0 i,D y.1=true:=λy aC=>an.Sn v.sl O hd jG (O2 y (by rw[F];simp[aC])) (ZM y aC);let⟨ak,aI⟩:=ar8 (D:=λy:Nat×Nat×ay=>D y.1) (H.symm.trans F) I ah NQ eE;have iQ:sA af b7=s9 tr i af:=by rw[ak];exact abK vY
 have am:∀y∈B,i<y.1:=λy aC=>by let⟨eF,c9,dS,TO,h3,Z,f3,wW⟩:=DT (show y∈jT rs tr 0 by rw[F];simp[aC]);have:=al y aC;rw[wW]at this;have:=an.lt eF c9 i Z hi this;omega
 have M:∀q∈(nI rs tr 0 i []).filter λq=>d.pre.testBit q.1,∃u,tr[q.1]? =some (.kI q.2.1 q.2.2 u)/\D q.1=true/\d.pre.testBit q.1=true/\∀y∈b7,y.2.1.testBit q.1=false:=λq k=>by rw[H6]at k;let⟨g,bZ,cz,a3,a4⟩:=v.arU an vY ak (λy aC=>by rw[H];simp[aC]) k.1;exact⟨g,bZ,an.Sn v.sl O hd jG a3 k.2,k.2,a4⟩
 let⟨cr,dy,ew⟩:=c_.wJ (l:=(nI rs tr 0 i []).filter λq=>d.pre.testBit q.1) aS ((G5 aq .nil).filter _)
  (λq k=>by let⟨g,bZ,_⟩:=M q k;exact Lm (nm.hi _ _ _ _ bZ) zR)
  (λq k=>by
   let⟨g,bZ,cz,a3,a4⟩:=M q k
   let⟨p,C,X,cF,nX,V⟩:=R _ _ _ _ bZ cz a4
   exact⟨p,C,nX,V⟩)
  (λq k gx je bO p N ag Q=>by
   let⟨g,bZ,cz,a3,a4⟩:=M q k
   let⟨aw,A8,A9,ax,XL⟩:=M gx je
   exact fh _ _ _ _ _ _ _ _ _ _ bZ A8 bO cz A9 a4 XL ag Q)
 rw[iQ,<-ap]at cr dy ew;refine⟨cr,λK w' c J bV ar=>?_⟩;have oe:∀r,lV σ E r->jW.heap.size<=r∨lV pi bt r:=λr m=>by rcases ew r m with m|⟨q,k,p,ag,e⟩;exact e8 r (iQ▸m);let⟨g,bZ,cz,a3,a4⟩:=M q k;let⟨N,C,X,cF,nX,V⟩:=R _ _ _ _ bZ cz a4;rw[ag]at C;cases C;exact .inl (e▸cF)
 have ao:af.nx<=E.nx:=by rw[dy,<-iQ];exact b4
 have W:∀(j b:Nat) (x:eK) (g:U),tr[j]? =some (.kI b x g)->j≠i:=λj b x g f e=>by subst e;rw[j4]at f;cases f
 have av:∀(j b:Nat) (x:eK) (g:U) (p:nT),tr[j]? =some (.kI b x g)->D j=true->(∀y∈b7,y.2.1.testBit j=false)->d.pre.testBit j=false->σ b=some p->¬lV σ (s9 tr i af) p.ba->¬lV σ E p.ba:=λj b x g p f n A au ag xa s=>by rcases ew _ s with s|⟨q,k,N,Q,e⟩;exact xa s;let⟨u2,bZ,cz,a3,a4⟩:=M q k;refine fh _ _ _ _ _ _ _ _ N p bZ f (λe=>?_) cz n a4 A Q ag e;rw[e,au]at a3;cases a3
 have aa:∀j,(∀y∈qh rs tr 0 i++[(i,d.pre,L)],y.2.1.testBit j=false)->(∀y∈b7,y.2.1.testBit j=false)/\d.pre.testBit j=false:=λj f=>⟨λy aC=>f y (by rw[<-ak];simp[aC]),f (i,d.pre,L) aq⟩;refine {sl:=Ym v.sl O jG,FH:=YT v.FH O,l6:=?_,cZ:=ad3 an v.sl hd j4 yl eE v.l6 (λt aj=>Bf ar.ext (v.cZ t aj)) J,ag:=?_,Cz:=?_,yc:=v.yc.ext ar.ext,ext:=v.ext.trans ar.ext,d_:=?_,size:=c6 v.size ar.size,kept:=?_,os:=ar.os.trans v.os,output:=ar.output.trans v.output,tape:=ar.tape.trans v.tape};have:=v.l6;cases o.dst<;>simp[rA,this]
 .refine⟨qh rs tr 0 i++[(i,d.pre,L)],B,by rw[F];simp,λy aC=>?_,λy aC=>?_,?_,?_,λj b x g f n A=>?_,λj Y b cQ x da u1 u2 p N f gu bO n yd A m_ ag Q=>?_,λr m=>?_⟩
  .simp only[kx,oQ]at aC;rcases aC with aC|rfl
   simp[sF,NQ y aC];simp[sF]
  have:=am y aC;rw[oK D z];exact ah y (by rw[aI];simp[aC]);rw[J'];exact bV;rw[J'];exact c6 ao ar.nx
  .obtain⟨T,jI⟩:=aa j A;rw[oK D (W j b x g f)]at n;let⟨p,C,X,cF,nX,V⟩:=R j b x g f n T;rw[iQ]at V;have gY:=av j b x g p f n T jI C V;refine⟨p,ar.ext _ _ C,i4 X ar.size,cF,?_,λs=>?_⟩;rw[ar.kept _ X gY];exact nX.ext ar.ext
   .rw[J']at s;rcases ar.oe _ s with s|s
    omega;exact gY s
  let⟨T,_⟩:=aa j A;let⟨ai,_⟩:=aa Y m_;rw[oK D (W j b x u1 f)]at n;rw[oK D (W Y cQ da u2 gu)]at yd;let⟨q,C,_⟩:=R j b x u1 f n T;let⟨gx,ad,_⟩:=R Y cQ da u2 gu yd ai;have h3:=ar.ext _ _ C;have Z:=ar.ext _ _ ad;rw[ag]at h3;cases h3;rw[Q]at Z;cases Z;exact fh j Y b cQ x da u1 u2 p N f gu bO n yd T ai C ad
  .rw[J']at m;rcases ar.oe r m with m|m
   exact .inl (c6 v.size m);exact oe r m
 .intro j b x g f n;rw[oK D (W j b x g f)]at n;have G:=v.Cz j b x g f n;cases A:K b with
  |none=>rfl
  |some p=>have:=ar.d_ b G (by simp[A]);have:=nm.hi j b x g f;omega
 .intro b G fa;cases A:σ b with
  |none=>have:=ar.d_ b A fa;omega
  |some p=>exact v.d_ b G (by simp[A])
 .intro r m xa;rw[ar.kept r (i4 m v.size) λs=>?_,v.kept r m xa];rcases oe r s with h|h
  omega;exact xa h
def oT.sB{D:Nat->Bool}{σ:b9}(an:se aB ops rs)(n:x9 af (jT rs tr 0) rs tr 0=true) (v:oT P ρ aB ops rs tr bY bt af pi jW D σ a w){d:f_}{f:List U->ay->Option U}{aH:List U}{u:U}(g:ops[i]? =some o)(hd:rs[i]? =some d)(q:tr[i]? =some (.zZ f aH u))(m:D i=false) (r:∀e∈o.after.toList,Region.binds .any e=true->D e.on=true):∃h,c_ ρ σ h w/\f aH h=some u:=by
 let⟨b7,cw,H,I,l,k,s,x,z,t⟩:=v.ag;have hi:i<ops.size:=(hl.1 g).1;have c:=aiH n hd q;rw[gy,H]at c;have j:∀y∈jT rs tr 0,y.1<ops.size:=λy aC=>by exact ao8
 refine⟨_,k,aiG c (λy aC=>?_) λy aC=>?_⟩
 .cases G:y.2.1.testBit i with
  |false=>rfl
  |true=>let⟨eF,c9,dS,TO,ak,aI,bv,cI⟩:=DT (show y∈jT rs tr 0 by rw[H];simp[aC]);rw[cI]at G;have b:=I y aC;rw[ak,gy]at b;have:=an.YU v.sl eF c9 i aI b hi G;rw[m]at this;cases this
 .cases G:d.pre.testBit y.1 with
  |false=>rfl
  |true=>have:=an.Sn v.sl g hd r (j y (by rw[H];simp[aC])) G;rw[l y aC]at this;cases this
end
end Go.cE
namespace Go.cE
def CU(P:Program)(ρ:cj)(aB:Nat)(ops:Array Oper):List Oper->List f_->Prop
 |[],[]=>True
 |o::l,r::m=>af2 P ρ aB ops o r/\CU P ρ aB ops l m
 |_,_=>False
def CU.at{P:Program}{ρ:cj}{aB:Nat}{ops:Array Oper}:∀{l:List Oper} {rs:List f_},CU P ρ aB ops l rs->rs.length=l.length/\∀{i:Nat} {o:Oper} {d:f_},l[i]? =some o->rs[i]? =some d->af2 P ρ aB ops o d
 |[],[],_=>⟨rfl,λh=>by simp at h⟩
 |o::l,r::m,⟨h,t⟩=>by
  let⟨H,I⟩:=t.at;refine⟨by simp[H],λ{i c b} a hd=>?_⟩;cases i with
  |zero=>simp at a hd;subst a;subst hd;exact h
  |succ i=>simp at a hd;exact I a hd
 |[],_::_,h=>h.elim
 |_::_,[],h=>h.elim
def aFq{rs:List f_}{s:S}{l:ay}{rb:Nat}{tr:List iB}(h:∀(k:Nat) (d:f_),rs[k]? =some d->∃eO,tr[k]? =some eO/\HD d (pQ rs tr k s) (s9 tr k l) (nI rs tr 0 k []) (kZ tr k rb)=some eO) (i:tr.length=rs.length){hi:Nat}(o:kZ tr rs rb<=hi):IF tr rb hi:=by
 have f:∀(j b:Nat) (x:eK) (v:U),tr[j]? =some (.kI b x v)->b=kZ tr j rb/\j<rs.length:=λj b x v a=>by(have au:j<rs.length:=by rw[<-i];exact(kL.1 a).1);let⟨eO,H,I⟩:=h j rs[j] (by simp[au]);rw[a]at H;cases H;refine⟨?_,au⟩;unfold HD at I;split at I;cases I;cases I;split at I;split at I<;>simp at I;split at I<;>simp at I;split at I;simp at I;exact I.1.symm;simp at I;split at I<;>simp at I
 refine⟨λj b x v a=>?_,λj b x v a=>?_,λj c b x n v m a g=>?_⟩;rw[(f j b x v a).1];exact acY;let⟨e,au⟩:=f j b x v a;have H:=U9 (rb:=rb) a;have I:kZ tr (j+1) rb<=kZ tr rs rb:=U8 z;omega
 .obtain⟨e,_⟩:=f j b x v a;let⟨q,_⟩:=f c b n m g;have H:=U9 (rb:=rb) a;have I:=U9 (rb:=rb) g;rcases Rq j c with au|au|au
  have:kZ tr (j+1) rb<=kZ tr c rb:=U8 z;omega;exact au;have:kZ tr (c+1) rb<=kZ tr j rb:=U8 z;omega
section
variable {P:Program} {ρ:cj} {aB:Nat} {ops:Array Oper} {rs:List f_} {tr:List iB} {bY:S} {bt af:ay} {pi:b9} {jW:Γ}
def oT.step(tv:CU P ρ aB ops ops.toList rs)(an:se aB ops rs)(I:aB<=256)(vY:tr.length=rs.length)(nm:IF tr bt.nx af.nx)(zR:af.nx<eG)(Z:bt.nx<=af.nx)(J:Bd (jT rs tr 0)=true)(gs:x9 af (jT rs tr 0) rs tr 0=true) (fG:∀(k:Nat) (d:f_),rs[k]? =some d->∃eO,tr[k]? =some eO/\HD d (pQ rs tr k bY) (s9 tr k af) (nI rs tr 0 k []) (kZ tr k bt.nx)=some eO) {D:Nat->Bool}{σ:b9}{a:Ω}{w:Γ}(v:oT P ρ aB ops rs tr bY bt af pi jW D σ a w){i:Nat}{o:Oper}(bF:ops[i]? =some o)(eE:D i=false) (jG:∀e∈o.after.toList,Region.binds .any e=true->D e.on=true)(b:mz)(ds:List Deferred)(k:List Item)(cs:List Frame)(rest:Δ):∃y a' w',oT P ρ aB ops rs tr bY bt af pi jW (sF D i) y a' w'/\Steps P (lone (fr b a ds (.inRegion ops (i::rest)::k)) cs w) (lone (fr b a' ds (.inRegion ops rest::k)) cs w'):=by
 have hi:i<ops.size:=(hl.1 bF).1;have hd:∃d,rs[i]? =some d:=⟨rs[i]'(by rw[an.len];exact hi),by simp[an.len,hi]⟩;obtain⟨d,hd⟩:=hd;have wS:=tv.at.2 (by rw[vc];exact bF) hd;obtain⟨eO,j4,l⟩:=fG i d hd;have B:∀q∈rs,∀u,q.r.dst=some u->u<256:=λq mJ u hu=>by obtain⟨j,s⟩:=ES.1 mJ;have:=an.dst j q u s hu;omega
 have G:nW ρ σ aB (Hb D rs tr 0 bY) a:=⟨v.l6,I,λt aj=>by rw[ZC z B];exact v.cZ t aj⟩;have H:∀t∈d.slots,g t (Hb D rs tr 0 bY)=g t (pQ rs tr i bY):=λt aj=>by(have ad:=an.aJm i d t hd aj;rw[ZC z B,ZB (i:=0) z B];refine Uq λj q s E=>?_;simp only[gy];rcases Rq j i with au|rfl|au);{have:=an.ai1 i j d q t hd s E z (.inl aj);rw[ci au]at this;have L:j<ops.size:=z;simp[an.Sn v.sl bF hd jG L this,au]};{simp[eE]};{rw[Eh an v.sl hd s E au eE (.inl aj)];have:¬j<i:=z;simp[this]}
 have Q:nd d.r.aH (Hb D rs tr 0 bY)=nd d.r.aH (pQ rs tr i bY):=asP H wS.aH;have A:b5 ρ σ (nd d.r.aH (pQ rs tr i bY))=some (gf o a):=by rw[<-Q];exact wS.r.aH.aT v.yc G
 have lc:NL d.r (Hb D rs tr 0 bY)=NL d.r (pQ rs tr i bY):=by
  unfold NL;cases ar:d.r.guard with
  |none=>rfl
  |some T=>obtain⟨x,ip⟩:=T;simp only;rw[wS.ed x ip ar _ _ H]
 have F:∀t,NL d.r (pQ rs tr i bY)=some t->Region.wanted o (yielded ops a)=t:=λt aj=>aet wS.r G (by rw[<-lc]at aj;exact aj);unfold HD at l;split at l
 .cases l
 .rename_i ar;have dY:=F _ ar;simp at l;subst l;have V:=asa (P:=P) (b:=b) (a:=a) (ds:=ds) (k:=k) (cs:=cs) (w:=w) (ops:=ops) (i:=i) (rest:=rest) (by simp[bF,dY]);simp only[bF,CQ]at V;exact⟨σ,_,w,v.aqY an bF hd j4 wS.r.dst eE jG (λ_ _ _ h=>by cases h) (λ_ _ _ h=>by cases h) (Na ρ σ),.one V⟩
 .rename_i ar;have dY:=F _ ar;have m:=wS.r.op;split at l
  .rename_i f n;rw[n]at m;split at l
   .rename_i u hu;simp at l;subst l;obtain⟨c,O,ae⟩:=m σ _ a w u v.yc A hu;exact aot
   .simp at l
  .rename_i f n;rw[n]at m;split at l
   .rename_i u hu;simp at l;subst l;obtain⟨X,C,N⟩:=v.sB an gs bF hd j4 eE jG;obtain⟨c,O,ae⟩:=m σ _ X a w u v.yc A C N;exact aot
   .simp at l
  .rename_i f ret n;rw[n]at m;split at l
   .rename_i x U;simp at l;subst l;obtain⟨obj,tot,dH,c,ae,O,Y⟩:=m σ _ a w x _ v.yc A U (v.Cz i _ _ _ j4 eE);obtain⟨eT,w',⟨rfl,rfl⟩,V⟩:=Sm (R:=λeT w'=>eT=c/\w'={w with heap:=w.heap.push obj,drawn:=dH}) (b:=b) (ds:=ds) (k:=k) (cs:=cs) (rest:=rest) bF dY wS.r.UR (.inl ⟨c,_,ae,rfl,rfl⟩);exact⟨_,_,_,v.alloc an nm bF hd j4 wS.r.dst eE jG O Y,V⟩
   .simp at l
  .rename_i f n;rw[n]at m;split at l
   .rename_i u mL hu;simp at l;subst l;obtain⟨C,M⟩:=v.tl an vY nm zR Z J bF hd j4 wS.r.dst eE jG rfl;have W:=m σ _ _ a w u mL v.yc A C hu;obtain⟨c,w',⟨y,O,m4,K⟩,V⟩:=Sm (b:=b) (ds:=ds) (k:=k) (cs:=cs) (rest:=rest) bF dY wS.r.UR W;exact⟨y,_,w',M y w' c O m4 K,V⟩
   .simp at l
def oT.run(u:CU P ρ aB ops ops.toList rs)(an:se aB ops rs)(f:aB<=256)(x:tr.length=rs.length)(nm:IF tr bt.nx af.nx)(z:af.nx<eG)(n:bt.nx<=af.nx)(g:Bd (jT rs tr 0)=true)(s:x9 af (jT rs tr 0) rs tr 0=true) (r:∀(k:Nat) (d:f_),rs[k]? =some d->∃eO,tr[k]? =some eO/\HD d (pQ rs tr k bY) (s9 tr k af) (nI rs tr 0 k []) (kZ tr k bt.nx)=some eO) (b:mz)(ds:List Deferred)(k:List Item)(cs:List Frame):∀{c:Δ} {D:Nat->Bool} {σ:b9} {a:Ω} {w:Γ},IJ ops D c->oT P ρ aB ops rs tr bY bt af pi jW D σ a w->∃D' e a' w',(∀i,i<ops.size->D' i=true)/\oT P ρ aB ops rs tr bY bt af pi jW D' e a' w'/\Steps P (lone (fr b a ds (.inRegion ops c::k)) cs w) (lone (fr b a' ds k) cs w'):=by
 intro c D σ a w h v;induction h generalizing σ a w with
 |nil y=>exact⟨_,σ,a,w,y,v,.one asb⟩
 |cons l p t _ o=>obtain⟨B,bZ,A,q,m⟩:=v.step u an f x nm z n g s r l p t b ds k cs _;obtain⟨D',e,a',w',H,I,j⟩:=o q;exact⟨D',e,a',w',H,I,m.trans j⟩
end
def aI8{P:Program}{ρ:cj}{aB:Nat}{B:mz->Prop}{id:Nat}{ops:Array Oper}{rs:List f_}{f:Nat}(av:P.follows .mixedOrders=true)(Z:CU P ρ aB ops ops.toList rs)(J:B1 aB ops.toList rs=true): ns P ρ aB B (.region id ops true) (No rs f):=by
 intro σ x e da h b _ k cs a ds w c;have R:rs.length=ops.size:=by have:=Z.at.1;simpa using this
 have an:=aJ5 R J;unfold No at h;cases au:Nat.blt (x.h.nx+f) eG with
 |false=>simp[au]at h
 |true=>
  have zR:x.h.nx+f<eG:=by simpa using au
  simp only[au,eZ]at h;split at h
  .rename_i tr fE aX F uZ dL;let⟨A,ft,hJ,V,mC,Y⟩:=ajw dL;cases D:(Nat.ble uZ (x.h.nx+f)&&(let M:=jT rs tr 0;Bd M&&x9 ⟨x.h.t,x.h.nx+f⟩ M rs tr 0))with
   |false=>rw[D]at h;simp at h
   |true=>
    rw[D]at h;simp only[eZ,cx,iX]at h;obtain⟨rfl,rfl⟩:=h;simp only[dW]at D;let⟨c1,c2,c3⟩:=D;have c1:uZ<=x.h.nx+f:=hZ c1;have nm:IF tr x.h.nx (x.h.nx+f):=aFq Y A (by rw[<-mC];exact c1);have ad:c_ ρ σ ⟨x.h.t,x.h.nx+f⟩ {w with drawn:=w.drawn+1}:=⟨c.h.ba,c.h.inj,λj m=>c.h.kn j (by simp at m;omega)⟩;have v0:oT P ρ aB ops rs tr x.s x.h ⟨x.h.t,x.h.nx+f⟩ σ {w with drawn:=w.drawn+1} (λ_=>false) σ a {w with drawn:=w.drawn+1}:=
     {sl:=λ_ _ _ h=>by cases h
      FH:=λ_ _=>rfl
      l6:=c.s.1
      cZ:=λt aj=>by
       rw[Ur λ_ _ _ _=>rfl]
       exact c.s.2.2 t aj
      ag:=⟨[],jT rs tr 0,rfl,(λy n=>by cases n),(λ_ _=>rfl),ad,aY _,(λ_ _ _ _ _ h=>by cases h),(λ_ _ _ _ _ _ _ _ _ _ _ _ _ h=>by cases h),λr o=>.inr o⟩
      Cz:=λj b x v m _=>c.h.kn b (nm.eo j b x v m)
      yc:=c.g
      ext:=.refl _
      d_:=λ_ H I=>(I H).elim
      size:=aY _
      kept:=λ_ _ _=>rfl
      os:=rfl
      output:=rfl
      tape:=rfl}
    let⟨D',cH,a',w',K,v,J⟩:=oT.run Z an c.s.2.1 A nm zR aq c2 c3 Y b ds k cs (aIP an.XZ (w.tape w.drawn (.order b.fn id))) v0;let⟨b7,cw,H,I,ah,N,O,G,fh,T⟩:=v.ag;have O2:∀y∈jT rs tr 0,y.1<ops.size:=λy n=>by let⟨eF,s,dS,TO,ak,aI,bv,cI⟩:=DT n;rw[<-R];have:=(kL.1 aI).1;omega
    have tq:cw=[]:=by
     cases cw with
     |nil=>rfl
     |cons y l=>have Q:=ah y aq;rw[K y.1 (O2 y (by rw[H];simp))]at Q;cases Q
    have ai:jT rs tr 0=qh rs tr 0 rs:=by
     have:∀{rs:List f_} {tr:List iB} {i:Nat},tr.length=rs.length->jT rs tr i=qh rs tr i rs:=by
      intro rs;induction rs with
      |nil=>intro tr i _;cases tr<;>rfl
      |cons d l e4=>
       intro tr i L;cases tr with
       |nil=>simp at L
       |cons eO tr=>have:=e4 (tr:=tr) (i:=i+1) (by simpa using L);cases eO<;>simp[jT,qh,this]
     exact this A
    have X:b7=qh rs tr 0 rs:=by rw[tq]at H;simp at H;rw[<-H,ai]
    have iQ:sA ⟨x.h.t,x.h.nx+f⟩ b7=aX:=by rw[X,abK A,hJ]
    have C:∀q∈F,∃u,tr[q.1]? =some (.kI q.2.1 q.2.2 u)/\D' q.1=true/\∀y∈b7,y.2.1.testBit q.1=false:=λq g=>by rw[V]at g;let⟨u,bZ,cz,a3,a4⟩:=v.arU an A X (λy n=>by rw[H];simp[n]) g;exact⟨u,bZ,K _ a3,a4⟩
    rw[iQ]at N O G T;let⟨cr,dy,ew⟩:=c_.wJ (l:=F) N (by rw[V];exact G5 aq .nil)
     (λq g=>by let⟨u,bZ,_⟩:=C q g;exact Lm (nm.hi _ _ _ _ bZ) zR)
     (λq g=>by
      let⟨U,bZ,cz,a4⟩:=C q g
      let⟨p,E,b0,cF,W,um⟩:=G _ _ _ _ bZ cz a4
      exact⟨p,E,W,um⟩)
     (λq g gx je bO p F ag ez=>by
      let⟨U,bZ,cz,a4⟩:=C q g
      let⟨am,A8,A9,XL⟩:=C gx je
      exact fh _ _ _ _ _ _ _ _ _ _ bZ A8 bO cz A9 a4 XL ag ez)
    have Ol:∀s∈rs,∀u,s.r.dst=some u->u<256:=λs mJ u hu=>by let⟨j,m⟩:=ES.1 mJ;have:=an.dst j s u m hu;have:=c.s.2.1;omega
    refine⟨cH,a',ds,w',⟨⟨v.l6,c.s.2.1,λt aj=>?_⟩,cr,SO v.ext c.d,v.yc⟩,?_,?_⟩;have:=c.s.2.1;simp only[ft];rw[ZB (i:=0) z Ol,<-v.cZ t aj];congr 1;refine Uq λj s m _=>?_;have Ox:=(kL.1 m).1;have uy:=K j z;simp[uy,Ox]
    .exact
      {ext:=v.ext
       d_:=v.d_
       nx:=by
          simp only[dy];have:x.h.nx<=x.h.nx+f:=z
          exact c6 this O
       size:=v.size
       kept:=v.kept
       oe:=λr o=>by
        rcases ew r o with o|⟨q,g,p,ag,e⟩
        .exact T r o
        .obtain⟨U,bZ,cz,a4⟩:=C q g
         let⟨dF,E,b0,cF,W,um⟩:=G _ _ _ _ bZ cz a4
         rw[ag]at E;cases E
         exact .inl (e▸cF)
       os:=v.os
       output:=v.output
       tape:=v.tape}
    .have al:Region.schedule (P.follows .mixedOrders) ops (w.tape w.drawn (.order b.fn id))=Region.schedule true ops (w.tape w.drawn (.order b.fn id)):=by rw[av]
     refine .head aJW ?_;rw[al];exact J
  simp at h
end Go.cE
namespace Go.cE
open Go.Proofs.Tryz
def UW:Φ->Option U
 |.int k n=>some (.int k n)
 |.bool b=>some (.bool b)
 |.string s=>some (.str (s.data.toList.map UInt8.toNat))
 |.pointer none=>some .rU
 |.slice none 0 0=>some .dM
 |.map none=>some .Ek
 |.nilFunc=>some .z'
 |.nilIface=>some .GV
 |_=>none
def uR:υ->Option (List U)
 |[]=>some []
 |v::l=>match UW v,uR l with
  |some x,some y=>some (x::y)
  |_,_=>none
def ofValue:Φ->Option U
 |.agg cs=>(uR cs.toList).map .agg
 |.tuple cs=>(uR cs.toList).map .tup
 |v=>UW v
def axi(s:Ψ):e2 (s.data.toList.map UInt8.toNat)=s:=by
 unfold e2;rw[H5];have:(UInt8.ofNat∘UInt8.toNat)=id:=by funext x;simp
 rw[this];simp
def awL(l:List UInt8):(l.map UInt8.toNat).all (λn=>n<256)=true:=by rw[iq];intro n a;obtain⟨b,_,rfl⟩:=AJ.1 a;simpa using Rs b
variable{v:Φ}
def apR{ρ:cj}{σ:b9}{x:U}(h:UW v=some x):aT ρ σ x=some v:=by unfold UW at h;split at h<;>cases h<;>simp[aT,axi,awL,-List.all_map]
def Kh{ρ:cj}{σ:b9}:∀{l:υ} {x:List U},uR l=some x->b5 ρ σ x=some l
 |[],x,h=>by simp[uR]at h;subst h;rfl
 |v::l,x,h=>by simp only[uR]at h;split at h;{rename_i a b aL G;simp at h;subst h;simp[b5,apR aL,Kh G]};{simp at h}
def apS{ρ:cj}{σ:b9}{x:U}(h:ofValue v=some x):aT ρ σ x=some v:=by unfold ofValue at h;split at h;exact aox;exact aox;exact apR h
def Nc(v:U)(_:S):U:=v
def sE(aB a:Nat):Operand->Option (S->U)
 |.tmp t=>if t<aB then some (g t)else none
 |.const v=>match ofValue v with|some c=>some (Nc c)|none=>none
 |.global i=>if i<a then some (Nc (.ji i 0))else none
 |.func f=>some (Nc (.fn f [] []))
def Er(aB a:Nat):List Operand->Option (List (S->U))
 |[]=>some []
 |o::l=>match sE aB a o,Er aB a l with
  |some x,some y=>some (x::y)
  |_,_=>none
def acG{P:Program}{ρ:cj}{aB:Nat}{o:Operand}{x:S->U}(h:sE aB P.globals.size o=some x):R_ P ρ aB o x:=by
 intro σ s a ar b;cases o with
 |tmp t=>
  simp only[sE]at h;split at h;cases h;exact b.2.2 t ‹_›
  .cases h
 |const v=>
  simp only[sE]at h;split at h;cases h;exact apS ‹_›
  .cases h
 |global i=>
  simp only[sE]at h;split at h;cases h;let⟨t,aj⟩:=ar i ‹_›;simp[Nc,aT,aj,eC]
  .cases h
 |func f=>simp only[sE]at h;cases h;simp[Nc,aT,b5,eC]
def ap6{P:Program}{ρ:cj}{aB:Nat}:∀{l:List Operand} {aH:List (S->U)},Er aB P.globals.size l=some aH->Mk P ρ aB l aH
 |[],aH,h=>by simp[Er]at h;subst h;trivial
 |o::l,aH,h=>by simp only[Er]at h;split at h;{rename_i x y b a;cases h;exact⟨acG b,ap6 a⟩};{cases h}
def Ez:List Operand->Δ
 |[]=>[]
 |.tmp t::l=>t::Ez l
 |_::l=>Ez l
def ap5{aB d:Nat}:∀{l:List Operand} {aH:List (S->U)},Er aB d l=some aH->∀{slots:Δ},(∀t∈Ez l,t∈slots)->∀x∈aH,Ie slots x
 |[],aH,h,_,_=>by simp[Er]at h;subst h;intro x a;cases a
 |o::l,aH,h,slots,c=>by
  simp only[Er]at h;split at h
  .rename_i x y a g;cases h;intro ai b;cases b with
   |head=>
    intro s j e
    cases o with
    |tmp t=>
     simp only[sE]at a
     split at a
     .cases a;exact e t (c t (by simp[Ez]))
     .cases a
    |const v=>
     simp only[sE]at a
     split at a
     .cases a;rfl
     .cases a
    |global i=>
     simp only[sE]at a
     split at a
     .cases a;rfl
     .cases a
    |func f=>simp only[sE]at a;cases a;rfl
   |tail _ b=>
    refine ap5 g (λt aj=>c t ?_) ai b
    cases o<;>simp[Ez,aj]
  .cases h
variable{l:υ}
def i'{ρ:cj}{σ:b9}{x:U}(h:b5 ρ σ [x]=some l):∃c,aT ρ σ x=some c/\l=[c]:=by simp only[b5]at h;split at h;rename_i a b aL G;cases h;simp at G;subst G;exact⟨a,aL,rfl⟩;cases h
def qK{ρ:cj}{σ:b9}{x:U}{m:List U}(h:b5 ρ σ (x::m)=some l):∃c r,aT ρ σ x=some c/\b5 ρ σ m=some r/\l=c::r:=by simp only[b5]at h;split at h;rename_i a b aL G;cases h;exact⟨a,b,aL,G,rfl⟩;cases h
def lY{ρ:cj}{σ:b9}{x y:U}(h:b5 ρ σ [x,y]=some l):∃c d,aT ρ σ x=some c/\aT ρ σ y=some d/\l=[c,d]:=by obtain⟨c,r,H,I,rfl⟩:=qK h;obtain⟨d,a,rfl⟩:=i' I;exact⟨c,d,H,a,rfl⟩
def Yu{ρ:cj}{σ:b9}{x y ai:U}(h:b5 ρ σ [x,y,ai]=some l):∃c d e,aT ρ σ x=some c/\aT ρ σ y=some d/\aT ρ σ ai=some e/\l=[c,d,e]:=by obtain⟨c,r,H,I,rfl⟩:=qK h;obtain⟨d,e,b,a,rfl⟩:=lY I;exact⟨c,d,e,H,b,a,rfl⟩
section
variable {P:Program} {ρ:cj}
def BT:List U->Option U
 |[x]=>some x
 |_=>none
def apv{o:Oper}{x:Operand}(h:o.op=.move x∨o.op=.assign x):m1 P ρ o BT:=by
 intro σ s a w v ar d J;unfold BT at J;split at J
 .cases J;obtain⟨c,b,aP⟩:=i' d;refine⟨c,b,?_⟩;rcases h with h|h<;>
  .simp[gf,h,Op.operands]at aP;simp[execOp,h,aP]
 .cases J
def PP:List U->Option U
 |[.bool true,x,_]=>some x
 |[.bool false,_,y]=>some y
 |_=>none
variable{o:Oper}{x:Operand}
def aHc{y ai:Operand}(h:o.op=.pick x y ai):m1 P ρ o PP:=by intro σ s a w v ar g J;unfold PP at J;split at J;cases J;let⟨c,d,e,f,hd,aP,b⟩:=Yu g;simp[gf,h,Op.operands]at b;obtain⟨rfl,rfl,rfl⟩:=b;simp only[aT,cx]at f;exact⟨_,hd,by simp[execOp,h,<-f,asBool]⟩;cases J;let⟨c,d,e,f,hd,aP,b⟩:=Yu g;simp[gf,h,Op.operands]at b;obtain⟨rfl,rfl,rfl⟩:=b;simp only[aT,cx]at f;exact⟨_,aP,by simp[execOp,h,<-f,asBool]⟩;cases J
def Zh(i:Nat):List U->Option U
 |[.tup l]=>l[i]?
 |_=>none
def azo{i:Nat}(h:o.op=.extract x i):m1 P ρ o (Zh i):=by intro σ s a w v ar e J;unfold Zh at J;split at J;let⟨c,d,b⟩:=i' e;simp[gf,h,Op.operands]at b;simp only[aT,iW]at d;obtain⟨cs,g,rfl⟩:=d;let⟨y,f,j⟩:=zq g J;refine⟨y,j,?_⟩;simp[execOp,h,b,Instr.extract,f];cases J
def anU(f:FuncId)(n:Nat)(l:List U):Option U:=some (.fn f (l.take n) (l.drop n))
def aEz{f:FuncId}{first b:Array Operand}(h:o.op=.makeFunc (.func f) first b):m1 P ρ o (anU f first.size):=by
 intro σ s a w v ar c J;cases J;simp only[gf,h,Op.operands,Array.toList_append,yO]at c;have H:=ur first.size c;have I:=vF first.size c;have ak:(List.map (eC a) first.toList++List.map (eC a) b.toList).take first.size=List.map (eC a) first.toList:=by rw[List.take_left'];simp
 have d:(List.map (eC a) first.toList++List.map (eC a) b.toList).drop first.size=List.map (eC a) b.toList:=by rw[List.drop_left'];simp
 rw[ak]at H;rw[d]at I;refine⟨.func (.func f) (first.map (eC a)) (b.map (eC a)),by simp[aT,H,I];constructor<;>(apply xG;simp),?_⟩;simp[execOp,h,Instr.makeFunc]
def abr(t:TypeId):List U->Option U
 |[x]=>some (.iface t x)
 |_=>none
def aC7{t:TypeId}(h:o.op=.makeInterface t x){d:TypeDesc}(hu:P.underlying t=some d)(hd:∀i,d≠ .interface i):m1 P ρ o (abr t):=by
 intro σ s a w v ar f J;unfold abr at J;split at J
 .cases J;let⟨c,e,b⟩:=i' f;simp[gf,h,Op.operands]at b;refine⟨.iface t c,by simp[aT,e],?_⟩;have g:(Instr.makeInterface t c).run P w=.ok (.iface t c) w:=by simp only[Instr.makeInterface,e7,underlying,EL,eY,hu,fI]
  simp[execOp,h,b,g]
 cases J
end
end Go.cE
namespace Go.cE
def wo{a:Type}(n:Nat)(k:Nat->a):a:=match n with
 |0=>k 0
 |p+1=>k (Nat.succ p)
def Aq{a:Type}(n:Nat)(k:Nat->a):wo n k=k n:=by cases n<;>rfl
def Qd{a:Type}(n:Int)(k:Int->a):a:=match n with
 |.ofNat m=>wo m λm=>k (.ofNat m)
 |.negSucc m=>wo m λm=>k (.negSucc m)
def adF{a:Type}(n:Int)(k:Int->a):Qd n k=k n:=by cases n<;>simp[Qd,Aq]
def Qe{b:Type}:Δ->(Δ->b)->b
 |[],k=>k []
 |a::l,k=>wo a λa=>Qe l λl=>k (a::l)
def adG{b:Type}:∀(l:Δ) (k:Δ->b),Qe l k=k l
 |[],_=>rfl
 |a::l,k=>by simp[Qe,Aq,adG l]
def aw7{a b:Nat}(h:¬a<b):Nat.blt a b=false:=by
 cases G:Nat.blt a b with
 |false=>rfl
 |true=>exact absurd (by simpa using G) h
def XM:Int->Int->Int
 |.ofNat a,.ofNat b=>.ofNat (Nat.add a b)
 |a,b=>a+b
def awE(a b:Int):XM a b=a+b:=by cases a<;>cases b<;>rfl
def Vx:Int->Int->Int
 |.ofNat a,.ofNat b=>bif Nat.ble b a then .ofNat (Nat.sub a b)else .ofNat a- .ofNat b
 |a,b=>a-b
def asn(a b:Int):Vx a b=a-b:=by
 cases a<;>cases b<;>try rfl
 rename_i a b;simp only[Vx];cases h:Nat.ble b a with
 |false=>rfl
 |true=>have:=hZ h;show Int.ofNat (a-b)=Int.ofNat a-Int.ofNat b;simp;omega
def wd:Int->Int->Bool
 |.ofNat a,.ofNat b=>Nat.blt a b
 |a,b=>decide (a<b)
def GP(a b:Int):wd a b=decide (a<b):=by
 cases a<;>cases b<;>try rfl
 rename_i a b;simp only[wd];by_cases h:a<b;rw[show Nat.blt a b=true by simpa using h];symm;simp[h];rw[aw7 h];symm;simp;omega
def wU:Int->Int->Bool
 |.ofNat a,.ofNat b=>Nat.beq a b
 |a,b=>decide (a=b)
def Dy(a b:Int):wU a b=decide (a=b):=by
 cases a<;>cases b<;>try rfl
 rename_i a b;simp only[wU];by_cases h:a=b;subst h;simp;rw[ML h];symm;simp;omega
def aev(k:IntKind)(n:Int):Int:=match k,n with
 |.i64,.ofNat m=>bif Nat.ble m 9223372036854775807 then .ofNat m else IntKind.i64.wrap (.ofNat m)
 |k,n=>k.wrap n
def aMh(k:IntKind)(n:Int):aev k n=k.wrap n:=by
 unfold aev;split
 .rename_i m;cases h:Nat.ble m 9223372036854775807 with
  |false=>rfl
  |true=>have:=hZ h;symm;exact pU _ ⟨by simp only[EO];omega,by simp only[EO];omega⟩
 rfl
def yy(k:IntKind)(n:Int):Option U:=Qd (aev k n) λr=>some (.int k r)
def O6(k:IntKind)(n:Int):yy k n=some (.int k (k.wrap n)):=by simp[yy,adF,aMh]
def Ui(k:IntKind)(n:Int):Option U:=Qd n λr=>some (.int k r)
def am4(k:IntKind)(n:Int):Ui k n=some (.int k n):=by simp[Ui,adF]
def xv:Δ->Δ->Bool
 |[],[]=>true
 |a::l,b::m=>Nat.beq a b&&xv l m
 |_,_=>false
def Vv:∀(a b:Δ),xv a b=decide (a=b)
 |[],[]=>by simp[xv]
 |[],_::_=>by simp[xv]
 |_::_,[]=>by simp[xv]
 |a::l,b::m=>by simp only[xv,Vv l m];by_cases h:a=b;{subst h;simp};{rw[ML h];simp[h]}
def kY(s:Δ):Prop:=s.all (λn=>n<256)=true
variable{s:Δ}{c:Φ}
def us{ρ:cj}{σ:b9}(h:aT ρ σ (.str s)=some c):kY s/\c=.string (e2 s):=by simp only[aT]at h;split at h;cases h;exact⟨‹_›,rfl⟩;cases h
def ai0{ρ:cj}{σ:b9}(h:kY s):aT ρ σ (.str s)=some (.string (e2 s)):=by simp only[aT];exact ci h
def aiz(s:Δ):(e2 s).toList=s.map UInt8.ofNat:=by rw[AE];simp[e2]
def PK{a:Nat}{l:Δ}(h:kY (a::l)):a<256/\kY l:=by unfold kY at*;simpa using h
def anV:∀{a b:Δ},kY a->kY b->a.map UInt8.ofNat=b.map UInt8.ofNat->a=b
 |[],[],_,_,_=>rfl
 |[],_::_,_,_,h=>by simp at h
 |_::_,[],_,_,h=>by simp at h
 |a::l,b::m,aL,G,h=>by let⟨e,f⟩:=PK aL;let⟨c,d⟩:=PK G;simp only[qu,qs]at h;(have ak:a=b:=by have:=iY UInt8.toNat h.1;simpa[UInt8.toNat_ofNat,AL e,AL c]using this);rw[ak,anV f d h.2]
def S2{a b:Δ}(aL:kY a)(G:kY b):((e2 a).toList==(e2 b).toList)=xv a b:=by rw[Vv,aiz,aiz];by_cases h:a=b;subst h;simp;have:¬a.map UInt8.ofNat=b.map UInt8.ofNat:=λe=>h (anV aL G e);simp[h,this]
def aF7{a b:Δ}(aL:kY a)(G:kY b):kY (a++b):=by unfold kY at*;simp only[List.all_append,aL,G,Bool.and_self]
def axg(a b:Δ):e2 a++e2 b=e2 (a++b):=by apply KY;simp[e2,ByteArray.data_append]
def MR(a:Δ):(e2 a).size=a.length:=by simp[e2,ByteArray.size]
def MM(op:BinOp)(k:IntKind)(a b:Int):Option U:=match op with
 |.add=>yy k (XM a b)
 |.sub=>yy k (Vx a b)
 |.mul=>yy k (a*b)
 |.quo=>bif wU b 0 then none else yy k (a.tdiv b)
 |.rem=>bif wU b 0 then none else Ui k (a.tmod b)
 |.eql=>some (.bool (wU a b))
 |.neq=>some (.bool (!wU a b))
 |.lss=>some (.bool (wd a b))
 |.leq=>some (.bool (!wd b a))
 |.gtr=>some (.bool (wd b a))
 |.geq=>some (.bool (!wd a b))
 |_=>none
def adn(op:BinOp)(k:IntKind)(a b:Int):Option U:=
 bif wd b 0 then none else match op with
 |.shl=>yy k (a*2^(min b.toNat k.bits))
 |.shr=>Ui k (a.fdiv (2^(min b.toNat k.bits)))
 |_=>none
def MN(op:BinOp)(a b:Δ):Option U:=match op with
 |.add=>bif Nat.ble (a.length+b.length) 9223372036854775807 then Qe (a++b) λr=>some (.str r)else none
 |.eql=>some (.bool (xv a b))
 |.neq=>some (.bool (!xv a b))
 |_=>none
def Ed:BinOp->Bool
 |.shl=>true
 |.shr=>true
 |_=>false
def uo(op:BinOp):List U->Option U
 |[.int k a,.int j b]=>bif Ed op then adn op k a b else bif decide (k=j)then MM op k a b else none
 |[.str a,.str b]=>MN op a b
 |_=>none
section
variable {P:Program} {ρ:cj}
variable{t:TypeId}{x y:Operand}{w:Γ}
def Jg{op:BinOp}{a b:Φ}(H:a≠ .nilIface∨b≠ .nilIface)(I:∀c d,¬(a=.agg c/\b=.agg d)): (eqGuard op t x y a b).run P w=.ok () w:=by unfold eqGuard;cases op<;>simp;all_goals(split<;>simp_all)
variable{k:IntKind}{v:U}
def aw5{op:BinOp}{a b:Int}(d:Ed op=false)(h:MM op k a b=some v):∃c,(∀σ,aT ρ σ v=some c)/\(binOp op t (.int k a) (.int k b)).run P w=.ok c w:=by
 cases op<;>simp only[Ed,Bool.true_eq_false]at d<;>simp only[MM,O6,am4,cx,reduceCtorEq]at h;case quo=>cases az:wU b 0<;>simp[az]at h;exact apn
 case rem=>cases az:wU b 0<;>simp[az]at h;exact apn
 all_goals(subst h;refine⟨_,λ_=>rfl,?_⟩;first|simp[binOp,Op.intArith,awE];done|simp[binOp,Op.intArith,asn];done|simp[binOp,Op.intArith];done|(simp[binOp,Op.intCmp,Dy,GP,-Int.not_lt];done)|(simp only[binOp,Op.intCmp,Dy,GP,ne_eq,afR,pZ,fI];congr 2;done)|(simp only[binOp,Op.intCmp,Dy,GP,ne_eq,afR,pZ,fI];congr 2;by_cases q:a=b<;>simp[q,bne]<;>done)|(simp only[binOp,Op.intCmp,Dy,GP,ne_eq,afR,pZ,fI];congr 2;rw[<-decide_not];exact Wp.2 z))
def aI5{op:BinOp}{t:TypeId}{k j:IntKind}{a b:Int}{v:U}{w:Γ}(e:Ed op=true)(h:adn op k a b=some v):∃c,(∀σ,aT ρ σ v=some c)/\(binOp op t (.int k a) (.int j b)).run P w=.ok c w:=by
 unfold adn at h;cases G:wd b 0 with
 |true=>simp[G]at h
 |false=>
  rw[GP]at G;have d:¬b<0:=by simpa using G
  have f:wd b 0=false:=by rw[GP];exact G
  rw[f]at h;cases op<;>simp[Ed]at e<;>simp[O6,am4]at h;subst h;exact⟨_,λ_=>rfl,by simp[binOp,Op.shift,d]⟩;subst h;exact⟨_,λ_=>rfl,by simp[binOp,Op.shift,d]⟩
def aw6{op:BinOp}{a b:Δ}(aL:kY a)(G:kY b)(h:MN op a b=some v):∃c,(∀σ,aT ρ σ v=some c)/\(binOp op t (.string (e2 a)) (.string (e2 b))).run P w=.ok c w:=by
 have f:binOp op t (.string (e2 a)) (.string (e2 b))=Op.stringOp op (e2 a) (e2 b):=by cases op<;>rfl
 rw[f];have ak:=S2 aL G;cases op<;>simp only[MN,cx,reduceCtorEq]at h;case add=>
  cases d:Nat.ble (a.length+b.length) 9223372036854775807 with
  |false=>simp[d]at h
  |true=>have:=hZ d;simp[d,adG]at h;subst h;refine⟨_,λσ=>ai0 (aF7 aL G),?_⟩;have e:IntKind.i64.max=9223372036854775807:=rfl;simp only[Op.stringOp,MR,e];rw[bo z,axg];rfl
 all_goals(subst h;exact⟨_,λ_=>rfl,by simp[Op.stringOp,ak]⟩)
variable{o:Oper}
def ais{op:BinOp}{A:TypeId}(h:o.op=.binOp op t x y A):m1 P ρ o (uo op):=by
 intro σ s a w v ar n J;unfold uo at J;split at J
 .rename_i k p j q;let⟨c,d,g,hd,b⟩:=lY n;simp[gf,h,Op.operands]at b;simp only[aT,cx]at g hd;let⟨H,I⟩:=b;rw[<-g]at H;rw[<-hd]at I;have i:(eqGuard op t x y (.int k p) (.int j q)).run P w=.ok () w:=Jg (.inl aq) aq;cases l:Ed op with
  |true=>rw[l]at J;let⟨r,e,f⟩:=aI5 (P:=P) (ρ:=ρ) (t:=t) (j:=j) (w:=w) l J;exact⟨r,e σ,by simp[execOp,h,H,I,i,f]⟩
  |false=>
   rw[l]at J;simp only[jL]at J;by_cases m:k=j;subst m;simp at J;let⟨r,e,f⟩:=aw5 (P:=P) (ρ:=ρ) (t:=t) (w:=w) l J;exact⟨r,e σ,by simp[execOp,h,H,I,i,f]⟩;simp[m]at J
 let⟨c,d,g,hd,b⟩:=lY n;simp[gf,h,Op.operands]at b;obtain⟨z,rfl⟩:=us g;obtain⟨u,rfl⟩:=us hd;let⟨H,I⟩:=b;have i:∀p q,(eqGuard op t x y (.string p) (.string q)).run P w=.ok () w:=λp q=>Jg (.inl aq) aq;let⟨r,e,f⟩:=aw6 (P:=P) (ρ:=ρ) (t:=t) (w:=w) z u J;exact⟨r,e σ,by simp[execOp,h,H,I,i,f]⟩;cases J
def aea(op:UnOp):List U->Option U
 |[.int k n]=>match op with
  |.neg=>yy k (Vx 0 n)
  |.xor=>yy k ((BitVec.ofInt k.bits (if k.signed then-1 else k.max)^^^BitVec.ofInt k.bits n).toNat)
  |_=>none
 |[.bool b]=>match op with
  |.not=>some (.bool (!b))
  |_=>none
 |_=>none
def aLR{op:UnOp}(h:o.op=.unOp op t x):m1 P ρ o (aea op):=by intro σ s a w v ar e J;unfold aea at J;split at J;let⟨c,d,b⟩:=i' e;simp[gf,h,Op.operands]at b;simp only[aT,cx]at d;rw[<-d]at b;split at J;simp[O6]at J;subst J;exact⟨_,rfl,by simp[execOp,h,b,Op.unary,Op.intArith,asn]⟩;simp[O6]at J;subst J;exact⟨_,rfl,by simp[execOp,h,b,Op.unary,Op.intBits]⟩;cases J;let⟨c,d,b⟩:=i' e;simp[gf,h,Op.operands]at b;simp only[aT,cx]at d;rw[<-d]at b;split at J;cases J;exact⟨_,rfl,by simp[execOp,h,b,Op.unary]⟩;cases J;cases J
end
def zg(r o i:Nat):(⟨r,o,none⟩:Addr).add i=⟨r,o+i,none⟩:=by unfold Addr.add;split;rename_i h;subst h;rfl;rfl
def c_.cells{ρ:cj}{σ:b9}{h:ay}{w:Γ}(r:c_ ρ σ h w){b:Nat}{elem:TypeId}{vs:List U}{c wr:Bool}(G:h.cW b=some (.cells elem vs c wr)):∃p arr bd cs,σ b=some p/\w.heap[p.ba]? =some (.cells arr elem bd)/\arr.size=p.del+p.tot/\vs.length<=p.tot/\(c=true->vs.length=p.tot/\p.del=0)/\b5 ρ σ vs=some cs/\ (∀i,i<vs.length->w ⟨p.ba,p.del+i,none⟩=cs[i]?)/\(∀i,i<vs.length->arr[p.del+i]? =cs[i]?)/\ (wr=true->∀i,p.del<=i->i<arr.size->w.frozen? ⟨p.ba,i,none⟩=false):=by
 obtain⟨p,ag,arr,bd,H,I,e,d,⟨cs,f,a⟩,j⟩:=r.ba b _ G;refine⟨p,arr,bd,cs,ag,H,I,e,d,f,λi hi=>?_,a,λg i hi au=>?_⟩
 .simp only[World.cell?,H];simpa using a i hi
 .simp only[World.frozen?,H];have:=j g i hi au;obtain⟨eo,k⟩:=bd;simp at this|-;exact this
def arD{P:Program}{w:Γ}(r o:Nat):∀(n i:Nat) (a:Ω) (cs:υ),cs.length=n->(∀j,j<n->w ⟨r,o+(i+j),none⟩=cs[j]?)->
  (loadCellsFrom ⟨r,o,none⟩ i n a).run P w=.ok (a++cs.toArray) w
 |0,i,a,cs,b,_=>by have:cs=[]:=CN.1 b;subst this;simp[loadCellsFrom]
 |n+1,i,a,[],b,_=>by simp at b
 |n+1,i,a,c::cs,b,h=>by
  have af:=h 0 z;simp at af;rw[loadCellsFrom];simp only[e7,zg,run_load,af,eY]
  rw[arD r o n (i+1) (a.push c) cs (by simpa using b) λj d=>by
   have:=h (j+1) z
   simpa[k4,tW 1 j]using this]
  simp
def P3{P:Program}{w:Γ}(r o n:Nat)(cs:υ)(a:cs.length=n)(h:∀j,j<n->w ⟨r,o+j,none⟩=cs[j]?): (loadCells ⟨r,o,none⟩ n).run P w=.ok cs.toArray w:=by unfold loadCells;rw[arD r o n 0 #[] cs a (by simpa using h)];simp
def U.cells:U->List U
 |.agg l=>l
 |v=>[v]
def vz:TypeDesc->Bool
 |.struct _=>true
 |.array _ _=>true
 |_=>false
def Vk{P:Program}{w:Γ}{t:TypeId}{d:TypeDesc}(hu:P.underlying t=some d):(isAgg t).run P w=.ok (vz d) w:=by simp only[isAgg,underlying,e7,EL,eY,hu,fI];cases d<;>rfl
def Ei(agg:Bool)(n:Nat):List U->ay->Option U
 |[.ji b off],h=>match h.cW b with
  |some (.cells _ vs _ _)=>bif agg then(bif Nat.ble (off+n) vs.length then some (.agg ((vs.drop off).take n))else none)else vs[off]?
  |some (.aK _ vs)=>bif agg then(bif Nat.ble (off+n) vs.length then some (.agg ((vs.drop off).take n))else none)else vs[off]?
  |_=>none
 |_,_=>none
section
variable {P:Program} {ρ:cj}
def anP{o:Oper}{t:TypeId}{x:Operand}(h:o.op=.load t x){d:TypeDesc}{i:TypeInfo}(hu:P.underlying t=some d)(hi:P.info? t=some i): AZ P ρ o (Ei (vz d) i.size):=by
 intro σ s Q a w v ar E F J;unfold Ei at J;split at J
 .rename_i b off;split at J
  .rename_i elem vs S wr G;obtain⟨c,e,g⟩:=i' E;simp[gf,h,Op.operands]at g;simp only[aT,iW]at e;obtain⟨A,C,rfl⟩:=e;obtain⟨p,arr,bd,cs,ag,H,I,O,N,l,n,K,R⟩:=F.cells G;obtain rfl:p=A:=gm (ag.symm.trans C);have m:=Vk (w:=w) hu;have B:(sizeOf t).run P w=.ok i.size w:=by simp[sizeOf,typeInfo,hi]
   generalize vz d=u at J m;have M:=nu l;cases u with
   |true=>
    simp only[eZ]at J;cases f:Nat.ble (off+i.size) vs with
    |false=>simp[f]at J
    |true=>
     have f:=hZ f;rw[show Nat.ble (off+i.size) vs=true from Wk f]at J;simp only[eZ,cx]at J;subst J;refine⟨.agg ((cs.drop off).take i.size).toArray,by simp[aT,ur i.size (vF off l)],?_⟩;have r:=P3 (P:=P) (w:=w) p.ba (p.del+off) i.size ((cs.drop off).take i.size) bw λj y=>by rw[k4,n (off+j) z];simp[pk,y]
     simp[execOp,h,g,Instr.loadAt,Instr.sureAddr,loadVar,m,B,r]
   |false=>simp only[jL]at J;obtain⟨c,e,D⟩:=zq l J;have au:off<vs.length:=(kL.1 J).1;have q:=n off au;rw[e]at q;exact⟨c,D,by simp[execOp,h,g,Instr.loadAt,Instr.sureAddr,loadVar,m,q]⟩
  .rename_i elem vs G;obtain⟨c,e,g⟩:=i' E;simp[gf,h,Op.operands]at g;simp only[aT,iW]at e;obtain⟨A,C,rfl⟩:=e;obtain⟨p,ag,cs,l,H,K⟩:=F.ba b _ G;obtain rfl:p=A:=gm (ag.symm.trans C);have m:=Vk (w:=w) hu;have B:(sizeOf t).run P w=.ok i.size w:=by simp[sizeOf,typeInfo,hi]
   have M:=nu l;have n:∀k,k<vs.length->w ⟨p.ba,p.del+k,none⟩=cs[k]? :=λk L=>by simp only[World.cell?,H];exact K k L
   generalize vz d=u at J m;cases u with
   |true=>
    simp only[eZ]at J;cases f:Nat.ble (off+i.size) vs with
    |false=>simp[f]at J
    |true=>
     have f:=hZ f;rw[show Nat.ble (off+i.size) vs=true from Wk f]at J;simp only[eZ,cx]at J;subst J;refine⟨.agg ((cs.drop off).take i.size).toArray,by simp[aT,ur i.size (vF off l)],?_⟩;have r:=P3 (P:=P) (w:=w) p.ba (p.del+off) i.size ((cs.drop off).take i.size) bw λj y=>by rw[k4,n (off+j) z];simp[pk,y]
     simp[execOp,h,g,Instr.loadAt,Instr.sureAddr,loadVar,m,B,r]
   |false=>simp only[jL]at J;obtain⟨c,e,D⟩:=zq l J;have au:off<vs.length:=(kL.1 J).1;have q:=n off au;rw[e]at q;exact⟨c,D,by simp[execOp,h,g,Instr.loadAt,Instr.sureAddr,loadVar,m,q]⟩
  .cases J
 .cases J
end
def tL(c:Ω)(o:Nat):υ->Ω
 |[]=>c
 |v::l=>tL (c.setIfInBounds o v) (o+1) l
def Qc:∀(l:υ) (c:Ω) (o:Nat),(tL c o l).size=c.size
 |[],_,_=>rfl
 |v::l,c,o=>by simp[tL,Qc l]
def Vp:∀(l:υ) (c:Ω) (o j:Nat),o+l.length<=c.size->(tL c o l)[j]? =if o<=j/\j<o+l.length then l[j-o]? else c[j]?
 |[],c,o,j,_=>by simp[tL];intro H I;omega
 |v::l,c,o,j,h=>by simp at h;rw[tL,Vp l _ _ _ bw];by_cases H:j=o;{subst H;rw[bo z,ci aq];simp[AB];omega};{by_cases I:o+1<=j/\j<o+1+l.length;{rw[ci I,ci bw];have:j-o=(j-(o+1))+1:=z;rw[this];simp};{rw[bo I,bo bw];simp[AB,it H]}}
def gZ(w:Γ)(r:Nat)(o:Obj):Γ:={w with heap:=w.heap.setIfInBounds r o}
def aIW{w:Γ}{r o:Nat}{arr:Ω}{elem:TypeId}{bd:Nat×Nat}{v:Φ}(h:w.heap[r]? =some (.cells arr elem bd)):w.setCell ⟨r,o,none⟩ v=gZ w r (.cells (arr.setIfInBounds o v) elem bd):=by
 unfold World.setCell gZ;congr 1;have au:r<w.heap.size:=(hl.1 h).1;have aP:w.heap[r]=.cells arr elem bd:=(hl.1 h).2;apply QY;intro i;by_cases e:i=r
 .subst e;simp[AB,au,Array.getElem_modify,aP]
 .simp[VQ,AB,it e,e]
def aI0(w:Γ)(r:Nat)(a b:Obj):gZ (gZ w r a) r b=gZ w r b:=by simp[gZ]
def adi{w:Γ}{r:Nat}{o:Obj}(h:r<w.heap.size):(gZ w r o).heap[r]? =some o:=by simp[gZ,h]
def aIZ{w:Γ}{r:Nat}{o:Obj}(h:w.heap[r]? =some o):gZ w r o=w:=by
 unfold gZ;have:w.heap.setIfInBounds r o=w.heap:=by apply QY;intro i;by_cases e:i=r;{subst e;have au:i<w.heap.size:=(hl.1 h).1;simp[AB,au];have:=(hl.1 h).2;exact this.symm};{simp[AB,it e]}
 rw[this]
def ac_{P:Program}(r o:Nat)(elem:TypeId)(bd:Nat×Nat):∀(l:υ) (i:Nat) (w:Γ) (arr:Ω),w.heap[r]? =some (.cells arr elem bd)->(∀v∈l,xn v=true)->
  (∀j,j<l.length->o+(i+j)<arr.size/\¬(bd.1<=o+(i+j)/\o+(i+j)<bd.2))->
  (storeCells ⟨r,o,none⟩ l i).run P w=.ok () (gZ w r (.cells (tL arr (o+i) l) elem bd))
 |[],i,w,arr,a,_,_=>by simp[storeCells,tL,aIZ a]
 |v::l,i,w,arr,a,H,I=>by
  have au:r<w.heap.size:=(hl.1 a).1;obtain⟨aL,b⟩:=I 0 aq;simp only[hY]at aL b;have c:v.oneCell'=true:=by have:=H v aq;cases v<;>simp_all [xn,Value.oneCell']
  have f:w ⟨r,o+i,none⟩=some arr[o+i]:=by simp[World.cell?,a,aL]
  have g:w.frozen? ⟨r,o+i,none⟩=false:=by simp only[World.frozen?,a];obtain⟨eo,hi⟩:=bd;simp at b|-;exact b
  have e:(store ⟨r,o+i,none⟩ v).run P w=.ok () (gZ w r (.cells (arr.setIfInBounds (o+i) v) elem bd)):=by rw[run_store P w _ v _ c,f];simp only[g,re,pZ];rw[aIW a]
  rw[storeCells];simp only[e7,zg,e,eY]
  rw[ac_ r o elem bd l (i+1) _ (arr.setIfInBounds (o+i) v) (adi au) (λu hu=>H u (jw _ hu)) λj d=>by
   have:=I (j+1) (by simpa using d)
   simpa[k4,tW 1 j]using this]
  rw[aI0,tL,k4]
def An(vs:List U)(o:Nat)(l:List U):List U:=vs.take o++(l++vs.drop (o+l.length))
def c_.put{ρ:cj}{σ:b9}{h:ay}{w:Γ}(r:c_ ρ σ h w){b:Nat}{p:nT}{d x:eK}(G:h.cW b=some d)(ag:σ b=some p)(t:b<eG){o:Obj}(au:p.ba<w.heap.size) (A:kA ρ σ p (some o) x):c_ ρ σ (h.db b (some x)) (gZ w p.ba o)/\jY σ h w σ (h.db b (some x)) (gZ w p.ba o):=by
 have i:=λj=>ay.vJ h b j (some x) t;have pf:∀j y q,j≠b->h.cW j=some y->σ j=some q->(gZ w p.ba o).heap[q.ba]? =w.heap[q.ba]? :=λj y q e a c=>by have:=r.inj j b y d q p a G c ag e;exact ab4
 refine⟨⟨λj y a=>?_,λj n y J q E a D c F B=>?_,λj a=>r.kn j a⟩,?_⟩
 .rw[i]at a;by_cases e:j=b
  .subst e;rw[ci rfl]at a;cases a;exact⟨p,ag,by rw[adi au];exact A⟩
  .rw[bo e]at a;obtain⟨q,c,C⟩:=r.ba j y a;exact⟨q,c,by rw[pf j y q e a c];exact C⟩
 .have l:∀k ai,(h.db b (some x)).cW k=some ai->∃g,h.cW k=some g:=λk ai f=>by rw[i]at f;by_cases e:k=b;{subst e;exact⟨d,G⟩};{rw[bo e]at f;exact⟨ai,f⟩}
  obtain⟨ai,z⟩:=l j y a;obtain⟨g,s⟩:=l n J D;exact r.inj j n ai g q E z s c F B
 .refine⟨.refl _,λ_ H I=>(I H).elim,aY _,by simp[gZ],λk f u=>?_,λk ⟨j,y,q,a,c,e⟩=>?_,rfl,rfl,rfl⟩
  .have:p.ba≠k:=λe=>u ⟨b,d,p,G,ag,e⟩;simp[gZ,AB,this]
  .rw[i]at a;by_cases m:j=b
   .subst m;exact .inr ⟨j,d,q,G,c,e⟩
   .rw[bo m]at a;exact .inr ⟨j,y,q,a,c,e⟩
def qk:U->Bool
 |.agg _=>false
 |.tup _=>false
 |_=>true
def am'{ρ:cj}{σ:b9}{v:U}{c:Φ}(h:qk v=true)(a:aT ρ σ v=some c):xn c=true:=by
 cases v<;>simp[qk]at h<;>simp only[aT]at a;case str l=>split at a<;>cases a;rfl
 case fn f x y=>split at a<;>cases a;rfl
 case sym i=>split at a<;>cases a;assumption
 all_goals first|(cases a;rfl)|(simp only[iW]at a;obtain⟨q,_,rfl⟩:=a;rfl)
def FC{ρ:cj}{σ:b9}:∀{l:List U} {cs:υ},l.all qk=true->b5 ρ σ l=some cs->∀c∈cs,xn c=true
 |[],cs,_,h,c,a=>by simp[b5]at h;subst h;cases a
 |v::l,cs,aL,h,c,a=>by
  obtain⟨x,r,H,I,rfl⟩:=qK h;simp only[List.all_cons,dW]at aL;cases a with
  |head=>exact am' aL.1 H
  |tail _ a=>exact FC aL.2 I c a
def Yw{ρ:cj}{σ:b9}{v:U}{c:Φ}(h:v.cells.all qk=true)(a:aT ρ σ v=some c):b5 ρ σ v.cells=some c.cells.toList:=by
 cases v<;>simp only[U.cells]at h|-;case agg l=>simp only[aT,iW]at a;obtain⟨x,b,rfl⟩:=a;simpa[Value.cells]using b
 case tup l=>simp[qk]at h
 all_goals(have:=am' (by simpa using h) a;simp only[b5,a];cases c<;>simp[xn]at this<;>simp[Value.cells])
def adD(n:Nat):List U->ay->Option (U×ay)
 |[.ji b off,v],h=>match h.cW b with
  |some (.cells elem vs a true)=>
   bif Nat.beq v.cells.length n&&Nat.ble (off+n) vs.length&&v.cells.all qk&&Nat.blt b eG then
    some (qG,h.db b (some (.cells elem (An vs off v.cells) a true)))else none
  |_=>none
 |_,_=>none
variable{l:List U}
def Vq{vs:List U}{o:Nat}(h:o+l.length<=vs.length):(An vs o l).length=vs.length:=by simp[An];omega
variable{cs a:υ}
def aiX{ρ:cj}{σ:b9}{vs:List U}{o:Nat}(H:b5 ρ σ vs=some cs)(I:b5 ρ σ l=some a):b5 ρ σ (An vs o l)=some (cs.take o++(a++cs.drop (o+l.length))):=
 zp (ur o H) (zp I (vF _ H))
def ar7{o j:Nat}(h:o+a.length<=cs.length):(cs.take o++(a++cs.drop (o+a.length)))[j]? =if o<=j/\j<o+a.length then a[j-o]? else cs[j]? :=by by_cases H:j<o;rw[bo z,CM bw];simp[pk,H];rw[EP bw];have e:(cs.take o).length=o:=bw;rw[e];by_cases I:j<o+a.length;rw[ci z,CM z];rw[bo z,EP z,Ld];congr 1;omega
def c_.aew{ρ:cj}{σ:b9}{h:ay}{w:Γ}(r:c_ ρ σ h w){b:Nat}{elem:TypeId}{vs:List U}{d:Bool}(G:h.cW b=some (.cells elem vs d true))(t:b<eG){off:Nat}{l:List U}{a:υ}(g:b5 ρ σ l=some a) (f:off+l.length<=vs.length)(n:∀c∈a,xn c=true):∃p w',σ b=some p/\(∀(P:Program),(storeCells ⟨p.ba,p.del+off,none⟩ a).run P w=.ok () w')/\ c_ ρ σ (h.db b (some (.cells elem (An vs off l) d true))) w'/\jY σ h w σ (h.db b (some (.cells elem (An vs off l) d true))) w':=by
 obtain⟨p,arr,bd,cs,ag,H,I,s,o,k,E,B,A⟩:=r.cells G;have au:p.ba<w.heap.size:=(hl.1 H).1;have C:=nu g;have F:=nu k;have m:∀i,p.del<=i->i<arr.size->¬(bd.1<=i/\i<bd.2):=λi hi au=>by have:=A rfl i hi au;simp only[World.frozen?,H]at this;obtain⟨eo,J⟩:=bd;simp at this|-;exact this
 have y:∀(P:Program),(storeCells ⟨p.ba,p.del+off,none⟩ a).run P w=.ok () (gZ w p.ba (.cells (tL arr (p.del+off) a) elem bd)):=λP=>by have:=ac_ (P:=P) p.ba (p.del+off) elem bd a 0 w arr H n λj D=>⟨z,m _ z z⟩;simpa using this
 have x:kA ρ σ p (some (.cells (tL arr (p.del+off) a) elem bd)) (.cells elem (An vs off l) d true):=by refine⟨_,bd,rfl,by rw[Qc];exact I,by rw[Vq f];exact s,λaj=>by rw[Vq f];exact o aj,⟨_,aiX k g,λi hi=>?_⟩,λ_ i hi au=>?_⟩;{rw[Vq f]at hi;rw[Vp _ _ _ _ z,<-C,ar7 z];by_cases e:off<=i/\i<off+a.length;{rw[ci e,ci z];congr 1;omega};{rw[bo e,bo z];exact B i hi}};{rw[Qc]at au;exact m i hi au}
 obtain⟨q,u⟩:=r.put G ag t au x;exact⟨p,_,ag,y,q,u⟩
section
variable {P:Program} {ρ:cj}
def aKa{o:Oper}{t:TypeId}{x y:Operand}(h:o.op=.store t x y){i:TypeInfo}(hi:P.info? t=some i):Da P ρ o (adD i.size):=by
 intro σ s A a w v r ar j l J;unfold adD at J;split at J
 .rename_i b off u;split at J
  .rename_i elem vs B G;cases e:(Nat.beq u.cells i.size&&Nat.ble (off+i.size) vs&&u.cells.all qk&&Nat.blt b eG)with
   |false=>rw[e]at J;simp at J
   |true=>
    rw[e]at J;simp only[eZ,cx,iX]at J;obtain⟨rfl,rfl⟩:=J;simp only[dW]at e;obtain⟨⟨⟨c1,c2⟩,c3⟩,c4⟩:=e;have c1:=gK c1;have c2:=hZ c2;have c4:b<eG:=by simpa using c4
    obtain⟨c,d,e,hd,g⟩:=lY j;simp[gf,h,Op.operands]at g;obtain⟨b7,cw⟩:=g;have f:=Yw c3 hd;obtain⟨p,w',ag,m,q,k⟩:=l.aew (off:=off) G c4 f z (FC c3 f);simp only[aT,ag,ov,cx]at e;subst e;have n:d.cells.size=i.size:=by have:=nu f;simp at this;omega
    refine .inr (.inl ⟨w',?_,σ,Na ρ σ,q,k⟩);simp[execOp,h,b7,cw,Instr.storeAt,Instr.sureAddr,storeVar,sizeOf,typeInfo,hi,n,m]
  .cases J
 .cases J
end
section
variable {P:Program} {ρ:cj}
def h_{w:Γ}{t:TypeId}{d:TypeDesc}(h:P.underlying t=some d):(underlying t).run P w=.ok d w:=by simp[underlying,h]
def qo{w:Γ}{t:TypeId}{i:TypeInfo}(h:P.info? t=some i):(sizeOf t).run P w=.ok i.size w:=by simp[sizeOf,typeInfo,h]
def ND(off:Nat):List U->Option U
 |[.ji b o]=>some (.ji b (o+off))
 |_=>none
variable{b:Nat}
def wP{σ:b9}{o:Nat}(h:aT ρ σ (.ji b o)=some c):∃p,σ b=some p/\c=.pointer (some ⟨p.ba,p.del+o,none⟩):=by exact aob
variable{n:Nat}
def zr{σ:b9}{o e:Nat}{cap:Option Nat}(h:aT ρ σ (.slice b o n e cap)=some c):∃p,σ b=some p/\c=.slice (some ⟨p.ba,p.del+o,none⟩) n (jP p o e cap):=by exact aob
def o0{σ:b9}{k:IntKind}{n:Int}{c:Φ}(h:aT ρ σ (.int k n)=some c):c=.int k n:=by simp only[aT,cx]at h;exact h.symm
def azt{o:Oper}{t:TypeId}{x:Operand}{i:Nat}(h:o.op=.fieldAddr t x i){d:Array Field}{f:Field}{e:TypeInfo}(hu:P.underlying t=some (.struct d))(l:d[i]? =some f)(hi:P.info? f.type=some e)(k:e.size≠0): m1 P ρ o (ND f.offset):=by
 intro σ s a w v ar j J;unfold ND at J;split at J
 .cases J;obtain⟨c,g,b⟩:=i' j;simp[gf,h,Op.operands]at b;obtain⟨p,ag,rfl⟩:=wP g;refine⟨.pointer (some ⟨p.ba,p.del+(_+f.offset),none⟩),by simp[aT,ag];rfl,?_⟩;simp[execOp,h,b,Instr.fieldAt,h_ hu,l,Instr.sureAddr,fieldPlace,qo hi,k,zg,k4]
 .cases J
def J1(n:Nat):List U->Option U
 |[.slice b o len _ _,.int _ i]=>match i with
  |.ofNat m=>bif Nat.blt m len then wo (o+m*n) λq=>some (.ji b q)else none
  |_=>none
 |_=>none
def aC9{o:Oper}{t e:TypeId}{x y:Operand}(h:o.op=.indexAddr t x y){f:TypeInfo}(hu:P.underlying t=some (.slice e))(hi:P.info? e=some f):m1 P ρ o (J1 f.size):=by
 intro σ s a w v ar n J;unfold J1 at J;split at J
 .rename_i b off len q cap k i;split at J
  .rename_i m;cases au:Nat.blt m len with
   |false=>simp[au]at J
   |true=>
    have l:m<len:=by simpa using au
    simp[au,Aq]at J;subst J;obtain⟨c,d,j,hd,g⟩:=lY n;simp[gf,h,Op.operands]at g;obtain⟨p,ag,rfl⟩:=zr j;obtain rfl:=o0 hd;obtain⟨b7,cw⟩:=g;refine⟨.pointer (some ⟨p.ba,p.del+(off+m*f.size),none⟩),by simp[aT,ag],?_⟩;simp[execOp,h,b7,cw,Instr.indexAt,asIntOf,h_ hu,qo hi,l,zg,k4]
  .cases J
 .cases J
def abt(len n:Nat):List U->Option U
 |[.ji b o,.int _ i]=>match i with
  |.ofNat m=>bif Nat.blt m len then wo (o+m*n) λq=>some (.ji b q)else none
  |_=>none
 |_=>none
def aC_{o:Oper}{t e:TypeId}{len:Nat}{x y:Operand}(h:o.op=.indexAddr t x y){f:TypeInfo}(hu:P.underlying t=some (.array len e))(hi:P.info? e=some f):m1 P ρ o (abt len f.size):=by
 intro σ s a w v ar n J;unfold abt at J;split at J
 .rename_i b off k i;split at J
  .rename_i m;cases au:Nat.blt m len with
   |false=>simp[au]at J
   |true=>
    have l:m<len:=by simpa using au
    simp[au,Aq]at J;subst J;obtain⟨c,d,j,hd,g⟩:=lY n;simp[gf,h,Op.operands]at g;obtain⟨p,ag,rfl⟩:=wP j;obtain rfl:=o0 hd;obtain⟨b7,cw⟩:=g;refine⟨.pointer (some ⟨p.ba,p.del+(off+m*f.size),none⟩),by simp[aT,ag],?_⟩;simp[execOp,h,b7,cw,Instr.indexAt,asIntOf,h_ hu,qo hi,Instr.sureAddr,l,zg,k4]
  .cases J
 .cases J
def Pw:List U->Option U
 |[.ji b o]=>some (.ji b o)
 |[.fn f x y]=>some (.fn f x y)
 |[.xF b]=>some (.xF b)
 |[.iface t v]=>some (.iface t v)
 |_=>none
def aFD{o:Oper}{x:Operand}(h:o.op=.nilCheck x):m1 P ρ o Pw:=by
 intro σ s a w v ar V J;unfold Pw at J;split at J<;>cases J
 .obtain⟨c,O,L⟩:=i' V;simp[gf,h,Op.operands]at L;obtain⟨p,ag,rfl⟩:=wP O;exact⟨_,O,by simp[execOp,h,L]⟩
 .obtain⟨c,O,L⟩:=i' V;simp[gf,h,Op.operands]at L;have lb:=O;simp only[aT]at O;split at O<;>cases O;exact⟨_,lb,by simp[execOp,h,L]⟩
 .exact aoM
 .exact aoM
def UO{σ:b9}{b:Nat}(G:σ b=none){w:Γ}{elem:TypeId}{vs:List U}{cs:υ}(a:b5 ρ σ vs=some cs): kA ρ (ea σ b ⟨w.heap.size,0,vs.length⟩) ⟨w.heap.size,0,vs.length⟩ (some (.cells cs.toArray elem)) (.cells elem vs true true):=by refine⟨cs.toArray,(0,0),rfl,by simp[nu a],aY _,λ_=>⟨rfl,rfl⟩,⟨cs,wO (.db G) a,λi _=>aq⟩,λ_ i _ _=>aq⟩
def XR(elem:TypeId)(zs:List U):List U->Option eK
 |[]=>some (.cells elem zs true true)
 |_=>none
def Kq(_:List U)(b:Nat):U:=.ji b 0
def awM{o:Oper}{t:TypeId}(h:o.op=.alloc t){i:TypeInfo}{ai:Φ}{zs:List U}(hi:P.info? t=some i)(e:i.zero=some ai)(f:uR ai.cells.toList=some zs):H' P ρ o (XR t zs) Kq:=by
 intro σ s a w x b ar g c G;unfold XR at c;split at c
 .cases c;have d:=Kh (ρ:=ρ) (σ:=σ) f;refine⟨.cells ai.cells t,zs.length,w.drawn,.pointer (some ⟨w,0,none⟩),?_,by simp[Kq,aT,ea],by simpa using UO (w:=w) (elem:=t) G d⟩;simp[execOp,h,Instr.alloc,zeroValue,typeInfo,hi,e,newVar,newRow]
 .cases c
def X8(elem:TypeId):List U->Option eK
 |[v]=>bif v.cells.all qk then some (.cells elem v.cells true true)else none
 |_=>none
def aw9{o:Oper}{t:TypeId}{x:Operand}(h:o.op=.box t x):H' P ρ o (X8 t) Kq:=by
 intro σ s a w y b ar g d G;unfold X8 at d;split at d
 .rename_i v;cases e:v.cells.all qk with
  |false=>simp[e]at d
  |true=>simp[e]at d;subst d;obtain⟨c,i,f⟩:=i' g;simp[gf,h,Op.operands]at f;have j:=Yw e i;refine⟨.cells c.cells t,v.cells.length,w.drawn,.pointer (some ⟨w,0,none⟩),?_,by simp[Kq,aT,ea],by simpa using UO (w:=w) (elem:=t) G j⟩;simp[execOp,h,f,Instr.box,newVar,newRow]
 .cases d
def vI:List (Nat×Nat)->List U->List U->Option (List U)
 |[],[],cs=>some cs
 |(off,n)::a,v::vs,cs=>
  bif Nat.beq v.cells.length n&&Nat.ble (off+n) cs.length&&v.cells.all qk then vI a vs (An cs off v.cells)else none
 |_,_,_=>none
def aj8(off:Nat):∀(l:υ) (k:Nat) (c:Ω),(l.zipIdx k).foldl (λcs (x:Φ×Nat)=>cs.setIfInBounds (off+x.2) x.1) c=tL c (off+k) l
 |[],_,_=>rfl
 |v::l,k,c=>by simp only[List.zipIdx_cons,Lc,tL];rw[aj8 off l (k+1),k4]
def aJJ{o:Nat}(h:o+a.length<=cs.length):tL cs.toArray o a=(cs.take o++(a++cs.drop (o+a.length))).toArray:=by apply QY;intro j;rw[Vp _ _ _ _ (by simpa using h)];simp only[Wf];rw[ar7 h]
def Zk{σ:b9}{place:Nat->Option (Nat×Nat)}:∀{parts:List (Nat×Operand)} {g:List (Nat×Nat)} {vs cs:List U} {a:Ω} {aH:υ} {r:List U},(parts.map λp=>place p.1)=g.map some->b5 ρ σ vs=some (parts.map λp=>eC a p.2)->
  b5 ρ σ cs=some aH->vI g vs cs=some r->∃f,b5 ρ σ r=some f/\Instr.fill place aH.toArray (parts.map λp=>(p.1,eC a p.2))=some f.toArray
 |[],[],vs,cs,a,aH,r,_,J,b,h=>by
  cases vs with
  |nil=>simp[vI]at h;subst h;exact⟨aH,b,rfl⟩
  |cons v vs=>simp[vI]at h
 |[],_::_,_,_,_,_,_,ag,_,_,_=>by simp at ag
 |_::_,[],_,_,_,_,_,ag,_,_,_=>by simp at ag
 |(i,x)::parts,(off,n)::g,vs,cs,a,aH,r,ag,J,b,h=>by
  simp only[qu,qs]at ag;cases vs with
  |nil=>simp[vI]at h
  |cons v vs=>
   simp only[vI]at h
   cases d:(Nat.beq v.cells n&&Nat.ble (off+n) cs&&v.cells.all qk)with
   |false=>rw[d]at h;simp at h
   |true=>
    rw[d]at h
    simp only[eZ]at h
    simp only[dW]at d
    let⟨⟨bN,dx⟩,gc⟩:=d
    have bN:=gK bN
    have dx:=hZ dx
    let⟨c,s,H,I,e⟩:=qK J
    simp only[qu,qs]at e
    let⟨e,q⟩:=e
    have k:=Yw gc H
    have j:=nu k
    simp at j
    have t:=nu b
    let⟨f,ak,m⟩:=Zk (place:=place) ag.2 (q▸I) (aiX (o:=off) b k) h
    refine⟨f,ak,?_⟩
    simp only[qu,Instr.fill,ag.1,e]
    have G:(decide (c.cells.size≠n)||decide (off+c.cells.size>aH.toArray.size))=false:=bw
    rw[G]
    simp only[re,pZ]
    have l:(c.cells.zipIdx.foldl (λcs (x:Φ×Nat)=>cs.setIfInBounds (off+x.2) x.1) aH.toArray)=(aH.take off++(c.cells.toList++aH.drop (off+v.cells.length))).toArray:=by
     rw[<-as_,Array.toList_zipIdx,aj8 off c.cells.toList 0,hY,aJJ bw]
     simp[j]
    rw[l]
    exact m
end
section
variable {P:Program} {ρ:cj}
def aj2:∀{b:List (Nat×Nat)} {vs cs r:List U},vI b vs cs=some r->r.length=cs.length
 |[],[],cs,r,h=>by simp[vI]at h;subst h;rfl
 |[],_::_,cs,r,h=>by simp[vI]at h
 |_::_,[],cs,r,h=>by simp[vI]at h
 |(off,n)::b,v::vs,cs,r,h=>by
  simp only[vI]at h;cases a:(Nat.beq v.cells n&&Nat.ble (off+n) cs&&v.cells.all qk)with
  |false=>rw[a]at h;simp at h
  |true=>
   rw[a]at h
   simp only[eZ]at h
   simp only[dW]at a
   let⟨⟨bN,dx⟩,gc⟩:=a
   have bN:=gK bN
   have dx:=hZ dx
   rw[aj2 h,Vq z]
def Ko(P:Program):List Field->Option (List (Nat×Nat))
 |[]=>some []
 |f::a=>match P.info? f.type,Ko P a with
  |some i,some r=>some ((f.offset,i.size)::r)
  |_,_=>none
def arF{w:Γ}:∀{a:List Field} {r:List (Nat×Nat)},Ko P a=some r->(a.mapM λf=>do pure (f.offset,<-sizeOf f.type):Sem (List (Nat×Nat))).run P w=.ok r w
 |[],r,h=>by simp[Ko]at h;subst h;simp
 |f::a,r,h=>by simp only[Ko]at h;split at h;{rename_i i c hi b;cases h;simp only[afB,e7,qo hi,eY,fI];rw[arF b];rfl};{cases h}
def X'(zs:List U)(a:List (Nat×Nat))(vs:List U):Option U:=match vI a vs zs with
 |some r=>some (.agg r)
 |none=>none
def aqw(parts:Array (Nat×Operand))(a:Ω):(parts.map λ(i,x)=>(i,eC a x)).toList=parts.toList.map λp=>(p.1,eC a p.2):=aq
def axb{o:Oper}{t:TypeId}{parts:Array (Nat×Operand)}(h:o.op=.build t parts){i:TypeInfo}{ai:Φ}{zs:List U}{c:Array Field}{b j:List (Nat×Nat)}(hi:P.info? t=some i)(n:i.zero=some ai)(q:uR ai.cells.toList=some zs) (hu:P.underlying t=some (.struct c))(k:Ko P c.toList=some b)(ag:(parts.toList.map λp=>b[p.1]?)=j.map some):m1 P ρ o (X' zs j):=by
 intro σ s a w v ar d J;unfold X' at J;split at J
 .rename_i r l;cases J;simp only[gf,h,Op.operands,H5]at d;obtain⟨g,H,I⟩:=Zk (place:=(b.toArray[·]?)) (parts:=parts.toList) (a:=a) (by simpa using ag) (by simpa[VT]using d) (Kh q) l;refine⟨.agg g.toArray,by simp[aT,H],?_⟩;have m:(c.mapM λf=>do pure (f.offset,<-sizeOf f.type):Sem (Array (Nat×Nat))).run P w=.ok b.toArray w:=by rw[afd];simp only[afl];rw[arF k];rfl
  have G:(Instr.build t (parts.map λ(i,x)=>(i,eC a x))).run P w=.ok (.agg g.toArray) w:=by simp only[Instr.build,e7,zeroValue,typeInfo,EL,eY,hi,fI,n,h_ hu];rw[m];simp only[eY,aqw];have e:ai.cells=ai.cells.toList.toArray:=aq;rw[e,I];rfl
  simp[execOp,h,G]
 .cases J
def X_(elem:TypeId)(a:List U)(b:List (Nat×Nat))(vs:List U):Option eK:=match vI b vs a with
 |some r=>some (.cells elem r true true)
 |none=>none
def ads(len esz:Nat)(_:List U)(b:Nat):U:=.slice b 0 len esz none
def axa{o:Oper}{t e:TypeId}{len:Nat}{parts:Array (Nat×Operand)}(h:o.op=.buildSlice t len parts){c:TypeInfo}{ai:Φ}{f:List U}{l:List (Nat×Nat)}(hu:P.underlying t=some (.slice e))(aP:P.info? e=some c)(q:c.zero=some ai) (C:len*c.size<=2^24)(u:c.size≠0)(n:uR ((Array.range (len*c.size)).map ((if len*c.size=0 then #[]else ai.cells)[· %(if len*c.size=0 then #[]else ai.cells).size]!)).toList=some f) (ag:l=parts.toList.map λp=>(p.1*c.size,c.size)):H' P ρ o (X_ e f l) (ads len c.size):=by
 intro σ s a w x b ar g d G;unfold X_ at d;split at d
 .rename_i r j;cases d;simp only[gf,h,Op.operands,H5]at g;have m:=Kh (ρ:=ρ) (σ:=σ) n;obtain⟨k,H,I⟩:=Zk (place:=λi=>some (i*c.size,c.size)) (parts:=parts.toList) (a:=a) (by subst ag;simp[VT]) (by simpa[VT]using g) m j;have A:r.length=len*c.size:=by rw[aj2 j,<-nu m];simp
  have y:=UO (ρ:=ρ) (w:=w) (elem:=e) G H;refine⟨.cells k.toArray e,r.length,w.drawn,.slice (some ⟨w,0,none⟩) len len,?_,?_,y⟩
  .have B:(Instr.buildSlice t len (parts.map λ(i,x)=>(i,eC a x))).run P w=.ok (.slice (some ⟨w,0,none⟩) len len) {w with heap:=w.heap.push (.cells k.toArray e),drawn:=w.drawn}:=by simp only[Instr.buildSlice,e7,h_ hu,qo aP,eY,aqw];rw[bo z];by_cases af:len*c.size=0;{simp only[af,oR]at I|-;simp only[e7,fI,eY,atb]at I|-;rw[I];rfl};{simp only[af,pZ]at I|-;simp only[e7,zeroValue,typeInfo,EL,eY,aP,fI,q,atb]at I|-;rw[I];rfl}
   simp[execOp,h,B]
  .have:len*c.size/c.size=len:=afI _ (Wm u);simp[ads,aT,ea,jP,A,this]
 .cases d
def G9(c:Nat)(l:List U):List U:=match c with
 |0=>[]
 |c+1=>l++G9 c l
def wl(c:Nat)(l:υ):υ:=match c with
 |0=>[]
 |c+1=>l++wl c l
def aq'{σ:b9}{l:List U}{cs:υ}(h:b5 ρ σ l=some cs):∀c,b5 ρ σ (G9 c l)=some (wl c cs)
 |0=>rfl
 |c+1=>zp h (aq' h c)
def ara(l:List U):∀c,(G9 c l).length=c*l.length
 |0=>by simp[G9]
 |c+1=>by simp[G9,ara l c,afN,tW]
def acZ(l:υ):∀c,(wl c l).length=c*l.length
 |0=>by simp[wl]
 |c+1=>by simp[wl,acZ l c,afN,tW]
def aq_(l:υ):∀(c j:Nat),j<c*l.length->(wl c l)[j]? =l[j%l.length]?
 |0,j,h=>by simp at h
 |c+1,j,h=>by rw[wl];by_cases b:j<l;{rw[CM b,AL b]};{rw[EP z,aq_ l c (j-l.length) (by rw[afN]at h;omega)];congr 1;rw[Nat.mod_eq_sub_mod (a:=j) z]}
def aq0(ai:Ω)(c:Nat)(d:ai.size≠0):((Array.range (c*ai.size)).map (ai[· %ai.size]!))=(wl c ai.toList).toArray:=by apply QY;intro j;by_cases a:j<c*ai.size;simp only[Wf];rw[aq_ ai.toList c j (by simpa using a)];have b:j%ai.size<ai.size:=yP _ (Wm d);simp[a,b];rw[VP bw,VP (by simp[acZ];omega)]
def abZ(elem:TypeId)(zs:List U)(bytes:Nat):List U->Option eK
 |[.int _ (.ofNat l),.int _ (.ofNat c)]=>bif Nat.ble l c&&Nat.ble (bytes*c) 281474976710656&&Nat.ble c 9223372036854775807 then some (.cells elem (G9 c zs) true true)else none
 |_=>none
def adq(esz:Nat):List U->Nat->U
 |[.int _ (.ofNat l),_],b=>.slice b 0 l esz none
 |_,_=>.dM
def aEB{o:Oper}{t e:TypeId}{x y:Operand}(h:o.op=.makeSlice t x y){d:TypeInfo}{ai:Φ}{zs:List U}(hu:P.underlying t=some (.slice e))(aP:P.info? e=some d)(H:d.zero=some ai)(N:uR ai.cells.toList=some zs) (j:ai.cells.size=d.size)(i:d.size≠0):H' P ρ o (abZ e zs d.bytes) (adq d.size):=by
 intro σ s a w q b ar A f G;unfold abZ at f;split at f
 .rename_i k l M c;cases g:(Nat.ble l c&&Nat.ble (d.bytes*c) 281474976710656&&Nat.ble c 9223372036854775807)with
  |false=>rw[g]at f;simp at f
  |true=>
   rw[g]at f;simp only[eZ,cx]at f;subst f;simp only[dW]at g;obtain⟨⟨bN,dx⟩,gc⟩:=g;have bN:=hZ bN;have dx:=hZ dx;have gc:=hZ gc;obtain⟨c1,c2,O,R,n⟩:=lY A;simp[gf,h,Op.operands]at n;obtain rfl:=o0 O;obtain rfl:=o0 R;obtain⟨b7,cw⟩:=n;have r:=Kh (ρ:=ρ) (σ:=σ) N;have u:=nu r;simp at u;have J:=UO (ρ:=ρ) (w:=w) (elem:=e) G (aq' r c);refine⟨_,_,w.drawn,.slice (some ⟨w,0,none⟩) l c,?_,?_,J⟩
   .have D:IntKind.i64.wrap (Int.ofNat l)=(l:Int):=pU _ ⟨by simp only[EO];omega,by simp only[EO];omega⟩;have E:IntKind.i64.wrap (Int.ofNat c)=(c:Int):=pU _ ⟨by simp only[EO];omega,by simp only[EO];omega⟩;have F:(Instr.makeSlice t (.int k (Int.ofNat l)) (.int M (Int.ofNat c))).run P w=.ok (.slice (some ⟨w,0,none⟩) l c) {w with heap:=w.heap.push (.cells (wl c ai.cells.toList).toArray e),drawn:=w.drawn}:=by
     simp only[Instr.makeSlice,e7,h_ hu,eY,asInt,asIntOf,fI,typeInfo,EL,aP,D,E];have C:(d.bytes:Int)*(c:Int)<=281474976710656:=by rw[<-EN];generalize d.bytes*c=m at dx;omega
     have K:(decide ((c:Int)<0)||decide ((d.bytes:Int)*(c:Int)>2^48))=false:=by generalize (d.bytes:Int)*(c:Int)=m at C;have B:(2:Int)^48=281474976710656:=rfl;rw[Q1];exact⟨Wq z,Wq (by rw[B];omega)⟩
     rw[K];have I:(false||decide ((l:Int)<0)||decide ((l:Int)>(c:Int)))=false:=by rw[Q1,Q1];exact⟨⟨rfl,Wq z⟩,Wq z⟩
     rw[bo (by rw[I];simp)];simp only[e7,run_askRoom,eY,qo aP,Rg];by_cases af:c*d.size=0
     .have Q:c=0:=by
       rcases Nat.mul_eq_zero.1 af with h|h
       .exact h
       .exact(i h).elim
      subst Q;have dA:(Array.map (λ_=>(default:Φ)) (Array.range 0))=#[]:=Array.eq_empty_of_size_eq_zero aq;simp[newRow,wl,dA]
     .simp only[af,pZ,e7,zeroValue,typeInfo,EL,eY,aP,fI,H];rw[<-j,aq0 ai.cells c (by rw[j];exact i)];simp[newRow]
    simp only[execOp,h,b7,cw,e7,F,eY,fI]
   .have L:(G9 c zs).length=c*d.size:=by rw[ara,<-u,j]
    have:c*d.size/d.size=c:=afI _ (Wm i);simp[adq,aT,ea,jP,L,this]
 .cases f
end
section
variable {P:Program} {ρ:cj}
def wg(n:Nat):Option U:=wo n λn=>some (.int .i64 (.ofNat n))
def GU(n:Nat):wg n=some (.int .i64 (.ofNat n)):=by simp[wg,Aq]
def S5{o:Oper}{c:Call}{b:Builtin}{a:Ω}{w w':Γ}{v:Φ}(h:o.op=.call c)(d:c.callee=.builtin b)(G:∀cs,(builtin b c.argTypes o.type cs (c.args.map (eC a))).run P w=.ok (.value v) w'): (execOp (eC a) o).run P w=.ok (.value v) w':=by simp only[execOp,h,resolve,d,e7,fI,eY,invoke];exact G _
def Ep{o:Oper}{c:Call}{b:Builtin}{a:Ω}(h:o.op=.call c)(d:c.callee=.builtin b):gf o a=(c.args.map (eC a)).toList:=by simp[gf,h,Op.operands,Call.operands,d]
def arC{o:Oper}{c:Call}{a:Ω}{w:Γ}(h:o.op=.call c)(O:c.callee=.builtin .len){n:Nat}{u:Φ}(L:(c.args.map (eC a)).toList=[u])(ae:(Builtin.len_ c.argTypes o.type #[u]).run P w=.ok (goInt n) w): (execOp (eC a) o).run P w=.ok (.value (.int .i64 (.ofNat n))) w:=by exact aoh
def Pg:List U->Option U
 |[.str s]=>wg s.length
 |_=>none
def Pf:List U->Option U
 |[.slice _ _ n _ _]=>wg n
 |[.dM]=>wg 0
 |[.lZ _ _ _ _]=>wg 0
 |_=>none
def aEc{o:Oper}{c:Call}{t:TypeId}(h:o.op=.call c)(b:c.callee=.builtin .len)(aj:c.argTypes[0]? =some t)(hu:P.underlying t=some .string):m1 P ρ o Pg:=by
 intro σ s a w v ar d J;rw[Ep h b]at d;unfold Pg at J;split at J
 .rw[GU]at J;cases J;obtain⟨x,f,e⟩:=i' d;obtain⟨ok,rfl⟩:=us f;refine⟨_,rfl,arC h b e ?_⟩;simp[Builtin.len_,aj,h_ hu,MR]
 .cases J
def aEa{o:Oper}{c:Call}{t e:TypeId}(h:o.op=.call c)(O:c.callee=.builtin .len)(aj:c.argTypes[0]? =some t)(hu:P.underlying t=some (.slice e)):m1 P ρ o Pf:=by
 intro σ s a w v ar d J;rw[Ep h O]at d;unfold Pf at J;split at J
 .rw[GU]at J;cases J;obtain⟨x,b,L⟩:=i' d;obtain⟨p,ag,rfl⟩:=zr b;exact acd
 .rw[GU]at J;cases J;obtain⟨x,b,L⟩:=i' d;simp only[aT,cx]at b;subst b;exact acd
 .rw[GU]at J;cases J;obtain⟨x,b,L⟩:=i' d;simp only[aT,iW]at b;obtain⟨p,ag,rfl⟩:=b;exact acd
 .cases J
def J2:List U->Option U
 |[.str s,.int _ (.ofNat m)]=>match s[m]? with
  |some b=>wo b λb=>some (.int .u8 (.ofNat b))
  |none=>none
 |_=>none
def aF8{s:Δ}(h:kY s){m b:Nat}(G:s[m]? =some b):b<256:=by unfold kY at h;rw[iq]at h;simpa using h b (CO G)
def axh{s:Δ}(h:kY s){m b:Nat}(G:s[m]? =some b):∃x,(e2 s)[m]? =some x/\x.toNat=b:=by
 have au:m<s.length:=(kL.1 G).1;have c:=aF8 h G;have d:(UInt8.ofNat b).toNat=b:=by rw[VN];exact AL c
 refine⟨UInt8.ofNat b,?_,d⟩;have a:m<(e2 s).size:=by rw[MR];exact au
 rw[getElem?_pos (e2 s) m a];have:(e2 s)[m]=(e2 s).data[m]'a:=rfl;rw[this];have aP:s[m]=b:=(kL.1 G).2;simp[e2,aP]
def aDc{o:Oper}{t:TypeId}{x y:Operand}(h:o.op=.index t x y)(hu:P.underlying t=some .string):m1 P ρ o J2:=by
 intro σ s a w v ar g J;unfold J2 at J;split at J
 .rename_i str k m;split at J
  .rename_i b G;simp only[Aq,cx]at J;subst J;obtain⟨c,d,f,hd,e⟩:=lY g;simp[gf,h,Op.operands]at e;obtain⟨ok,rfl⟩:=us f;obtain rfl:=o0 hd;obtain⟨b7,cw⟩:=e;obtain⟨ai,l,i⟩:=axh ok G;refine⟨.int .u8 (.ofNat b),rfl,?_⟩;have j:(Instr.index t (.string (e2 str)) (.int k (Int.ofNat m))).run P w=.ok (.int .u8 (Int.ofNat b)) w:=by simp[Instr.index,asIntOf,h_ hu,l,i]
   simp only[execOp,h,b7,cw,e7,j,eY,fI]
  .cases J
 .cases J
def Yz(k:IntKind):List U->Option U
 |[.int _ n]=>yy k n
 |_=>none
def ax3{o:Oper}{s d:TypeId}{x:Operand}(h:o.op=.convert s d x){g:TypeDesc}{k:IntKind}(i:P.underlying s=some g)(hd:P.underlying d=some (.int k)):m1 P ρ o (Yz k):=by
 intro σ l a w v ar f J;unfold Yz at J;split at J
 .rw[O6]at J;cases J;obtain⟨c,e,b⟩:=i' f;simp[gf,h,Op.operands]at b;obtain rfl:=o0 e;refine⟨_,rfl,?_⟩;simp[execOp,h,b,convert,h_ i,h_ hd,Conv.intToInt]
 .cases J
end
end Go.cE
