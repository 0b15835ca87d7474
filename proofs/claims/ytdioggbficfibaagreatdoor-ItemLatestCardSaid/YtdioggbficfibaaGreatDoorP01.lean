/- ItemLatest, one part of the proof. -/
import Derived.Test.YtdioggbficfibaaGreatDoorP00
set_option linter.all false
set_option maxRecDepth 100000
set_option maxHeartbeats 16000000
namespace Go.cv
open Go.Proofs.Tryz
inductive O where
 |int (k:IntKind) (n:Int)
 |bool (b:Bool)
 |str (s:List Nat)
 |iZ (b off:Nat)
 |rn
 |slice (b off len esz:Nat) (cap:Option Nat)
 |dH
 |map (b:Nat)
 |Eu
 |fn (f:FuncId) (first cap:List O)
 |xS (b:Nat)
 |AW
 |iface (t:TypeId) (v:O)
 |Hm
 |agg (l:List O)
 |tup (l:List O)
 |sym (i:Nat)
 |lA (b off l esz:Nat)
 deriving Inhabited
structure nB where
 aY:Nat
 del:Nat
 tot:Nat
abbrev b6:=Nat->Option nB
structure cd where
 val:Nat->Value
 pY:Nat->Option Loop
 bb:Nat->Nat×Nat
 Bc:Nat->Array Value
def jv(p:nB)(o esz:Nat):Option Nat->Nat
 |some c=>c
 |none=>(p.tot-o)/esz
def xy:Value->Bool
 |.agg _=>false
 |.tuple _=>false
 |_=>true
def eU(s:List Nat):ByteArray:=⟨(s.map UInt8.ofNat).toArray⟩
mutual
def aN(ρ:cd)(σ:b6):O->Option Value
 |.int k n=>some (.int k n)
 |.bool b=>some (.bool b)
 |.str s=>if s.all (fun n=>n<256)then some (.string (eU s))else none
 |.iZ b o=>(σ b).map fun p=>.pointer (some ⟨p.aY,p.del+o,none⟩)
 |.rn=>some (.pointer none)
 |.slice b o len esz cap=>(σ b).map fun p=>.slice (some ⟨p.aY,p.del+o,none⟩) len (jv p o esz cap)
 |.dH=>some (.slice none 0 0)
 |.map b=>(σ b).map fun p=>.map (some p.aY)
 |.Eu=>some (.map none)
 |.fn f a c=>match bY ρ σ a,bY ρ σ c with
  |some x,some y=>some (.func (.func f) x.toArray y.toArray)
  |_,_=>none
 |.xS b=>(σ b).map fun p=>.func (.yield p.aY) #[] #[]
 |.AW=>some .nilFunc
 |.iface t v=>(aN ρ σ v).map (.iface t)
 |.Hm=>some .nilIface
 |.agg l=>(bY ρ σ l).map fun x=>.agg x.toArray
 |.tup l=>(bY ρ σ l).map fun x=>.tuple x.toArray
 |.sym i=>if xy (ρ.val i)=true then some (ρ.val i)else none
 |.lA b o l esz=>(σ b).map fun p=>.slice (some ⟨p.aY,p.del+(if jv p o esz none=l then o else o+l*esz),none⟩) 0 (jv p o esz none-l)
def bY(ρ:cd)(σ:b6):List O->Option (List Value)
 |[]=>some []
 |v::l=>match aN ρ σ v,bY ρ σ l with
  |some x,some y=>some (x::y)
  |_,_=>none
end
def mw(σ a:b6):Prop:=∀b p,σ b=some p->a b=some p
theorem mw.refl(σ:b6):mw σ σ:=fun _ _ h=>h
variable{b:b6}
theorem mw.trans{a c:b6}(h:mw a b)(g:mw b c):mw a c:=fun x p d=>g x p (h x p d)
mutual
theorem BZ{ρ:cd}{σ d:b6}(h:mw σ d):∀{v:O} {c:Value},aN ρ σ v=some c->aN ρ d v=some c
 |.int ..,_,e=>by simpa[aN]using e
 |.bool _,_,e=>by simpa[aN]using e
 |.str _,_,e=>by simpa[aN]using e
 |.iZ b o,c,e=>by
  simp only[aN,iz]at e⊢
  obtain⟨p,ag,rfl⟩:=e
  exact⟨p,h _ _ ag,rfl⟩
 |.rn,_,e=>by simpa[aN]using e
 |.slice b o len esz cap,c,e=>by
  simp only[aN,iz]at e⊢
  obtain⟨p,ag,rfl⟩:=e
  exact⟨p,h _ _ ag,rfl⟩
 |.dH,_,e=>by simpa[aN]using e
 |.map b,c,e=>by
  simp only[aN,iz]at e⊢
  obtain⟨p,ag,rfl⟩:=e
  exact⟨p,h _ _ ag,rfl⟩
 |.Eu,_,e=>by simpa[aN]using e
 |.fn f a k,c,e=>by
  simp only[aN]at e⊢
  split at e
  ·rename_i x y g j
   rw[w2 h g,w2 h j]
   exact e
  ·simp at e
 |.xS b,c,e=>by
  simp only[aN,iz]at e⊢
  obtain⟨p,ag,rfl⟩:=e
  exact⟨p,h _ _ ag,rfl⟩
 |.AW,_,e=>by simpa[aN]using e
 |.iface t v,c,e=>by
  simp only[aN,iz]at e⊢
  obtain⟨p,ag,rfl⟩:=e
  exact⟨p,BZ h ag,rfl⟩
 |.Hm,_,e=>by simpa[aN]using e
 |.agg l,c,e=>by
  simp only[aN,iz]at e⊢
  obtain⟨p,ag,rfl⟩:=e
  exact⟨p,w2 h ag,rfl⟩
 |.tup l,c,e=>by
  simp only[aN,iz]at e⊢
  obtain⟨p,ag,rfl⟩:=e
  exact⟨p,w2 h ag,rfl⟩
 |.sym i,_,e=>by simpa[aN]using e
 |.lA b o l esz,c,e=>by
  simp only[aN,iz]at e⊢
  obtain⟨p,ag,rfl⟩:=e
  exact⟨p,h _ _ ag,rfl⟩
theorem w2{ρ:cd}{σ a:b6}(h:mw σ a):∀{l:List O} {c:List Value},bY ρ σ l=some c->bY ρ a l=some c
 |[],_,e=>by simpa[bY]using e
 |v::l,c,e=>by
  simp only[bY]at e⊢
  split at e
  ·rename_i x y b d
   rw[BZ h b,w2 h d]
   exact e
  ·simp at e
end
theorem m6{ρ:cd}{σ:b6}:∀{l:List O} {c:List Value},bY ρ σ l=some c->c.length=l.length
 |[],_,e=>by simp[bY]at e;simp[←e]
 |v::l,c,e=>by
  simp only[bY]at e
  split at e
  ·rename_i x y b a
   simp at e
   simp[←e,m6 a]
  ·simp at e
theorem Ac{ρ:cd}{σ:b6}:∀{l:List O} {c:List Value},bY ρ σ l=some c->∀{i:Nat} {v:O},l[i]? =some v->∃x,c[i]? =some x/\aN ρ σ v=some x
 |[],_,_,i,v,h=>by simp at h
 |u::l,c,e,i,v,h=>by
  simp only[bY]at e
  split at e
  ·rename_i x y a d
   simp at e
   subst e
   cases i with
   |zero=>simp at h;subst h;exact⟨x,ao,a⟩
   |succ i=>simp at h;obtain⟨af,b,J⟩:=Ac d h;exact⟨af,by simpa using b,J⟩
  ·simp at e
theorem Ab{ρ:cd}{σ:b6}:∀{l m:List O} {c d:List Value},bY ρ σ l=some c->bY ρ σ m=some d->bY ρ σ (l++m)=some (c++d)
 |[],m,c,d,e,f=>by simp[bY]at e;subst e;simpa using f
 |u::l,m,c,d,e,f=>by
  simp only[bY]at e
  split at e
  ·rename_i x y a b
   simp at e
   subst e
   simp[bY,a,Ab b f]
  ·simp at e
theorem tI{ρ:cd}{σ:b6}:∀{l:List O} {c:List Value} (n:Nat),bY ρ σ l=some c->bY ρ σ (l.take n)=some (c.take n)
 |[],c,n,e=>by simp[bY]at e;subst e;simp[bY]
 |u::l,c,n,e=>by
  simp only[bY]at e
  split at e
  ·rename_i x y a b
   simp at e
   subst e
   cases n with
   |zero=>simp[bY]
   |succ n=>simp[bY,a,tI n b]
  ·simp at e
theorem vj{ρ:cd}{σ:b6}:∀{l:List O} {c:List Value} (n:Nat),bY ρ σ l=some c->bY ρ σ (l.drop n)=some (c.drop n)
 |[],c,n,e=>by simp[bY]at e;subst e;simp[bY]
 |u::l,c,n,e=>by
  have b:=e
  simp only[bY]at e
  split at e
  ·rename_i x y d a
   simp at e
   subst e
   cases n with
   |zero=>simpa using b
   |succ n=>simpa using vj n a
  ·simp at e
structure dY (cu:Type) where
 a0:cu
 bW:cu
 cD:cu
 a3:cu
 a4:cu
 a5:cu
 eT:cu
 fs:cu
 ft:cu
 a9:cu
 fz:cu
 fA:cu
 fB:cu
 fC:cu
 fD:cu
 fE:cu
structure avM (cu:Type) where
 fn:dY cu->cu
structure avR (cu:Type) where
 fn:cu->dY cu->dY cu
def nY{a:Type}:Nat->avM a
 |0=>⟨fun q=>q.a0⟩
 |1=>⟨fun q=>q.bW⟩
 |2=>⟨fun q=>q.cD⟩
 |3=>⟨fun q=>q.a3⟩
 |4=>⟨fun q=>q.a4⟩
 |5=>⟨fun q=>q.a5⟩
 |6=>⟨fun q=>q.eT⟩
 |7=>⟨fun q=>q.fs⟩
 |8=>⟨fun q=>q.ft⟩
 |9=>⟨fun q=>q.a9⟩
 |10=>⟨fun q=>q.fz⟩
 |11=>⟨fun q=>q.fA⟩
 |12=>⟨fun q=>q.fB⟩
 |13=>⟨fun q=>q.fC⟩
 |14=>⟨fun q=>q.fD⟩
 |_=>⟨fun q=>q.fE⟩
def VU{a:Type}:Nat->avR a
 |0=>⟨fun v q=>⟨v,q.bW,q.cD,q.a3,q.a4,q.a5,q.eT,q.fs,q.ft,q.a9,q.fz,q.fA,q.fB,q.fC,q.fD,q.fE⟩⟩
 |1=>⟨fun v q=>⟨q.a0,v,q.cD,q.a3,q.a4,q.a5,q.eT,q.fs,q.ft,q.a9,q.fz,q.fA,q.fB,q.fC,q.fD,q.fE⟩⟩
 |2=>⟨fun v q=>⟨q.a0,q.bW,v,q.a3,q.a4,q.a5,q.eT,q.fs,q.ft,q.a9,q.fz,q.fA,q.fB,q.fC,q.fD,q.fE⟩⟩
 |3=>⟨fun v q=>⟨q.a0,q.bW,q.cD,v,q.a4,q.a5,q.eT,q.fs,q.ft,q.a9,q.fz,q.fA,q.fB,q.fC,q.fD,q.fE⟩⟩
 |4=>⟨fun v q=>⟨q.a0,q.bW,q.cD,q.a3,v,q.a5,q.eT,q.fs,q.ft,q.a9,q.fz,q.fA,q.fB,q.fC,q.fD,q.fE⟩⟩
 |5=>⟨fun v q=>⟨q.a0,q.bW,q.cD,q.a3,q.a4,v,q.eT,q.fs,q.ft,q.a9,q.fz,q.fA,q.fB,q.fC,q.fD,q.fE⟩⟩
 |6=>⟨fun v q=>⟨q.a0,q.bW,q.cD,q.a3,q.a4,q.a5,v,q.fs,q.ft,q.a9,q.fz,q.fA,q.fB,q.fC,q.fD,q.fE⟩⟩
 |7=>⟨fun v q=>⟨q.a0,q.bW,q.cD,q.a3,q.a4,q.a5,q.eT,v,q.ft,q.a9,q.fz,q.fA,q.fB,q.fC,q.fD,q.fE⟩⟩
 |8=>⟨fun v q=>⟨q.a0,q.bW,q.cD,q.a3,q.a4,q.a5,q.eT,q.fs,v,q.a9,q.fz,q.fA,q.fB,q.fC,q.fD,q.fE⟩⟩
 |9=>⟨fun v q=>⟨q.a0,q.bW,q.cD,q.a3,q.a4,q.a5,q.eT,q.fs,q.ft,v,q.fz,q.fA,q.fB,q.fC,q.fD,q.fE⟩⟩
 |10=>⟨fun v q=>⟨q.a0,q.bW,q.cD,q.a3,q.a4,q.a5,q.eT,q.fs,q.ft,q.a9,v,q.fA,q.fB,q.fC,q.fD,q.fE⟩⟩
 |11=>⟨fun v q=>⟨q.a0,q.bW,q.cD,q.a3,q.a4,q.a5,q.eT,q.fs,q.ft,q.a9,q.fz,v,q.fB,q.fC,q.fD,q.fE⟩⟩
 |12=>⟨fun v q=>⟨q.a0,q.bW,q.cD,q.a3,q.a4,q.a5,q.eT,q.fs,q.ft,q.a9,q.fz,q.fA,v,q.fC,q.fD,q.fE⟩⟩
 |13=>⟨fun v q=>⟨q.a0,q.bW,q.cD,q.a3,q.a4,q.a5,q.eT,q.fs,q.ft,q.a9,q.fz,q.fA,q.fB,v,q.fD,q.fE⟩⟩
 |14=>⟨fun v q=>⟨q.a0,q.bW,q.cD,q.a3,q.a4,q.a5,q.eT,q.fs,q.ft,q.a9,q.fz,q.fA,q.fB,q.fC,v,q.fE⟩⟩
 |_=>⟨fun v q=>⟨q.a0,q.bW,q.cD,q.a3,q.a4,q.a5,q.eT,q.fs,q.ft,q.a9,q.fz,q.fA,q.fB,q.fC,q.fD,v⟩⟩
variable{i:Nat}
theorem pq(h:i<16):i=0∨i=1∨i=2∨i=3∨i=4∨i=5∨i=6∨i=7∨i=8∨i=9∨i=10∨i=11∨i=12∨i=13∨i=14∨i=15:=z
theorem adF{a:Type}(i:Nat)(v:a)(q:dY a):(nY i).fn ((VU i).fn v q)=v:=by
 exact acv
theorem arp{a:Type}(i j:Nat)(v:a)(q:dY a)(hi:i<16)(b:j<16)(h:i≠j):(nY i).fn ((VU j).fn v q)=(nY i).fn q:=by
 rcases pq hi with rfl|rfl|rfl|rfl|rfl|rfl|rfl|rfl|rfl|rfl|rfl|rfl|rfl|rfl|rfl|rfl<;>rcases pq b with rfl|rfl|rfl|rfl|rfl|rfl|rfl|rfl|rfl|rfl|rfl|rfl|rfl|rfl|rfl|rfl<;>first|rfl|exact absurd rfl h
abbrev S:=dY (dY O)
structure qS where
 fn:S->O
def ahM:Nat->qS
 |0=>⟨fun s=>s.a0.a0⟩
 |1=>⟨fun s=>s.a0.bW⟩
 |2=>⟨fun s=>s.a0.cD⟩
 |3=>⟨fun s=>s.a0.a3⟩
 |4=>⟨fun s=>s.a0.a4⟩
 |5=>⟨fun s=>s.a0.a5⟩
 |6=>⟨fun s=>s.a0.eT⟩
 |7=>⟨fun s=>s.a0.fs⟩
 |8=>⟨fun s=>s.a0.ft⟩
 |9=>⟨fun s=>s.a0.a9⟩
 |10=>⟨fun s=>s.a0.fz⟩
 |11=>⟨fun s=>s.a0.fA⟩
 |12=>⟨fun s=>s.a0.fB⟩
 |13=>⟨fun s=>s.a0.fC⟩
 |14=>⟨fun s=>s.a0.fD⟩
 |_=>⟨fun s=>s.a0.fE⟩
def ahN:Nat->qS
 |0=>⟨fun s=>s.bW.a0⟩
 |1=>⟨fun s=>s.bW.bW⟩
 |2=>⟨fun s=>s.bW.cD⟩
 |3=>⟨fun s=>s.bW.a3⟩
 |4=>⟨fun s=>s.bW.a4⟩
 |5=>⟨fun s=>s.bW.a5⟩
 |6=>⟨fun s=>s.bW.eT⟩
 |7=>⟨fun s=>s.bW.fs⟩
 |8=>⟨fun s=>s.bW.ft⟩
 |9=>⟨fun s=>s.bW.a9⟩
 |10=>⟨fun s=>s.bW.fz⟩
 |11=>⟨fun s=>s.bW.fA⟩
 |12=>⟨fun s=>s.bW.fB⟩
 |13=>⟨fun s=>s.bW.fC⟩
 |14=>⟨fun s=>s.bW.fD⟩
 |_=>⟨fun s=>s.bW.fE⟩
def ahV:Nat->qS
 |0=>⟨fun s=>s.cD.a0⟩
 |1=>⟨fun s=>s.cD.bW⟩
 |2=>⟨fun s=>s.cD.cD⟩
 |3=>⟨fun s=>s.cD.a3⟩
 |4=>⟨fun s=>s.cD.a4⟩
 |5=>⟨fun s=>s.cD.a5⟩
 |6=>⟨fun s=>s.cD.eT⟩
 |7=>⟨fun s=>s.cD.fs⟩
 |8=>⟨fun s=>s.cD.ft⟩
 |9=>⟨fun s=>s.cD.a9⟩
 |10=>⟨fun s=>s.cD.fz⟩
 |11=>⟨fun s=>s.cD.fA⟩
 |12=>⟨fun s=>s.cD.fB⟩
 |13=>⟨fun s=>s.cD.fC⟩
 |14=>⟨fun s=>s.cD.fD⟩
 |_=>⟨fun s=>s.cD.fE⟩
def ahW:Nat->qS
 |0=>⟨fun s=>s.a3.a0⟩
 |1=>⟨fun s=>s.a3.bW⟩
 |2=>⟨fun s=>s.a3.cD⟩
 |3=>⟨fun s=>s.a3.a3⟩
 |4=>⟨fun s=>s.a3.a4⟩
 |5=>⟨fun s=>s.a3.a5⟩
 |6=>⟨fun s=>s.a3.eT⟩
 |7=>⟨fun s=>s.a3.fs⟩
 |8=>⟨fun s=>s.a3.ft⟩
 |9=>⟨fun s=>s.a3.a9⟩
 |10=>⟨fun s=>s.a3.fz⟩
 |11=>⟨fun s=>s.a3.fA⟩
 |12=>⟨fun s=>s.a3.fB⟩
 |13=>⟨fun s=>s.a3.fC⟩
 |14=>⟨fun s=>s.a3.fD⟩
 |_=>⟨fun s=>s.a3.fE⟩
def ahX:Nat->qS
 |0=>⟨fun s=>s.a4.a0⟩
 |1=>⟨fun s=>s.a4.bW⟩
 |2=>⟨fun s=>s.a4.cD⟩
 |3=>⟨fun s=>s.a4.a3⟩
 |4=>⟨fun s=>s.a4.a4⟩
 |5=>⟨fun s=>s.a4.a5⟩
 |6=>⟨fun s=>s.a4.eT⟩
 |7=>⟨fun s=>s.a4.fs⟩
 |8=>⟨fun s=>s.a4.ft⟩
 |9=>⟨fun s=>s.a4.a9⟩
 |10=>⟨fun s=>s.a4.fz⟩
 |11=>⟨fun s=>s.a4.fA⟩
 |12=>⟨fun s=>s.a4.fB⟩
 |13=>⟨fun s=>s.a4.fC⟩
 |14=>⟨fun s=>s.a4.fD⟩
 |_=>⟨fun s=>s.a4.fE⟩
def ahY:Nat->qS
 |0=>⟨fun s=>s.a5.a0⟩
 |1=>⟨fun s=>s.a5.bW⟩
 |2=>⟨fun s=>s.a5.cD⟩
 |3=>⟨fun s=>s.a5.a3⟩
 |4=>⟨fun s=>s.a5.a4⟩
 |5=>⟨fun s=>s.a5.a5⟩
 |6=>⟨fun s=>s.a5.eT⟩
 |7=>⟨fun s=>s.a5.fs⟩
 |8=>⟨fun s=>s.a5.ft⟩
 |9=>⟨fun s=>s.a5.a9⟩
 |10=>⟨fun s=>s.a5.fz⟩
 |11=>⟨fun s=>s.a5.fA⟩
 |12=>⟨fun s=>s.a5.fB⟩
 |13=>⟨fun s=>s.a5.fC⟩
 |14=>⟨fun s=>s.a5.fD⟩
 |_=>⟨fun s=>s.a5.fE⟩
def ahZ:Nat->qS
 |0=>⟨fun s=>s.eT.a0⟩
 |1=>⟨fun s=>s.eT.bW⟩
 |2=>⟨fun s=>s.eT.cD⟩
 |3=>⟨fun s=>s.eT.a3⟩
 |4=>⟨fun s=>s.eT.a4⟩
 |5=>⟨fun s=>s.eT.a5⟩
 |6=>⟨fun s=>s.eT.eT⟩
 |7=>⟨fun s=>s.eT.fs⟩
 |8=>⟨fun s=>s.eT.ft⟩
 |9=>⟨fun s=>s.eT.a9⟩
 |10=>⟨fun s=>s.eT.fz⟩
 |11=>⟨fun s=>s.eT.fA⟩
 |12=>⟨fun s=>s.eT.fB⟩
 |13=>⟨fun s=>s.eT.fC⟩
 |14=>⟨fun s=>s.eT.fD⟩
 |_=>⟨fun s=>s.eT.fE⟩
def ah0:Nat->qS
 |0=>⟨fun s=>s.fs.a0⟩
 |1=>⟨fun s=>s.fs.bW⟩
 |2=>⟨fun s=>s.fs.cD⟩
 |3=>⟨fun s=>s.fs.a3⟩
 |4=>⟨fun s=>s.fs.a4⟩
 |5=>⟨fun s=>s.fs.a5⟩
 |6=>⟨fun s=>s.fs.eT⟩
 |7=>⟨fun s=>s.fs.fs⟩
 |8=>⟨fun s=>s.fs.ft⟩
 |9=>⟨fun s=>s.fs.a9⟩
 |10=>⟨fun s=>s.fs.fz⟩
 |11=>⟨fun s=>s.fs.fA⟩
 |12=>⟨fun s=>s.fs.fB⟩
 |13=>⟨fun s=>s.fs.fC⟩
 |14=>⟨fun s=>s.fs.fD⟩
 |_=>⟨fun s=>s.fs.fE⟩
def ah1:Nat->qS
 |0=>⟨fun s=>s.ft.a0⟩
 |1=>⟨fun s=>s.ft.bW⟩
 |2=>⟨fun s=>s.ft.cD⟩
 |3=>⟨fun s=>s.ft.a3⟩
 |4=>⟨fun s=>s.ft.a4⟩
 |5=>⟨fun s=>s.ft.a5⟩
 |6=>⟨fun s=>s.ft.eT⟩
 |7=>⟨fun s=>s.ft.fs⟩
 |8=>⟨fun s=>s.ft.ft⟩
 |9=>⟨fun s=>s.ft.a9⟩
 |10=>⟨fun s=>s.ft.fz⟩
 |11=>⟨fun s=>s.ft.fA⟩
 |12=>⟨fun s=>s.ft.fB⟩
 |13=>⟨fun s=>s.ft.fC⟩
 |14=>⟨fun s=>s.ft.fD⟩
 |_=>⟨fun s=>s.ft.fE⟩
def ah2:Nat->qS
 |0=>⟨fun s=>s.a9.a0⟩
 |1=>⟨fun s=>s.a9.bW⟩
 |2=>⟨fun s=>s.a9.cD⟩
 |3=>⟨fun s=>s.a9.a3⟩
 |4=>⟨fun s=>s.a9.a4⟩
 |5=>⟨fun s=>s.a9.a5⟩
 |6=>⟨fun s=>s.a9.eT⟩
 |7=>⟨fun s=>s.a9.fs⟩
 |8=>⟨fun s=>s.a9.ft⟩
 |9=>⟨fun s=>s.a9.a9⟩
 |10=>⟨fun s=>s.a9.fz⟩
 |11=>⟨fun s=>s.a9.fA⟩
 |12=>⟨fun s=>s.a9.fB⟩
 |13=>⟨fun s=>s.a9.fC⟩
 |14=>⟨fun s=>s.a9.fD⟩
 |_=>⟨fun s=>s.a9.fE⟩
def ahO:Nat->qS
 |0=>⟨fun s=>s.fz.a0⟩
 |1=>⟨fun s=>s.fz.bW⟩
 |2=>⟨fun s=>s.fz.cD⟩
 |3=>⟨fun s=>s.fz.a3⟩
 |4=>⟨fun s=>s.fz.a4⟩
 |5=>⟨fun s=>s.fz.a5⟩
 |6=>⟨fun s=>s.fz.eT⟩
 |7=>⟨fun s=>s.fz.fs⟩
 |8=>⟨fun s=>s.fz.ft⟩
 |9=>⟨fun s=>s.fz.a9⟩
 |10=>⟨fun s=>s.fz.fz⟩
 |11=>⟨fun s=>s.fz.fA⟩
 |12=>⟨fun s=>s.fz.fB⟩
 |13=>⟨fun s=>s.fz.fC⟩
 |14=>⟨fun s=>s.fz.fD⟩
 |_=>⟨fun s=>s.fz.fE⟩
def ahP:Nat->qS
 |0=>⟨fun s=>s.fA.a0⟩
 |1=>⟨fun s=>s.fA.bW⟩
 |2=>⟨fun s=>s.fA.cD⟩
 |3=>⟨fun s=>s.fA.a3⟩
 |4=>⟨fun s=>s.fA.a4⟩
 |5=>⟨fun s=>s.fA.a5⟩
 |6=>⟨fun s=>s.fA.eT⟩
 |7=>⟨fun s=>s.fA.fs⟩
 |8=>⟨fun s=>s.fA.ft⟩
 |9=>⟨fun s=>s.fA.a9⟩
 |10=>⟨fun s=>s.fA.fz⟩
 |11=>⟨fun s=>s.fA.fA⟩
 |12=>⟨fun s=>s.fA.fB⟩
 |13=>⟨fun s=>s.fA.fC⟩
 |14=>⟨fun s=>s.fA.fD⟩
 |_=>⟨fun s=>s.fA.fE⟩
def ahQ:Nat->qS
 |0=>⟨fun s=>s.fB.a0⟩
 |1=>⟨fun s=>s.fB.bW⟩
 |2=>⟨fun s=>s.fB.cD⟩
 |3=>⟨fun s=>s.fB.a3⟩
 |4=>⟨fun s=>s.fB.a4⟩
 |5=>⟨fun s=>s.fB.a5⟩
 |6=>⟨fun s=>s.fB.eT⟩
 |7=>⟨fun s=>s.fB.fs⟩
 |8=>⟨fun s=>s.fB.ft⟩
 |9=>⟨fun s=>s.fB.a9⟩
 |10=>⟨fun s=>s.fB.fz⟩
 |11=>⟨fun s=>s.fB.fA⟩
 |12=>⟨fun s=>s.fB.fB⟩
 |13=>⟨fun s=>s.fB.fC⟩
 |14=>⟨fun s=>s.fB.fD⟩
 |_=>⟨fun s=>s.fB.fE⟩
def ahR:Nat->qS
 |0=>⟨fun s=>s.fC.a0⟩
 |1=>⟨fun s=>s.fC.bW⟩
 |2=>⟨fun s=>s.fC.cD⟩
 |3=>⟨fun s=>s.fC.a3⟩
 |4=>⟨fun s=>s.fC.a4⟩
 |5=>⟨fun s=>s.fC.a5⟩
 |6=>⟨fun s=>s.fC.eT⟩
 |7=>⟨fun s=>s.fC.fs⟩
 |8=>⟨fun s=>s.fC.ft⟩
 |9=>⟨fun s=>s.fC.a9⟩
 |10=>⟨fun s=>s.fC.fz⟩
 |11=>⟨fun s=>s.fC.fA⟩
 |12=>⟨fun s=>s.fC.fB⟩
 |13=>⟨fun s=>s.fC.fC⟩
 |14=>⟨fun s=>s.fC.fD⟩
 |_=>⟨fun s=>s.fC.fE⟩
def ahS:Nat->qS
 |0=>⟨fun s=>s.fD.a0⟩
 |1=>⟨fun s=>s.fD.bW⟩
 |2=>⟨fun s=>s.fD.cD⟩
 |3=>⟨fun s=>s.fD.a3⟩
 |4=>⟨fun s=>s.fD.a4⟩
 |5=>⟨fun s=>s.fD.a5⟩
 |6=>⟨fun s=>s.fD.eT⟩
 |7=>⟨fun s=>s.fD.fs⟩
 |8=>⟨fun s=>s.fD.ft⟩
 |9=>⟨fun s=>s.fD.a9⟩
 |10=>⟨fun s=>s.fD.fz⟩
 |11=>⟨fun s=>s.fD.fA⟩
 |12=>⟨fun s=>s.fD.fB⟩
 |13=>⟨fun s=>s.fD.fC⟩
 |14=>⟨fun s=>s.fD.fD⟩
 |_=>⟨fun s=>s.fD.fE⟩
def ahT:Nat->qS
 |0=>⟨fun s=>s.fE.a0⟩
 |1=>⟨fun s=>s.fE.bW⟩
 |2=>⟨fun s=>s.fE.cD⟩
 |3=>⟨fun s=>s.fE.a3⟩
 |4=>⟨fun s=>s.fE.a4⟩
 |5=>⟨fun s=>s.fE.a5⟩
 |6=>⟨fun s=>s.fE.eT⟩
 |7=>⟨fun s=>s.fE.fs⟩
 |8=>⟨fun s=>s.fE.ft⟩
 |9=>⟨fun s=>s.fE.a9⟩
 |10=>⟨fun s=>s.fE.fz⟩
 |11=>⟨fun s=>s.fE.fA⟩
 |12=>⟨fun s=>s.fE.fB⟩
 |13=>⟨fun s=>s.fE.fC⟩
 |14=>⟨fun s=>s.fE.fD⟩
 |_=>⟨fun s=>s.fE.fE⟩
def ah3(a b:Nat):qS:=match a with
 |0=>ahM b
 |1=>ahN b
 |2=>ahV b
 |3=>ahW b
 |4=>ahX b
 |5=>ahY b
 |6=>ahZ b
 |7=>ah0 b
 |8=>ah1 b
 |9=>ah2 b
 |10=>ahO b
 |11=>ahP b
 |12=>ahQ b
 |13=>ahR b
 |14=>ahS b
 |_=>ahT b
theorem av0(b:Nat)(s:S):(ahM b).fn s=(nY b).fn s.a0:=by
 exact r8
theorem av6(b:Nat)(s:S):(ahN b).fn s=(nY b).fn s.bW:=by
 exact r8
theorem av7(b:Nat)(s:S):(ahV b).fn s=(nY b).fn s.cD:=by
 exact r8
theorem av8(b:Nat)(s:S):(ahW b).fn s=(nY b).fn s.a3:=by
 exact r8
theorem av9(b:Nat)(s:S):(ahX b).fn s=(nY b).fn s.a4:=by
 exact r8
theorem av_(b:Nat)(s:S):(ahY b).fn s=(nY b).fn s.a5:=by
 exact r8
theorem av'(b:Nat)(s:S):(ahZ b).fn s=(nY b).fn s.eT:=by
 exact r8
theorem awa(b:Nat)(s:S):(ah0 b).fn s=(nY b).fn s.fs:=by
 exact r8
theorem awb(b:Nat)(s:S):(ah1 b).fn s=(nY b).fn s.ft:=by
 exact r8
theorem awc(b:Nat)(s:S):(ah2 b).fn s=(nY b).fn s.a9:=by
 exact r8
theorem av1(b:Nat)(s:S):(ahO b).fn s=(nY b).fn s.fz:=by
 exact r8
theorem av2(b:Nat)(s:S):(ahP b).fn s=(nY b).fn s.fA:=by
 exact r8
theorem av3(b:Nat)(s:S):(ahQ b).fn s=(nY b).fn s.fB:=by
 exact r8
theorem av4(b:Nat)(s:S):(ahR b).fn s=(nY b).fn s.fC:=by
 exact r8
theorem av5(b:Nat)(s:S):(ahS b).fn s=(nY b).fn s.fD:=by
 exact r8
theorem ahU(b:Nat)(s:S):(ahT b).fn s=(nY b).fn s.fE:=by
 exact r8
theorem Sq(a b:Nat)(s:S):(ah3 a b).fn s=(nY b).fn ((nY a).fn s):=by
 by_cases h:a<16;rcases pq h with rfl|rfl|rfl|rfl|rfl|rfl|rfl|rfl|rfl|rfl|rfl|rfl|rfl|rfl|rfl|rfl;exact av0 b s;exact av6 b s;exact av7 b s;exact av8 b s;exact av9 b s;exact av_ b s;exact av' b s;exact awa b s;exact awb b s;exact awc b s;exact av1 b s;exact av2 b s;exact av3 b s;exact av4 b s;exact av5 b s;exact ahU b s
 obtain⟨k,rfl⟩:∃k,a=k+16:=⟨a-16,z⟩;exact ahU b s
structure au8 (cu:Type) where
 fn:(cu->cu)->dY cu->dY cu
def ao7{a:Type}:Nat->au8 a
 |0=>⟨fun f q=>⟨f q.a0,q.bW,q.cD,q.a3,q.a4,q.a5,q.eT,q.fs,q.ft,q.a9,q.fz,q.fA,q.fB,q.fC,q.fD,q.fE⟩⟩
 |1=>⟨fun f q=>⟨q.a0,f q.bW,q.cD,q.a3,q.a4,q.a5,q.eT,q.fs,q.ft,q.a9,q.fz,q.fA,q.fB,q.fC,q.fD,q.fE⟩⟩
 |2=>⟨fun f q=>⟨q.a0,q.bW,f q.cD,q.a3,q.a4,q.a5,q.eT,q.fs,q.ft,q.a9,q.fz,q.fA,q.fB,q.fC,q.fD,q.fE⟩⟩
 |3=>⟨fun f q=>⟨q.a0,q.bW,q.cD,f q.a3,q.a4,q.a5,q.eT,q.fs,q.ft,q.a9,q.fz,q.fA,q.fB,q.fC,q.fD,q.fE⟩⟩
 |4=>⟨fun f q=>⟨q.a0,q.bW,q.cD,q.a3,f q.a4,q.a5,q.eT,q.fs,q.ft,q.a9,q.fz,q.fA,q.fB,q.fC,q.fD,q.fE⟩⟩
 |5=>⟨fun f q=>⟨q.a0,q.bW,q.cD,q.a3,q.a4,f q.a5,q.eT,q.fs,q.ft,q.a9,q.fz,q.fA,q.fB,q.fC,q.fD,q.fE⟩⟩
 |6=>⟨fun f q=>⟨q.a0,q.bW,q.cD,q.a3,q.a4,q.a5,f q.eT,q.fs,q.ft,q.a9,q.fz,q.fA,q.fB,q.fC,q.fD,q.fE⟩⟩
 |7=>⟨fun f q=>⟨q.a0,q.bW,q.cD,q.a3,q.a4,q.a5,q.eT,f q.fs,q.ft,q.a9,q.fz,q.fA,q.fB,q.fC,q.fD,q.fE⟩⟩
 |8=>⟨fun f q=>⟨q.a0,q.bW,q.cD,q.a3,q.a4,q.a5,q.eT,q.fs,f q.ft,q.a9,q.fz,q.fA,q.fB,q.fC,q.fD,q.fE⟩⟩
 |9=>⟨fun f q=>⟨q.a0,q.bW,q.cD,q.a3,q.a4,q.a5,q.eT,q.fs,q.ft,f q.a9,q.fz,q.fA,q.fB,q.fC,q.fD,q.fE⟩⟩
 |10=>⟨fun f q=>⟨q.a0,q.bW,q.cD,q.a3,q.a4,q.a5,q.eT,q.fs,q.ft,q.a9,f q.fz,q.fA,q.fB,q.fC,q.fD,q.fE⟩⟩
 |11=>⟨fun f q=>⟨q.a0,q.bW,q.cD,q.a3,q.a4,q.a5,q.eT,q.fs,q.ft,q.a9,q.fz,f q.fA,q.fB,q.fC,q.fD,q.fE⟩⟩
 |12=>⟨fun f q=>⟨q.a0,q.bW,q.cD,q.a3,q.a4,q.a5,q.eT,q.fs,q.ft,q.a9,q.fz,q.fA,f q.fB,q.fC,q.fD,q.fE⟩⟩
 |13=>⟨fun f q=>⟨q.a0,q.bW,q.cD,q.a3,q.a4,q.a5,q.eT,q.fs,q.ft,q.a9,q.fz,q.fA,q.fB,f q.fC,q.fD,q.fE⟩⟩
 |14=>⟨fun f q=>⟨q.a0,q.bW,q.cD,q.a3,q.a4,q.a5,q.eT,q.fs,q.ft,q.a9,q.fz,q.fA,q.fB,q.fC,f q.fD,q.fE⟩⟩
 |_=>⟨fun f q=>⟨q.a0,q.bW,q.cD,q.a3,q.a4,q.a5,q.eT,q.fs,q.ft,q.a9,q.fz,q.fA,q.fB,q.fC,q.fD,f q.fE⟩⟩
theorem ao8{a:Type}(i:Nat)(f:a->a)(q:dY a):(ao7 i).fn f q=(VU i).fn (f ((nY i).fn q)) q:=by
 exact acv
def g(i:Nat)(s:S):O:=(ah3 (Nat.div i 16) (Nat.mod i 16)).fn s
def put(i:Nat)(v:O)(s:S):S:=(ao7 (Nat.div i 16)).fn ((VU (Nat.mod i 16)).fn v) s
def ql:O:=.tup []
def fo{a:Type}(v:a):dY a:=⟨v,v,v,v,v,v,v,v,v,v,v,v,v,v,v,v⟩
def bP:S:=fo (fo ql)
theorem aro{a:Type}(i:Nat)(v:a):(nY i).fn (fo v)=v:=by
 exact acv
theorem ZQ(i:Nat)(v:O)(s:S):g i (put i v s)=v:=by
 unfold g put;rw[Sq,ao8,adF,adF]
theorem ZP(i j:Nat)(v:O)(s:S)(hi:i<256)(d:j<256)(h:i≠j):g i (put j v s)=g i s:=by
 unfold g put;rw[Sq,Sq,ao8];have aj:i.mod 16=i%16:=rfl;have a:j.mod 16=j%16:=rfl;have b:i.div 16=i/16:=rfl;have c:j.div 16=j/16:=rfl;rw[aj,a,b,c];by_cases hd:i/16=j/16;rw[hd,adF,arp _ _ _ _ z z z];rw[arp (i/16) (j/16) _ _ z z hd]
theorem azx(i:Nat):g i bP=ql:=by
 unfold g bP;rw[Sq,aro,aro]
def nD(ρ:cd)(σ:b6)(ay:Nat)(s:S)(a:Array Value):Prop:=
 a.size=ay/\ay<=256/\∀i,i<ay->aN ρ σ (g i s)=some (a.getD i undef)
variable{ρ:cd}{σ:b6}{ay:Nat}{s:S}{a:Array Value}
theorem nD.ext(h:nD ρ σ ay s a)(e:mw σ b):nD ρ b ay s a:=
 ⟨h.1,h.2.1,fun i hi=>BZ e (h.2.2 i hi)⟩
theorem nD.put(h:nD ρ σ ay s a)(hi:i<ay){v:O}{c:Value}(J:aN ρ σ v=some c): nD ρ σ ay (put i v s) (a.setIfInBounds i c):=by
 obtain⟨H,I,d⟩:=h;refine⟨by simp[H],I,fun j b=>?_⟩;by_cases e:j=i;subst e;rw[ZQ];simp[J,Array.getD,H,b];rw[ZP j i v s z z e];have:=d j b;rw[this];simp[Array.getD,H,b,V4,h8 e]
end Go.cv
namespace Go.cv
inductive T (cu:Type) where
 |e:T cu
 |n (v:Option cu) (l r:T cu):T cu
def T.cR{a:Type}:T a->Nat->Option a
 |.e,_=>none
 |.n v l r,k=>bif Nat.beq k 0 then v else bif Nat.beq (Nat.mod k 2) 1 then l.cR (Nat.div k 2)else r.cR (Nat.sub (Nat.div k 2) 1)
def T.set{a:Type}:Nat->T a->Nat->Option a->T a
 |0,t,_,_=>t
 |f+1,.e,k,x=>bif Nat.beq k 0 then .n x .e .e else bif Nat.beq (Nat.mod k 2) 1 then .n none (T.set f .e (Nat.div k 2) x) .e else .n none .e (T.set f .e (Nat.sub (Nat.div k 2) 1) x)
 |f+1,.n v l r,k,x=>bif Nat.beq k 0 then .n x l r else bif Nat.beq (Nat.mod k 2) 1 then .n v (T.set f l (Nat.div k 2) x) r else .n v l (T.set f r (Nat.sub (Nat.div k 2) 1) x)
theorem M'{a b:Nat}(h:a≠b):Nat.beq a b=false:=by
 cases A:Nat.beq a b with
 |false=>rfl
 |true=>exact absurd (gx A) h
theorem zY{c:Type}(a b:Nat)(x y:c):(bif Nat.beq a b then x else y)=if a=b then x else y:=by
 by_cases h:a=b;subst h;simp;rw[M' h,bs h];rfl
theorem T.B8{a:Type}(v:Option a)(l r:T a)(k:Nat):T.cR (.n v l r) k=if k=0 then v else if k%2=1 then l.cR (k/2)else r.cR (k/2-1):=by
 rw[T.cR,zY,zY];rfl
theorem T.adJ{a:Type}(f k:Nat)(x:Option a):T.set (f+1) .e k x=if k=0 then .n x .e .e else if k%2=1 then .n none (T.set f .e (k/2) x) .e else .n none .e (T.set f .e (k/2-1) x):=by
 rw[T.set,zY,zY];rfl
theorem T.adK{a:Type}(f k:Nat)(x v:Option a)(l r:T a):T.set (f+1) (.n v l r) k x=if k=0 then .n x l r else if k%2=1 then .n v (T.set f l (k/2) x) r else .n v l (T.set f r (k/2-1) x):=by
 rw[T.set,zY,zY];rfl
theorem T.JW{g:Type}:∀(f:Nat) (t:T g) (k j:Nat) (x:Option g),k+1<2^f->T.cR (T.set f t k x) j=if j=k then x else T.cR t j
 |0,t,k,j,x,h=>by simp at h
 |f+1,t,k,j,x,h=>by
  have ag:2^(f+1)=2*2^f:=z
  have k7:∀m,T.cR (.e:T g) m=none:=fun _=>by simp[T.cR]
  by_cases c:k=0
  ·subst c
   cases t with
   |e=>rw[T.adJ,co rfl,T.B8];by_cases a:j=0<;>simp[a,k7]
   |n v l r=>rw[T.adK,co rfl,T.B8,T.B8];by_cases a:j=0<;>simp[a]
  ·by_cases d:k%2=1
   ·have o:k/2+1<2^f:=z
    cases t with
    |e=>
     rw[T.adJ,bs c,co d,T.B8,T.JW f .e (k/2) (j/2) x o]
     by_cases a:j=0
     ·subst a;simp[h8 c,k7]
     ·by_cases b:j%2=1
      ·rw[bs a,co b]
       by_cases e:j=k
       ·subst e;simp
       ·rw[bs z,bs e];simp[k7]
      ·rw[bs a,bs b,bs z];simp[k7]
    |n v l r=>
     rw[T.adK,bs c,co d,T.B8,T.B8,T.JW f l (k/2) (j/2) x o]
     by_cases a:j=0
     ·subst a;simp[h8 c]
     ·by_cases b:j%2=1
      ·rw[bs a,co b,bs a,co b]
       by_cases e:j=k
       ·subst e;simp
       ·rw[bs z,bs e]
      ·rw[bs a,bs b,bs z,bs a,bs b]
   ·have i:k/2-1+1<2^f:=z
    cases t with
    |e=>
     rw[T.adJ,bs c,bs d,T.B8,T.JW f .e (k/2-1) (j/2-1) x i]
     by_cases a:j=0
     ·subst a;simp[h8 c,k7]
     ·by_cases b:j%2=1
      ·rw[bs a,co b,bs z];simp[k7]
      ·rw[bs a,bs b]
       by_cases e:j=k
       ·subst e;simp
       ·rw[bs z,bs e];simp[k7]
    |n v l r=>
     rw[T.adK,bs c,bs d,T.B8,T.B8,T.JW f r (k/2-1) (j/2-1) x i]
     by_cases a:j=0
     ·subst a;simp[h8 c]
     ·by_cases b:j%2=1
      ·rw[bs a,co b,bs z,bs a,co b]
      ·rw[bs a,bs b,bs a,bs b]
       by_cases e:j=k
       ·subst e;simp
       ·rw[bs z,bs e]
inductive X where
 |il
 |exit (id:Nat)
 |ret
def X.code:X->Code
 |.il=>.skip
 |.exit id=>.exit id
 |.ret=>.ret
inductive eC where
 |cells (elem:TypeId) (vs:List O) (kj wr:Bool)
 |map (bJ:List (O×O×Nat)) (aiC:Nat)
 |mapIter (map arx:Nat) (CD:List Nat) (anh:Nat)
 |loop (key:Nat) (state:LoopState) (vR:Option X) (jX:Nat) (s:S) (ay:Nat)
 |deferred
 |aE (elem:TypeId) (vs:List O)
structure aw where
 t:T eC
 nx:Nat
def DH:Nat:=32
def eB:Nat:=4294967294
def aw.cR(h:aw)(b:Nat):Option eC:=h.t.cR b
def aw.c'(h:aw)(b:Nat)(x:Option eC):aw:=⟨h.t.set DH b x,h.nx⟩
def aw.add(h:aw)(x:eC):aw:=⟨h.t.set DH h.nx (some x),h.nx+1⟩
theorem aw.vp(h:aw)(b j:Nat)(x:Option eC)(A:b<eB):(h.c' b x).cR j=if j=b then x else h.cR j:=
 T.JW _ _ _ _ _ (by unfold eB at A;unfold DH;omega)
theorem aw.Tj(h:aw)(j:Nat)(x:eC)(A:h.nx<eB):(h.add x).cR j=if j=h.nx then some x else h.cR j:=
 T.JW _ _ _ _ _ (by unfold eB at A;unfold DH;omega)
def S5(ρ:cd)(σ:b6)(e:O×O×Nat)(m:MapEntry):Prop:=
 aN ρ σ e.1=some m.key/\aN ρ σ e.2.1=some m.val/\m.born=e.2.2
def tN(ρ:cd)(σ:b6):List (O×O×Nat)->List MapEntry->Prop
 |[],[]=>True
 |e::l,m::r=>S5 ρ σ e m/\tN ρ σ l r
 |_,_=>False
def kn(ρ:cd)(σ:b6)(p:nB)(o:Option Obj):eC->Prop
 |.cells elem vs g wr=>∃arr bb,o=some (.cells arr elem bb)/\arr.size=p.del+p.tot/\vs.length<=p.tot/\(g=true->vs.length=p.tot/\p.del=0)/\
  (∃cs,bY ρ σ vs=some cs/\∀i,i<vs.length->arr[p.del+i]? =cs[i]?)/\
  (wr=true->∀i,p.del<=i->i<arr.size->¬(bb.1<=i/\i<bb.2))
 |.map f c=>p.del=0/\∃b,o=some (.map b c)/\tN ρ σ f b.toList
 |.mapIter m e CD d=>p.del=0/\∃q,σ m=some q/\o=some (.mapIter (some q.aY) e CD.toArray d)
 |.loop key state h jX s ay=>p.del=0/\∃a q l,ρ.pY key=some l/\nD ρ σ ay s a/\σ jX=some q/\o=some (.loop {l with state:=state,pending:=h.map X.code,tmps:=a,defers:=q.aY})
 |.deferred=>p.del=0/\o=some (.deferred (some []))
 |.aE elem vs=>∃cs,bY ρ σ vs=some cs/\o=some (.cells (ρ.Bc p.aY) elem (ρ.bb p.aY))/\∀i,i<vs.length->(ρ.Bc p.aY)[p.del+i]? =cs[i]?
theorem ajD{ρ:cd}{σ e:b6}(h:mw σ e):∀{l:List (O×O×Nat)} {r:List MapEntry},tN ρ σ l r->tN ρ e l r
 |[],[],_=>g'
 |_::_,_::_,⟨⟨a,b,c⟩,d⟩=>⟨⟨BZ h a,BZ h b,c⟩,ajD h d⟩
 |[],_::_,x=>x.elim
 |_::_,[],x=>x.elim
theorem kn.ext{ρ:cd}{σ i:b6}{p:nB}{o:Option Obj}(h:mw σ i):∀{x:eC},kn ρ σ p o x->kn ρ i p o x
 |.cells ..,⟨arr,bb,a,b,c,d,⟨cs,e,f⟩,g⟩=>⟨arr,bb,a,b,c,d,⟨cs,w2 h e,f⟩,g⟩
 |.map ..,⟨a,k,b,c⟩=>⟨a,k,b,ajD h c⟩
 |.mapIter ..,⟨a,q,b,c⟩=>⟨a,q,h _ _ b,c⟩
 |.loop ..,⟨a,x,q,l,j,b,c,d⟩=>⟨a,x,q,l,j,b.ext h,h _ _ c,d⟩
 |.deferred,x=>x
 |.aE ..,⟨cs,a,b,c⟩=>⟨cs,w2 h a,b,c⟩
structure cZ (ρ:cd) (σ:b6) (h:aw) (w:World):Prop where
 aY:∀b x,h.cR b=some x->∃p,σ b=some p/\kn ρ σ p w.heap[p.aY]? x
 inj:∀b c6 x c7 p bR,h.cR b=some x->h.cR c6=some c7->σ b=some p->σ c6=some bR->b≠c6->p.aY≠bR.aY
 j9:∀b,h.nx<=b->σ b=none
def lw(σ:b6)(h:aw)(r:Nat):Prop:=∃b x p,h.cR b=some x/\σ b=some p/\p.aY=r
structure jF (σ:b6) (h:aw) (w:World) (cB:b6) (bc:aw) (w':World):Prop where
 ext:mw σ cB
 ee:∀b,σ b=none->cB b≠none->h.nx<=b
 nx:h.nx<=bc.nx
 size:w.heap.size<=w'.heap.size
 kept:∀r,r<w.heap.size->¬lw σ h r->w'.heap[r]? =w.heap[r]?
 p2:∀r,lw cB bc r->w.heap.size<=r∨lw σ h r
 os:w'.os=w.os
 output:w'.output=w.output
 tape:w'.tape=w.tape
theorem jF.refl(σ:b6)(h:aw)(w:World):jF σ h w σ h w:=
 ⟨.refl _,fun _ a b=>(b a).elim,aZ _,aZ _,fun _ _ _=>rfl,fun _ h=>.inr h,rfl,rfl,rfl⟩
theorem jF.trans{σ d g:b6}{h k f:aw}{w w' i:World}(a:jF σ h w d k w')(b:jF d k w' g f i):jF σ h w g f i where
 ext:=a.ext.trans b.ext
 ee:=fun x m n=>by
  cases e:d x with
  |none=>exact cO a.nx (b.ee x e n)
  |some p=>exact a.ee x m (by simp[e])
 nx:=cO a.nx b.nx
 size:=cO a.size b.size
 kept:=fun r c j=>by
  rw[b.kept r (iK c a.size) (fun l=>?_),a.kept r c j]
  rcases a.p2 r l with H|H
  ·omega
  ·exact j H
 p2:=fun r c=>by
  rcases b.p2 r c with H|H
  ·exact .inl (cO a.size H)
  ·exact a.p2 r H
 os:=b.os.trans a.os
 output:=b.output.trans a.output
 tape:=b.tape.trans a.tape
end Go.cv
namespace Go.cv
open Go.Proofs.Tryz
structure l9 where
 fn:FuncId
 kind:CallKind
 roundOf:Option Nat
def fr(b:l9)(a:Array Value)(ds:List Deferred)(todo:List Item):Frame:=
 {fn:=b.fn,tmps:=a,todo,defers:=ds,mode:=.run,kind:=b.kind,roundOf:=b.roundOf}
def ez(a:Array Value):Operand->Value
 |.tmp t=>a.getD t undef
 |.const v=>v
 |.global g=>.pointer (some ⟨g,0,none⟩)
 |.func f=>.func (.func f) #[] #[]
theorem S9(b:l9)(a:Array Value)(ds:List Deferred)(todo:List Item):(fr b a ds todo).eval=ez a:=by
 funext x;cases x<;>rfl
section aJF
variable {P:Program} {b:l9} {a:Array Value} {ds:List Deferred} {k:List Item} {cs:List Frame} {w:World}
theorem aJu:step P (lone (fr b a ds (.code .skip::k)) cs w)=.next (lone (fr b a ds k) cs w):=
 l6 (by simp[stepG,stepG.exec,fr])
theorem aJk{l:Nat}:step P (lone (fr b a ds (.code (.label l)::k)) cs w)=.next (lone (fr b a ds k) cs w):=
 l6 (by simp[stepG,stepG.exec,fr])
variable{id:Nat}
theorem aJi:step P (lone (fr b a ds (.inBlock id::k)) cs w)=.next (lone (fr b a ds k) cs w):=
 l6 (by simp[stepG,stepG.exec,fr])
theorem adY{x y:Code}:step P (lone (fr b a ds (.code (.seq x y)::k)) cs w)=.next (lone (fr b a ds (.code x::.code y::k)) cs w):=
 l6 (by simp[stepG,stepG.exec,fr])
theorem arM{c:Operand}{x y:Code}{t:Bool}(h:ez a c=.bool t):
  step P (lone (fr b a ds (.code (.cond c x y)::k)) cs w)=.next (lone (fr b a ds (.code (if t then x else y)::k)) cs w):=
 l6 (by
  have:=congrFun (S9 b a ds (.code (.cond c x y)::k)) c
  simp only[fr]at this
  simp[stepG,stepG.exec,fr,this,h])
theorem VD{c:Code}:step P (lone (fr b a ds (.code (.block id c)::k)) cs w)=.next (lone (fr b a ds (.code c::.inBlock id::k)) cs w):=
 l6 (by simp[stepG,stepG.exec,fr])
theorem aJl{c:Code}:step P (lone (fr b a ds (.code (.loop c)::k)) cs w)=.next (lone (fr b a ds (.code c::.inLoop c::k)) cs w):=
 l6 (by simp[stepG,stepG.exec,fr])
theorem aJj{c:Code}:step P (lone (fr b a ds (.inLoop c::k)) cs w)=.next (lone (fr b a ds (.code c::.inLoop c::k)) cs w):=
 l6 (by simp[stepG,stepG.exec,fr])
theorem aJh{c:List Item}(h:exitTo id k=some c):
  step P (lone (fr b a ds (.code (.exit id)::k)) cs w)=.next (lone (fr b a ds c) cs w):=
 l6 (by simp[stepG,stepG.exec,fr,h])
variable{ops:Array Oper}
theorem aJp:
  step P (lone (fr b a ds (.code (.region id ops false)::k)) cs w)=.next (lone (fr b a ds (.inRegion ops (List.range ops.size)::k)) cs w):=
 l6 (by simp[stepG,stepG.exec,fr])
theorem aJq:
  step P (lone (fr b a ds (.code (.region id ops true)::k)) cs w)=
   .next (lone (fr b a ds (.inRegion ops (Region.schedule (P.follows .mixedOrders) ops (w.tape w.drawn (.order b.fn id)))::k)) cs {w with drawn:=w.drawn+1}):=
 l6 (by simp[stepG,stepG.exec,fr,choose,Sem.run,Question.forced,Question.cut])
theorem arP:step P (lone (fr b a ds (.inRegion ops []::k)) cs w)=.next (lone (fr b a ds k) cs w):=
 l6 (by simp[stepG,stepG.exec,fr])
end aJF
def tz(P:Program)(f:Frame)(w:World)(R:Value->World->Prop):Prop:=
 ∀(c:Frame) (cs:List Frame),∃v w',R v w'/\Steps P (lone f (c::cs) w) (lone (c.finish v) cs w')
variable{P:Program}{w:World}{R:Value->World->Prop}
theorem tz.aFx{f:FuncId}{args:Array Value} (h:Calls P f args w fun e w'=>∃v,e=.returned v/\R v w'):tz P (Frame.enter P f args .normal) w R:=by
 intro c cs;obtain⟨e,w',j,⟨v,rfl,i⟩,g,_,d⟩:=h (c::cs);exact⟨v,w',i,tj g (.one (step_leave_returned d))⟩
def q3(d:Option Tmp)(v:Value)(a:Array Value):Array Value:=match d with|some d=>a.setIfInBounds d v|none=>a
def Fz(P:Program)(o:Oper)(a:Array Value)(w:World)(R:Value->World->Prop):Prop:=
 (∃v w',(execOp (ez a) o).run P w=.ok (.value v) w'/\R v w')∨
 (∃w',(execOp (ez a) o).run P w=.ok .skip w'/\R undef w')∨
 (∃f args c,(execOp (ez a) o).run P w=.ok (.enter f args) c/\tz P (Frame.enter P f args .normal) c R)∨
 (∃l f t x y c,(execOp (ez a) o).run P w=.ok (.round l f t x y) c/\tz P (Frame.round l f t x y .normal) c R)
variable{o:Oper}{a:Array Value}
theorem Fz.mono{j:Value->World->Prop}(h:Fz P o a w R)(d:∀v w,R v w->j v w):Fz P o a w j:=by
 rcases h with⟨v,w',e,r⟩|⟨w',e,r⟩|⟨f,g,i,e,r⟩|⟨l,f,t,x,y,i,e,r⟩
 exact .inl ⟨v,w',e,d _ _ r⟩;exact .inr (.inl ⟨w',e,d _ _ r⟩);exact .inr (.inr (.inl ⟨f,g,i,e,fun c cs=>let ⟨v,w',q,s⟩:=r c cs;⟨v,w',d _ _ q,s⟩⟩));exact .inr (.inr (.inr ⟨l,f,t,x,y,i,e,fun c cs=>let ⟨v,w',q,s⟩:=r c cs;⟨v,w',d _ _ q,s⟩⟩))
theorem ajV(b:l9)(a:Array Value)(ds:List Deferred)(ops:Array Oper)(i:Nat)(rest:List Nat)(k:List Item)(v:Value): (fr b a ds (.inRegion ops (i::rest)::k)).finish v=fr b (q3 ((ops[i]?).bind (·.dst)) v a) ds (.inRegion ops rest::k):=by
 cases h:(ops[i]?).bind (·.dst)<;>simp[Frame.finish,fr,q3,h]
theorem arO{P:Program}{b:l9}{a:Array Value}{ds:List Deferred}{k:List Item}{cs:List Frame}{w:World}{ops:Array Oper}{i:Nat}{rest:List Nat} (h:((ops[i]?).map (Region.wanted · (yielded ops a))).getD false=false): step P (lone (fr b a ds (.inRegion ops (i::rest)::k)) cs w)=.next (lone (fr b (q3 ((ops[i]?).bind (·.dst)) undef a) ds (.inRegion ops rest::k)) cs w):=by
 rw[←ajV];exact l6 (by
  simp only[fr]at*
  simp[stepG,stepG.exec,h])
theorem aJB{P:Program}{b:l9}{a:Array Value}{ds:List Deferred}{k:List Item}{cs:List Frame}{w:World}{ops:Array Oper}{i:Nat}{rest:List Nat}{o:Oper} (e:ops[i]? =some o)(f:Region.wanted o (yielded ops a)=true)(hd:∀c,o.op≠ .defer c): stepG P true {frame:=fr b a ds (.inRegion ops (i::rest)::k),callers:=cs,status:=.running,dying:=none} w= stepG.apply P true (fr b a ds (.inRegion ops (i::rest)::k)) cs none (execOp (ez a) o) w:=by
 have aO:=S9 b a ds (.inRegion ops (i::rest)::k);simp only[fr]at aO;cases d:b.roundOf with
 |none=>simp[stepG,stepG.exec,stepG.oper,Frame.oper?,fr,e,f,d]at*;rw[aO]
 |some l=>cases g:o.op<;>first|exact absurd g (hd _)|(simp[stepG,stepG.exec,stepG.oper,Frame.oper?,fr,e,f,d,g]at*;rw[aO])
end Go.cv
namespace Go.cv
structure gH where
 s:S
 h:aw
 jX:List Nat
abbrev ko:=gH->Option (X×gH)
def w5(σ:b6):List Nat->Option (List Deferred)
 |[]=>some []
 |b::l=>match σ b,w5 σ l with
  |some p,some ds=>some ({target:=.collected p.aY,args:=#[]}::ds)
  |_,_=>none
theorem SS{σ a:b6}(h:mw σ a):∀{l:List Nat} {ds:List Deferred},w5 σ l=some ds->w5 a l=some ds
 |[],_,e=>by simpa[w5]using e
 |b::l,ds,e=>by
  simp only[w5]at e⊢
  split at e
  ·rename_i p q ag c
   rw[h _ _ ag,SS h c]
   exact e
  ·simp at e
def kA(P:Program)(σ:b6):Prop:=∀g,g<P.globals.size->∃t,σ g=some ⟨g,0,t⟩
variable{P:Program}
theorem kA.ext{σ a:b6}(h:kA P σ)(e:mw σ a):kA P a:=fun g an=>let ⟨t,ai⟩:=h g an;⟨t,e _ _ ai⟩
structure Ds (P:Program) (ρ:cd) (ay:Nat) (σ:b6) (x:gH) (a:Array Value) (ds:List Deferred) (w:World):Prop where
 s:nD ρ σ ay x.s a
 h:cZ ρ σ x.h w
 d:w5 σ x.jX=some ds
 g:kA P σ
def I'(P:Program)(m:Machine)(b:l9)(a:Array Value)(ds:List Deferred)(k:List Item)(cs:List Frame)(w:World):X->Prop
 |.il=>Steps P m (lone (fr b a ds k) cs w)
 |.exit id=>∃dF,exitTo id dF=exitTo id k/\Steps P m (lone (fr b a ds (.code (.exit id)::dF)) cs w)
 |.ret=>∃dF,Steps P m (lone (fr b a ds (.code .ret::dF)) cs w)
theorem I'.P7{P:Program}{m c:Machine}{b:l9}{a:Array Value}{ds:List Deferred}{k:List Item}{cs:List Frame}{w:World}{x:X} (s:Steps P m c)(h:I' P c b a ds k cs w x):I' P m b a ds k cs w x:=by
 cases x with
 |il=>exact s.trans h
 |exit id=>obtain⟨dF,e,t⟩:=h;exact⟨dF,e,s.trans t⟩
 |ret=>obtain⟨dF,t⟩:=h;exact⟨dF,s.trans t⟩
def m4(P:Program)(ρ:cd)(ay:Nat)(B:l9->Prop)(c:Code)(F:ko):Prop:=
 ∀(σ:b6) (x:gH) (e:X) (d:gH),F x=some (e,d)->
 ∀(b:l9),B b->∀(k:List Item) (cs:List Frame) (a:Array Value) (ds:List Deferred) (w:World),Ds P ρ ay σ x a ds w->
 ∃g a' f w',Ds P ρ ay g d a' f w'/\jF σ x.h w g d.h w'/\I' P (lone (fr b a ds (.code c::k)) cs w) b a' f k cs w' e
def Qy:ko:=fun x=>some (.il,x)
def Zv(id:Nat):ko:=fun x=>some (.exit id,x)
def adp:ko:=fun x=>some (.ret,x)
def Zy:ko:=fun _=>none
def Qv(F a:ko):ko:=fun x=>match F x with
 |some (.il,b)=>a b
 |r=>r
def NC(c:S->O)(F a:ko):ko:=fun x=>match c x.s with
 |.bool true=>F x
 |.bool false=>a x
 |_=>none
def Nd(id:Nat)(F:ko):ko:=fun x=>match F x with
 |some (.exit j,a)=>bif Nat.beq j id then some (.il,a)else some (.exit j,a)
 |r=>r
def En(F:ko):Nat->ko
 |0=>fun _=>none
 |n+1=>fun x=>match F x with
  |some (.il,a)=>En F n a
  |r=>r
section
variable {P:Program} {ρ:cd} {ay:Nat} {B:l9->Prop}
theorem aIK:m4 P ρ ay B .skip Qy:=by
 intro σ x e d h b f k cs a ds w c;simp only[Qy,cq,iA]at h;obtain⟨rfl,rfl⟩:=h;exact⟨σ,a,ds,w,c,.refl _ _ _,.one aJu⟩
theorem aIE{l:Nat}:m4 P ρ ay B (.label l) Qy:=by
 intro σ x e d h b f k cs a ds w c;simp only[Qy,cq,iA]at h;obtain⟨rfl,rfl⟩:=h;exact⟨σ,a,ds,w,c,.refl _ _ _,.one aJk⟩
theorem Lh{c:Code}:m4 P ρ ay B c Zy:=by
 intro σ x e a h;simp[Zy]at h
variable{id:Nat}
theorem aID:m4 P ρ ay B (.exit id) (Zv id):=by
 intro σ x e d h b f k cs a ds w c;simp only[Zv,cq,iA]at h;obtain⟨rfl,rfl⟩:=h;exact⟨σ,a,ds,w,c,.refl _ _ _,k,rfl,.refl _ _⟩
theorem aII:m4 P ρ ay B .ret adp:=by
 intro σ x e d h b f k cs a ds w c;simp only[adp,cq,iA]at h;obtain⟨rfl,rfl⟩:=h;exact⟨σ,a,ds,w,c,.refl _ _ _,k,.refl _ _⟩
theorem aIJ{c d:Code}{F o:ko}(z:m4 P ρ ay B c F)(D:m4 P ρ ay B d o):m4 P ρ ay B (.seq c d) (Qv F o):=by
 intro σ x e C h b q k cs a ds w u;unfold Qv at h;cases f:F x with
 |none=>rw[f]at h;simp at h
 |some r=>
  obtain⟨aj,p⟩:=r;rw[f]at h;obtain⟨m,bW,n,i,j,g,bZ⟩:=z σ x aj p f b q (.code d::k) cs a ds w u;cases aj with
  |il=>simp only at h;obtain⟨G,cD,s,y,E,A,cp⟩:=D m p e C h b q k cs bW n i j;exact⟨G,cD,s,y,E,g.trans A,.P7 (.head adY bZ) cp⟩
  |exit id=>simp only[cq,iA]at h;obtain⟨rfl,rfl⟩:=h;obtain⟨dF,t,l⟩:=bZ;exact⟨m,bW,n,i,j,g,dF,by rw[t];rfl,.head adY l⟩
  |ret=>simp only[cq,iA]at h;obtain⟨rfl,rfl⟩:=h;obtain⟨dF,l⟩:=bZ;exact⟨m,bW,n,i,j,g,dF,.head adY l⟩
def Se(P:Program)(ρ:cd)(ay:Nat)(o:Operand)(x:S->O):Prop:=
 ∀σ s a,kA P σ->nD ρ σ ay s a->aN ρ σ (x s)=some (ez a o)
variable{F:ko}
theorem aIB{o:Operand}{t:S->O}{c d:Code}{n:ko}(r:Se P ρ ay o t)(s:m4 P ρ ay B c F)(u:m4 P ρ ay B d n): m4 P ρ ay B (.cond o c d) (NC t F n):=by
 intro σ x e p h b q k cs a ds w f;have J:=r σ x.s a f.g f.s;unfold NC at h;split at h;rename_i A;rw[A]at J;simp only[aN,cq]at J;obtain⟨l,bW,m,i,j,g,bZ⟩:=s σ x e p h b q k cs a ds w f;exact⟨l,bW,m,i,j,g,.P7 (.one (arM J.symm)) bZ⟩;rename_i A;rw[A]at J;simp only[aN,cq]at J;obtain⟨l,bW,m,i,j,g,bZ⟩:=u σ x e p h b q k cs a ds w f;exact⟨l,bW,m,i,j,g,.P7 (.one (arM J.symm)) bZ⟩;simp at h
theorem aIA{id:Nat}{c:Code}{F:ko}(s:m4 P ρ ay B c F):m4 P ρ ay B (.block id c) (Nd id F):=by
 intro σ x e y h b u k cs a ds w q;unfold Nd at h;cases o:F x with
 |none=>rw[o]at h;simp at h
 |some r=>
  obtain⟨aj,t⟩:=r;rw[o]at h;obtain⟨m,bW,n,g,i,d,bZ⟩:=s σ x aj t o b u (.inBlock id::k) cs a ds w q;cases aj with
  |il=>simp only[cq,iA]at h;obtain⟨rfl,rfl⟩:=h;exact⟨m,bW,n,g,i,d,.head VD (tj bZ (.one aJi))⟩
  |exit j=>
   simp only[zY]at h;obtain⟨dF,p,l⟩:=bZ;by_cases f:j=id;rw[co f]at h;simp only[cq,iA]at h;obtain⟨rfl,rfl⟩:=h;subst f;refine⟨m,bW,n,g,i,d,.head VD (tj l (.one (aJh ?_)))⟩;rw[p];simp[exitTo]
   ·rw[bs f]at h;simp only[cq,iA]at h;obtain⟨rfl,rfl⟩:=h;refine⟨m,bW,n,g,i,d,dF,?_,.head VD l⟩;rw[p];have:(id==j)=false:=by simp;exact fun e=>f e.symm
    simp[exitTo,this]
  |ret=>simp only[cq,iA]at h;obtain⟨rfl,rfl⟩:=h;obtain⟨dF,l⟩:=bZ;exact⟨m,bW,n,g,i,d,dF,.head VD l⟩
theorem aIF{c:Code}(A:m4 P ρ ay B c F)(n:Nat):m4 P ρ ay B (.loop c) (En F n):=by
 have key:∀(n:Nat) (σ:b6) (x:gH) (e:X) (d:gH),En F n x=some (e,d)->∀(b:l9),B b->∀(k:List Item) (cs:List Frame) (a:Array Value) (ds:List Deferred) (w:World),Ds P ρ ay σ x a ds w->
   ∃s a' q w',Ds P ρ ay s d a' q w'/\jF σ x.h w s d.h w'/\I' P (lone (fr b a ds (.code c::.inLoop c::k)) cs w) b a' q k cs w' e:=by
  intro n;induction n with
  |zero=>intro σ x e d h;simp[En]at h
  |succ n E=>
   intro σ x e d h b m k cs a ds w p;simp only[En]at h;cases o:F x with
   |none=>rw[o]at h;simp at h
   |some r=>
    obtain⟨aj,t⟩:=r;rw[o]at h;obtain⟨j,bW,l,g,i,f,bZ⟩:=A σ x aj t o b m (.inLoop c::k) cs a ds w p;cases aj with
    |il=>simp only at h;obtain⟨H,cD,u,z,D,C,cp⟩:=E j t e d h b m k cs bW l g i;exact⟨H,cD,u,z,D,f.trans C,.P7 (tj bZ (.one aJj)) cp⟩
    |exit id=>simp only[cq,iA]at h;obtain⟨rfl,rfl⟩:=h;obtain⟨dF,y,G⟩:=bZ;exact⟨j,bW,l,g,i,f,dF,by rw[y];rfl,G⟩
    |ret=>simp only[cq,iA]at h;obtain⟨rfl,rfl⟩:=h;exact⟨j,bW,l,g,i,f,bZ⟩
 intro σ x e d h b m k cs a ds w p;obtain⟨j,bW,l,g,i,f,bZ⟩:=key n σ x e d h b m k cs a ds w p;exact⟨j,bW,l,g,i,f,.P7 (.one aJl) bZ⟩
end
inductive o9 where
 |pure (f:List O->Option O)
 |r7 (f:List O->aw->Option O)
 |alloc (f:List O->Option eC) (ret:List O->Nat->O)
 |sT (f:List O->aw->Option (O×aw))
def zX:o9->List O->aw->Option (O×aw)
 |.pure f,s,h=>match f s with|some v=>some (v,h)|none=>none
 |.r7 f,s,h=>match f s h with|some v=>some (v,h)|none=>none
 |.alloc f ret,s,h=>match f s with
  |some x=>bif Nat.blt h.nx eB then some (ret s h.nx,h.add x)else none
  |none=>none
 |.sT f,s,h=>f s h
def dZ(σ:b6)(b:Nat)(p:nB):b6:=fun j=>if j=b then some p else σ j
variable{b:Nat}
theorem mw.c'{σ:b6}{p:nB}(h:σ b=none):mw σ (dZ σ b p):=fun j q a=>by
 unfold dZ
 rw[bs]
 ·exact a
 ·intro e;subst e;rw[h]at a;cases a
def fW(o:Oper)(a:Array Value):List Value:=o.op.operands.toList.map (ez a)
def Dh(P:Program)(ρ:cd)(o:Oper)(f:List O->aw->Option (O×aw)):Prop:=
 ∀σ s h a w v b,kA P σ->bY ρ σ s=some (fW o a)->cZ ρ σ h w->f s h=some (v,b)->
  Fz P o a w fun c w'=>∃d,aN ρ d v=some c/\cZ ρ d b w'/\jF σ h w d b w'
def BH(P:Program)(ρ:cd)(o:Oper)(f:List O->aw->Option O):Prop:=
 ∀σ s h a w v,kA P σ->bY ρ σ s=some (fW o a)->cZ ρ σ h w->f s h=some v->∃c,aN ρ σ v=some c/\(execOp (ez a) o).run P w=.ok (.value c) w
def mA(P:Program)(ρ:cd)(o:Oper)(f:List O->Option O):Prop:=
 ∀σ s a w v,kA P σ->bY ρ σ s=some (fW o a)->f s=some v->∃c,aN ρ σ v=some c/\(execOp (ez a) o).run P w=.ok (.value c) w
def IK(P:Program)(ρ:cd)(o:Oper)(f:List O->Option eC)(ret:List O->Nat->O):Prop:=
 ∀σ s a w x b,kA P σ->bY ρ σ s=some (fW o a)->f s=some x->σ b=none->
  ∃obj tot d c,(execOp (ez a) o).run P w=.ok (.value c) {w with heap:=w.heap.push obj,drawn:=d}/\
   aN ρ (dZ σ b ⟨w.heap.size,0,tot⟩) (ret s b)=some c/\kn ρ (dZ σ b ⟨w.heap.size,0,tot⟩) ⟨w.heap.size,0,tot⟩ (some obj) x
def sr(P:Program)(ρ:cd)(o:Oper):o9->Prop
 |.pure f=>mA P ρ o f
 |.r7 f=>BH P ρ o f
 |.alloc f ret=>IK P ρ o f ret
 |.sT f=>Dh P ρ o f
variable{w:World}
theorem cZ.apw{ρ:cd}{σ:b6}{h:aw}{w':World}(r:cZ ρ σ h w)(e:w'.heap=w.heap):cZ ρ σ h w':=
 ⟨fun b x A=>by rw[e];exact r.aY b x A,r.inj,r.j9⟩
variable{nx tot d:Nat}{obj:Obj}
theorem cZ.add{ρ:cd}{σ:b6}{h:aw}(r:cZ ρ σ h w)(A:σ b=none)(t:b<eB)(E:h.nx<=nx)(C:b<nx){x:eC} (z:kn ρ (dZ σ b ⟨w.heap.size,0,tot⟩) ⟨w.heap.size,0,tot⟩ (some obj) x): cZ ρ (dZ σ b ⟨w.heap.size,0,tot⟩) ⟨h.t.set DH b (some x),nx⟩ {w with heap:=w.heap.push obj,drawn:=d}:=by
 have s:∀j,(⟨h.t.set DH b (some x),nx⟩:aw).cR j=if j=b then some x else h.cR j:=fun j=>aw.vp h b j (some x) t
 have D:∀y,h.cR b=some y->False:=fun y l=>by obtain⟨p,ag,_⟩:=r.aY b y l;rw[A]at ag;cases ag
 have old:∀j y,j≠b->h.cR j=some y->∃p,σ j=some p/\p.aY<w.heap.size/\kn ρ σ p w.heap[p.aY]? y:=fun j y _ l=>by obtain⟨p,ag,f⟩:=r.aY j y l;refine⟨p,ag,?_,f⟩;refine afj fun B=>?_;rw[V2 B]at f;cases y<;>simp[kn]at f
 refine⟨fun j y a=>?_,fun j n y o p u a g ag c k=>?_,fun j a=>?_⟩
 ·rw[s]at a;by_cases e:j=b;subst e;rw[co rfl]at a;cases a;refine⟨⟨w.heap.size,0,tot⟩,by simp[dZ],?_⟩;simpa using z
  ·rw[bs e]at a;obtain⟨p,ag,au,f⟩:=old j y e a;refine⟨p,by simp[dZ,e,ag],?_⟩;have:({w with heap:=w.heap.push obj,drawn:=d}:World).heap[p.aY]? =w.heap[p.aY]? :=by simp[Q1,wK au]
   rw[this];exact f.ext (.c' A)
 rw[s]at a g;by_cases e:j=b;subst e;rw[bs (h8 k)]at g;obtain⟨q,i,au,_⟩:=old n o (h8 k) g;simp only[dZ,co,cq]at ag;simp only[dZ,bs (h8 k)]at c;rw[i]at c;cases c;subst ag;simp;omega;rw[bs e]at a;obtain⟨q,i,au,_⟩:=old j y e a;simp only[dZ,bs e]at ag;rw[i]at ag;cases ag;by_cases m:n=b;subst m;simp only[dZ,co,cq]at c;subst c;simp;omega;rw[bs m]at g;simp only[dZ,bs m]at c;exact r.inj j n y o _ u a g i c k
 ·have:j≠b:=by simp at a;omega
  simp only[dZ,bs this];exact r.j9 j (by simp at a;omega)
theorem jF.add{σ:b6}{h:aw}(A:σ b=none)(f:b<eB)(i:h.nx<=b)(k:h.nx<=nx){x:eC}:
  jF σ h w (dZ σ b ⟨w.heap.size,0,tot⟩) ⟨h.t.set DH b (some x),nx⟩ {w with heap:=w.heap.push obj,drawn:=d} where
 ext:=.c' A
 ee:=fun j a g=>by
  by_cases e:j=b
  ·subst e;exact i
  ·simp[dZ,e,a]at g
 nx:=k
 size:=ao
 kept:=fun r c _=>by simp[Q1,wK c]
 p2:=fun r ⟨j,y,p,a,ag,c⟩=>by
  rw[show(⟨h.t.set DH b (some x),nx⟩:aw).cR j=if j=b then some x else h.cR j from aw.vp h b j (some x) f]at a
  by_cases e:j=b
  ·subst e
   simp only[dZ,co,cq]at ag
   subst ag
   left;simp at c;omega
  ·rw[bs e]at a
   simp only[dZ,bs e]at ag
   exact .inr ⟨j,y,p,a,ag,c⟩
 os:=rfl
 output:=rfl
 tape:=rfl
theorem sr.sT{P:Program}{ρ:cd}{o:Oper}:∀{f:o9},sr P ρ o f->Dh P ρ o (zX f)
 |.pure f,g=>by
  intro σ s h a w v m an j b e
  simp only[zX]at e
  split at e
  ·rename_i u hu
   simp at e;obtain⟨rfl,rfl⟩:=e
   obtain⟨c,i,k⟩:=g σ s a w _ an j hu
   exact .inl ⟨c,w,k,σ,i,b,.refl _ _ _⟩
  ·simp at e
 |.r7 f,g=>by
  intro σ s h a w v m an j b e
  simp only[zX]at e
  split at e
  ·rename_i u hu
   simp at e;obtain⟨rfl,rfl⟩:=e
   obtain⟨c,i,k⟩:=g σ s h a w _ an j b hu
   exact .inl ⟨c,w,k,σ,i,b,.refl _ _ _⟩
  ·simp at e
 |.alloc f ret,g=>by
  intro σ s h a w v m an j b e
  simp only[zX]at e
  split at e
  ·rename_i u hu
   cases au:Nat.blt h.nx eB with
   |false=>simp[au]at e
   |true=>
    have l:h.nx<eB:=by simpa using au
    simp[au]at e
    obtain⟨rfl,rfl⟩:=e
    have A:=b.j9 h.nx (aZ _)
    obtain⟨obj,tot,d,c,k,i,n⟩:=g σ s a w u h.nx an j hu A
    exact .inl ⟨c,_,k,_,i,b.add A l (qQ _) (Fv _) n,.add A l (aZ _) (qQ _)⟩
  ·simp at e
 |.sT f,g=>g
def Ap(x:O)(a:Bool):Option Bool:=match x with
 |.bool b=>some (b==a)
 |.sym _=>none
 |_=>some false
structure zQ where
 guard:Option ((S->O)×Bool)
 dst:Option Nat
 aP:List (S->O)
 op:o9
def mS(aP:List (S->O))(s:S):List O:=match aP with
 |[]=>[]
 |x::l=>x s::mS l s
def ps(d:Option Nat)(v:O)(s:S):S:=match d with|some d=>put d v s|none=>s
def EF:List zQ->S->aw->Option (S×aw)
 |[],s,h=>some (s,h)
 |o::l,s,h=>
  match (match o.guard with|none=>some true|some (x,b)=>Ap (x s) b)with
  |some true=>match zX o.op (mS o.aP s) h with
   |some (v,a)=>EF l (ps o.dst v s) a
   |none=>none
  |some false=>EF l (ps o.dst ql s) h
  |none=>none
def ML(P:Program)(ρ:cd)(ay:Nat):List Operand->List (S->O)->Prop
 |[],[]=>True
 |o::l,x::m=>Se P ρ ay o x/\ML P ρ ay l m
 |_,_=>False
theorem ML.aN{P:Program}{ρ:cd}{ay:Nat}:∀{l:List Operand} {aP:List (S->O)},ML P ρ ay l aP->∀{σ:b6} {s:S} {a:Array Value},kA P σ->nD ρ σ ay s a->
  bY ρ σ (mS aP s)=some (l.map (ez a))
 |[],[],_,_,_,_,_,_=>rfl
 |o::l,x::m,⟨h,t⟩,σ,s,a,an,b=>by
  simp only[mS,bY,h σ s a an b,t.aN an b,qO]
 |[],_::_,h,_,_,_,_,_=>h.elim
 |_::_,[],h,_,_,_,_,_=>h.elim
structure Si (P:Program) (ρ:cd) (ay:Nat) (ops:Array Oper) (o:Oper) (r:zQ):Prop where
 op:sr P ρ o r.op
 aP:ML P ρ ay o.op.operands.toList r.aP
 dst:r.dst=o.dst
 lt:∀t,o.dst=some t->t<ay
 UZ:∀c,o.op≠ .defer c
 guard:match o.guard with
  |none=>r.guard=none
  |some (j,h5)=>∃t,(ops[j]?).bind (·.dst)=some t/\t<ay/\r.guard=some (g t,h5)
theorem aeD{P:Program}{ρ:cd}{ay:Nat}{ops:Array Oper}{o:Oper}{r:zQ}(p:Si P ρ ay ops o r){σ:b6}{s:S}{a:Array Value}(i:nD ρ σ ay s a){t:Bool} (e:(match r.guard with|none=>some true|some (x,h)=>Ap (x s) h)=some t):Region.wanted o (yielded ops a)=t:=by
 have an:=p.guard;unfold Region.wanted;cases k:o.guard with
 |none=>rw[k]at an;simp only at an;rw[an]at e;simp at e;simp[e]
 |some m=>
  obtain⟨j,h⟩:=m;rw[k]at an;simp only at an;obtain⟨u,hu,au,n⟩:=an;rw[n]at e;simp only at e⊢;have d:=i.2.2 u au;have w:a[u]? =some (a.getD u undef):=by
   have:u<a.size:=by rw[i.1];exact au
   simp[Array.getD,this]
  unfold yielded;rw[hu];simp only[C1,w];generalize a.getD u undef=c at d;generalize g u s=x at d e;cases x<;>simp only[Ap,cq,reduceCtorEq]at e<;>simp only[aN]at d;case bool b=>cases d;subst e;cases b<;>cases h<;>rfl
  case str l=>split at d<;>cases d;subst e;rfl
  case fn f x y=>split at d<;>cases d;subst e;rfl
  all_goals
   subst e;first
    |(cases d;rfl)
    |(simp only[iz]at d;obtain⟨q,_,rfl⟩:=d;rfl)
theorem Sr{P:Program}{b:l9}{a:Array Value}{ds:List Deferred}{k:List Item}{cs:List Frame}{w:World}{ops:Array Oper}{i:Nat}{rest:List Nat}{o:Oper}{R:Value->World->Prop} (g:ops[i]? =some o)(j:Region.wanted o (yielded ops a)=true)(hd:∀c,o.op≠ .defer c)(h:Fz P o a w R):∃v w',R v w'/\Steps P (lone (fr b a ds (.inRegion ops (i::rest)::k)) cs w) (lone (fr b (q3 o.dst v a) ds (.inRegion ops rest::k)) cs w'):=by
 have an:=aJB (P:=P) (b:=b) (ds:=ds) (k:=k) (cs:=cs) (w:=w) (rest:=rest) g j hd;have Cf:∀v,(fr b a ds (.inRegion ops (i::rest)::k)).finish v=fr b (q3 o.dst v a) ds (.inRegion ops rest::k):=fun v=>by rw[ajV,g];rfl
 rcases h with⟨v,w',d,r⟩|⟨w',d,r⟩|⟨f,args,e,d,amj⟩|⟨l,f,t,x,y,e,d,amj⟩
 ·refine⟨v,w',r,.one (l6 ?_)⟩;rw[an,←Cf];simp[stepG.apply,d]
 ·refine⟨undef,w',r,.one (l6 ?_)⟩;rw[an,←Cf];simp[stepG.apply,d]
 ·have H:step P (lone (fr b a ds (.inRegion ops (i::rest)::k)) cs w)=.next (lone (Frame.enter P f args .normal) (fr b a ds (.inRegion ops (i::rest)::k)::cs) e):=
   l6 (by rw[an];simp[stepG.apply,d,fr])
  exact anN
 ·have H:step P (lone (fr b a ds (.inRegion ops (i::rest)::k)) cs w)=.next (lone (Frame.round l f t x y .normal) (fr b a ds (.inRegion ops (i::rest)::k)::cs) e):=
   l6 (by rw[an];simp[stepG.apply,d])
  exact anN
theorem nD.ps{ρ:cd}{σ:b6}{ay:Nat}{s:S}{a:Array Value}(h:nD ρ σ ay s a){d:Option Nat}(hd:∀t,d=some t->t<ay){v:O}{c:Value}(J:aN ρ σ v=some c): nD ρ σ ay (cv.ps d v s) (q3 d c a):=by
 cases d with
 |none=>exact h
 |some t=>exact h.put (hd t rfl) J
theorem NB(ρ:cd)(σ:b6):aN ρ σ ql=some undef:=by simp[ql,aN,bY,undef]
def Sj(P:Program)(ρ:cd)(ay:Nat)(ops:Array Oper):List Oper->List zQ->Prop
 |[],[]=>True
 |o::l,r::m=>Si P ρ ay ops o r/\Sj P ρ ay ops l m
 |_,_=>False
theorem ac6{P:Program}{ρ:cd}{ay:Nat}{ops:Array Oper}:∀(l:List Oper) (rs:List zQ) (j:Nat),Sj P ρ ay ops l rs->(∀i,ops[j+i]? =l[i]?)->
  ∀(σ:b6) (s:S) (h:aw) (m:S) (g:aw),EF rs s h=some (m,g)->
  ∀(b:l9) (k:List Item) (cs:List Frame) (a:Array Value) (ds:List Deferred) (w:World),kA P σ->nD ρ σ ay s a->cZ ρ σ h w->
  ∃y a' w',nD ρ y ay m a'/\cZ ρ y g w'/\jF σ h w y g w'/\Steps P (lone (fr b a ds (.inRegion ops (List.range' j l.length)::k)) cs w) (lone (fr b a' ds k) cs w')
 |[],[],j,_,_,σ,s,h,m,g,e,b,k,cs,a,ds,w,an,f,n=>by
  simp only[EF,cq,iA]at e
  obtain⟨rfl,rfl⟩:=e
  exact⟨σ,a,w,f,n,.refl _ _ _,.one arP⟩
 |o::l,r::rs,j,⟨d,F⟩,E,σ,s,h,m,g,e,b,k,cs,a,ds,w,an,f,n=>by
  have x:ops[j]? =some o:=by simpa using E 0
  have D:∀i,ops[j+1+i]? =l[i]? :=fun i=>by have:=E (i+1);simpa[kN,tl 1 i]using this
  simp only[EF]at e
  split at e
  ·rename_i ai
   have z:=aeD d f ai
   split at e
   ·rename_i v H J
    have L:=d.op.sT σ _ h a w v H an (d.aP.aN an f) n J
    obtain⟨c,K,⟨M,I,G,t⟩,al⟩:=Sr (b:=b) (ds:=ds) (k:=k) (cs:=cs) (rest:=List.range' (j+1) l.length) x z d.UZ L
    rw[d.dst]at e
    obtain⟨B,cD,u,A,p,C,q⟩:=ac6 l rs (j+1) F D M _ H m g e b k cs (q3 o.dst c a) ds K (an.ext t.ext) ((f.ext t.ext).ps d.lt I) G
    exact⟨B,cD,u,A,p,t.trans C,al.trans q⟩
   ·simp at e
  ·rename_i ai
   have z:=aeD d f ai
   have al:=arO (P:=P) (b:=b) (a:=a) (ds:=ds) (k:=k) (cs:=cs) (w:=w) (ops:=ops) (i:=j) (rest:=List.range' (j+1) l.length) (by simp[x,z])
   simp only[x,C1]at al
   rw[d.dst]at e
   obtain⟨B,cD,u,A,p,C,q⟩:=ac6 l rs (j+1) F D σ _ h m g e b k cs (q3 o.dst undef a) ds w an (f.ps d.lt (NB ρ σ)) n
   exact⟨B,cD,u,A,p,C,.head al q⟩
  ·simp at e
 |[],_::_,_,h,_,_,_,_,_,_,_,_,_,_,_,_,_,_,_,_=>h.elim
 |_::_,[],_,h,_,_,_,_,_,_,_,_,_,_,_,_,_,_,_,_=>h.elim
def Vm(rs:List zQ):ko:=fun x=>match EF rs x.s x.h with
 |some (s,h)=>some (.il,⟨s,h,x.jX⟩)
 |none=>none
theorem aIH{P:Program}{ρ:cd}{ay:Nat}{B:l9->Prop}{id:Nat}{ops:Array Oper}{rs:List zQ}(f:Sj P ρ ay ops ops.toList rs):m4 P ρ ay B (.region id ops false) (Vm rs):=by
 intro σ x e q h b _ k cs a ds w c;unfold Vm at h;split at h
 ·rename_i n l m;simp only[cq,iA]at h;obtain⟨rfl,rfl⟩:=h;obtain⟨o,bW,g,j,H,d,al⟩:=ac6 ops.toList rs 0 f (fun i=>ao) σ x.s x.h n l m b k cs a ds w c.g c.s c.h;refine⟨o,bW,ds,g,⟨j,H,SS d.ext c.d,c.g.ext d.ext⟩,d,.head aJp ?_⟩;simpa[aeO]using al
 ·simp at h
inductive Jg (ops:Array Oper):(Nat->Bool)->List Nat->Prop
 |nil {D:Nat->Bool}:(∀i,i<ops.size->D i=true)->Jg ops D []
 |cons {D:Nat->Bool} {i:Nat} {o:Oper} {l:List Nat}:ops[i]? =some o->D i=false->(∀e∈o.after.toList,Region.binds .any e=true->D e.on=true)->
  Jg ops (fun j=>D j||j==i) l->Jg ops D (i::l)
def WJ(ops:Array Oper):Prop:=∀i o,ops[i]? =some o->∀e∈o.after.toList,Region.binds .any e=true->e.on<i
theorem anm(D:Nat->Bool):∀n,(∃i,i<n/\D i=false)->∃i,i<n/\D i=false/\∀j,j<i->D j=true
 |0,⟨i,h,_⟩=>by omega
 |n+1,⟨i,h,hi⟩=>by
  by_cases a:∃i,i<n/\D i=false
  ·obtain⟨k,H,I,c⟩:=anm D n a
   exact⟨k,z,I,c⟩
  ·have:i=n:=by
    by_cases e:i<n;exact(a ⟨i,e,hi⟩).elim;omega
   subst this
   refine⟨i,h,hi,fun j b=>?_⟩
   cases hd:D j with
   |true=>rfl
   |false=>exact(a ⟨j,b,hd⟩).elim
def Fi(n:Nat)(D:Nat->Bool):Nat:=((List.range n).filter fun i=> !D i).length
variable{n:Nat}{D:Nat->Bool}
theorem aLm(h:Fi n D=0)(i:Nat)(hi:i<n):D i=true:=by
 unfold Fi at h;have:=LQ.1 h;rw[asY]at this;have:=this i (xZ.2 hi);simpa using this
theorem ajT(D:Nat->Bool)(i:Nat)(c:D i=false):∀(l:List Nat),l.Nodup->i∈l->(l.filter fun j=> !D j).length=(l.filter fun j=> !(D j||j==i)).length+1
 |[],_,h=>by cases h
 |a::l,b,h=>by
  rw[afg]at b
  by_cases e:a=i
  ·subst e
   have:(l.filter fun j=> !(D j||j==a))=l.filter fun j=> !D j:=by
    apply List.filter_congr
    intro j d
    have:j≠a:=fun e=>b.1 (e▸d)
    simp[this]
   rw[afa,afa,this]
   simp[c]
  ·have hi:i∈l:=by
    cases h with
    |head=>exact(e rfl).elim
    |tail _ h=>exact h
   have f:=ajT D i c l b.2 hi
   simp only[afa]
   have:(a==i)=false:=by simpa using e
   cases g:D a<;>simp[this]at f⊢ <;>omega
variable{i:Nat}
theorem aLl(hi:i<n)(a:D i=false):Fi n D=Fi n (fun j=>D j||j==i)+1:=
 ajT D i a _ List.nodup_range (xZ.2 hi)
theorem anr{ops:Array Oper}(A:WJ ops):∀(o t:Nat) (c:Array Bool) (k:List Nat) (D:Nat->Bool),c.size=ops.size->(∀i,i<ops.size->c.getD i true=D i)->(∀i,ops.size<=i->D i=true∨D i=false)->
  (∀i,i<ops.size->c.getD i false=D i)->Fi ops.size D=o->(∀i,ops.size<=i->D i=false)->
  ∃n,Region.linearise.go .any ops o t c k=k.reverse++n/\Jg ops D n
 |0,t,c,k,D,f,H,_,I,hu,y=>⟨[],by simp[Region.linearise.go],.nil fun i hi=>aLm hu i hi⟩
 |o+1,t,c,k,D,f,H,Q,I,hu,y=>by
  have E:∃i,i<ops.size/\D i=false:=by
   apply Classical.byContradiction
   intro C
   have:Fi ops.size D=0:=by
    unfold Fi
    rw[LQ,asY]
    intro a aH
    have aH:=xZ.1 aH
    cases hd:D a with
    |true=>simp
    |false=>exact(C ⟨a,aH,hd⟩).elim
   omega
  obtain⟨g,r,L,J⟩:=anm D ops.size E
  rw[Region.linearise.go]
  generalize B:((List.range ops.size).filter fun i=>
    !c.getD i true&&((ops[i]?).map (·.after.all fun e=> !Region.binds .any e||c.getD e.on false)).getD false)=rs
  have M:rs≠[]:=by
   intro G
   have u:g∈rs:=by
    rw[←B,IE]
    refine⟨xZ.2 r,?_⟩
    have d:ops[g]? =some ops[g]:=by simp[r]
    simp only[H g r,L,d,n6,LY,Q2,Bool.true_and,asH]
    intro e aO
    by_cases m:Region.binds .any e=true
    ·have au:=A g _ d e (by simpa using aO) m
     simp[I e.on z,J e.on au]
    simp[m]
   rw[G]at u;cases u
  have N:0<rs.length:=by
   cases rs with
   |nil=>exact(M rfl).elim
   |cons a l=>simp
  have au:=zu t N
  have s:rs[t%rs.length]? =some rs[t%rs.length]:=by simp[au]
  generalize rs[t%rs.length]=i at s
  rw[s]
  simp only
  have x:i∈rs:=CY s
  rw[←B,IE]at x
  obtain⟨hi,ag⟩:=x
  have hi:=xZ.1 hi
  have d:ops[i]? =some ops[i]:=by simp[hi]
  simp only[H i hi,d,n6,LY,dQ,Bool.not_eq_true',asH]at ag
  obtain⟨w,P⟩:=ag
  have O:=anr A o (t/rs.length) (c.setIfInBounds i true) (i::k) (fun j=>D j||j==i) (by simpa using f)
   (fun j b=>by
    by_cases e:j=i
    ·subst e;simp[Array.getD,f,b]
    ·have:=H j b
     have q:(j==i)=false:=by simpa using e
     simp[Array.getD,f,b,V4,h8 e,q]at this⊢
     exact this)
   (fun j _=>by cases (D j||j==i)<;>simp)
   (fun j b=>by
    by_cases e:j=i
    ·subst e;simp[Array.getD,f,b]
    ·have:=I j b
     have q:(j==i)=false:=by simpa using e
     simp[Array.getD,f,b,V4,h8 e,q]at this⊢
     exact this)
   (by have:=aLl hi w;omega)
   (fun j b=>by
    have:(j==i)=false:=bz
    simp[y j b,this])
  obtain⟨n,K,F⟩:=O
  refine⟨i::n,by rw[K];simp,.cons d w (fun e aO m=>?_) F⟩
  have:=P e (by simpa using aO)
  rw[m]at this
  have au:=A i _ d e aO m
  rw[I e.on z]at this
  simpa using this
variable{ops:Array Oper}
theorem aIh(A:WJ ops)(t:Nat):Jg ops (fun _=>false) (Region.schedule true ops t):=by
 unfold Region.schedule;simp only[Bool.true_or,ox];unfold Region.linearise;obtain⟨b,h,a⟩:=anr A ops.size t (Array.replicate ops.size false) [] (fun _=>false) ao (fun i hi=>by simp[Array.getD,hi]) (fun _ _=>.inr rfl)
  (fun i hi=>by simp[Array.getD,hi]) (by simp only[Fi,Q2];rw[List.filter_eq_self.2 (fun _ _=>rfl)];simp) (fun _ _=>rfl)
 rw[h];simpa using a
mutual
def O.beq:O->O->Bool
 |.int k n,.int j m=>decide (k=j)&&decide (n=m)
 |.bool a,.bool b=>a==b
 |.str a,.str b=>decide (a=b)
 |.iZ a b,.iZ c d=>Nat.beq a c&&Nat.beq b d
 |.rn,.rn=>true
 |.slice a b c d e,.slice a' h g i l=>Nat.beq a a'&&Nat.beq b h&&Nat.beq c g&&Nat.beq d i&&decide (e=l)
 |.dH,.dH=>true
 |.map a,.map b=>Nat.beq a b
 |.Eu,.Eu=>true
 |.fn f a c,.fn q a' g=>Nat.beq f q&&O.pI a a'&&O.pI c g
 |.xS a,.xS b=>Nat.beq a b
 |.AW,.AW=>true
 |.iface t v,.iface p o=>Nat.beq t p&&O.beq v o
 |.Hm,.Hm=>true
 |.agg a,.agg b=>O.pI a b
 |.tup a,.tup b=>O.pI a b
 |.sym a,.sym b=>Nat.beq a b
 |.lA a b c d,.lA a' h g i=>Nat.beq a a'&&Nat.beq b h&&Nat.beq c g&&Nat.beq d i
 |_,_=>false
def O.pI:List O->List O->Bool
 |[],[]=>true
 |a::l,b::m=>O.beq a b&&O.pI l m
 |_,_=>false
end
mutual
theorem O.beq_eq:∀{a b:O},O.beq a b=true->a=b
 |.int k n,b,h=>by cases b<;>simp[O.beq]at h;simp[h]
 |.bool _,b,h=>by cases b<;>simp[O.beq]at h;simp[h]
 |.str _,b,h=>by cases b<;>simp[O.beq]at h;simp[h]
 |.iZ _ _,b,h=>by cases b<;>simp[O.beq]at h;simp[h]
 |.rn,b,h=>by cases b<;>simp[O.beq]at h;rfl
 |.slice ..,b,h=>by cases b<;>simp[O.beq]at h;simp[h]
 |.dH,b,h=>by cases b<;>simp[O.beq]at h;rfl
 |.map _,b,h=>by cases b<;>simp[O.beq]at h;simp[h]
 |.Eu,b,h=>by cases b<;>simp[O.beq]at h;rfl
 |.fn f x y,b,h=>by
  cases b<;>simp only[O.beq,dQ,qM]at h
  obtain⟨⟨H,I⟩,c⟩:=h
  rw[gx H,O.tE I,O.tE c]
 |.xS _,b,h=>by cases b<;>simp[O.beq]at h;simp[h]
 |.AW,b,h=>by cases b<;>simp[O.beq]at h;rfl
 |.iface t v,b,h=>by
  cases b<;>simp only[O.beq,dQ,qM]at h
  obtain⟨H,I⟩:=h
  rw[gx H,O.beq_eq I]
 |.Hm,b,h=>by cases b<;>simp[O.beq]at h;rfl
 |.agg l,b,h=>by
  cases b<;>simp only[O.beq,qM]at h
  rw[O.tE h]
 |.tup l,b,h=>by
  cases b<;>simp only[O.beq,qM]at h
  rw[O.tE h]
 |.sym _,b,h=>by cases b<;>simp[O.beq]at h;simp[h]
 |.lA ..,b,h=>by cases b<;>simp[O.beq]at h;simp[h]
theorem O.tE:∀{a b:List O},O.pI a b=true->a=b
 |[],[],_=>rfl
 |a::l,b::m,h=>by
  simp only[O.pI,dQ]at h
  rw[O.beq_eq h.1,O.tE h.2]
 |[],_::_,h=>by simp[O.pI]at h
 |_::_,[],h=>by simp[O.pI]at h
end
structure fQ where
 r:zQ
 slots:List Nat
 pre:Nat
inductive ic where
 |skip
 |up (v:O)
 |AU (f:List O->aw->Option O) (aP:List O) (v:O)
 |kw (b:Nat) (x:eC) (v:O)
 |J (v:O) (gc ml:aw)
def ic.val:ic->O
 |.skip=>ql
 |.up v=>v
 |.AU _ _ v=>v
 |.kw _ _ v=>v
 |.J v _ _=>v
abbrev su:=Nat×Nat×eC
def wX(h:aw):List su->aw
 |[]=>h
 |q::l=>wX (h.c' q.2.1 (some q.2.2)) l
def N9(o:zQ)(s:S):Option Bool:=match o.guard with|none=>some true|some (x,a)=>Ap (x s) a
def yW(d:fQ)(i:Nat)(p:List su):ic->List su
 |.J _ _ _=>p.filter fun q=> !d.pre.testBit q.1
 |.kw b x _=>(i,b,x)::p
 |_=>p
def aph(h:aw):ic->aw
 |.J _ _ a=>a
 |_=>h
def H_(d:fQ)(s:S)(a:aw)(p:List su)(rb:Nat):Option ic:=
 match N9 d.r s with
 |none=>none
 |some false=>some .skip
 |some true=>
  match d.r.op with
  |.pure f=>match f (mS d.r.aP s)with|some v=>some (.up v)|none=>none
  |.r7 f=>match f (mS d.r.aP s) a with|some v=>some (.AU f (mS d.r.aP s) v)|none=>none
  |.alloc f ret=>match f (mS d.r.aP s)with|some x=>some (.kw rb x (ret (mS d.r.aP s) rb))|none=>none
  |.sT f=>match f (mS d.r.aP s) (wX a (p.filter fun q=>d.pre.testBit q.1))with
   |some (v,b)=>some (.J v (wX a (p.filter fun q=>d.pre.testBit q.1)) b)
   |none=>none
def Nf(rb:Nat):ic->Nat
 |.kw _ _ _=>rb+1
 |_=>rb
def NP:List fQ->Nat->S->aw->List su->Nat->Option (List ic×S×aw×List su×Nat)
 |[],_,s,a,p,rb=>some ([],s,a,p,rb)
 |d::l,i,s,a,p,rb=>
  match H_ d s a p rb with
  |none=>none
  |some eF=>match NP l (i+1) (ps d.r.dst eF.val s) (aph a eF) (yW d i p eF) (Nf rb eF)with
   |none=>none
   |some (tr,r)=>some (eF::tr,r)
def jz:List fQ->List ic->Nat->List (Nat×Nat×aw)
 |d::l,.J _ _ h::tr,i=>(i,d.pre,h)::jz l tr (i+1)
 |_::l,_::tr,i=>jz l tr (i+1)
 |_,_,_=>[]
def BX:List (Nat×Nat×aw)->Bool
 |[]=>true
 |x::l=>l.all (fun y=>y.2.1.testBit x.1)&&BX l
def N1(a:Option O)(v:O):Bool:=match a with|some u=>O.beq u v|none=>false
def Ge(i pre:Nat)(f:aw->Option O)(v:O):aw->List (Nat×Nat×aw)->Bool
 |h,[]=>N1 (f h) v
 |h,y::l=>bif y.2.1.testBit i then N1 (f h) v else(bif pre.testBit y.1 then true else N1 (f h) v)&&Ge i pre f v y.2.2 l
def yo(ae:aw)(a:List (Nat×Nat×aw)):List fQ->List ic->Nat->Bool
 |d::l,.AU f aP v::tr,i=>Ge i d.pre (f aP) v ae a&&yo ae a l tr (i+1)
 |_::l,_::tr,i=>yo ae a l tr (i+1)
 |_,_,_=>true
def NO(rs:List fQ)(a:Nat):ko:=fun x=>
 bif Nat.blt (x.h.nx+a) eB then
  match NP rs 0 x.s ⟨x.h.t,x.h.nx+a⟩ [] x.h.nx with
  |some (tr,s,h,p,rb)=>
   bif Nat.ble rb (x.h.nx+a)&&(let b:=jz rs tr 0;BX b&&yo ⟨x.h.t,x.h.nx+a⟩ b rs tr 0)then some (.il,⟨s,wX h p,x.jX⟩)else none
  |none=>none
 else none
def CG(ay:Nat)(ops:List Oper)(rs:List fQ):Bool:=
 let n:=ops.length
 (List.range n).all fun i=>
  match ops[i]?,rs[i]? with
  |some o,some d=>
   (o.after.toList.all fun e=> !Region.binds .any e||decide (e.on<i))&&
   ((List.range n).all fun j=> !d.pre.testBit j||(o.after.toList.any fun e=>Region.binds .any e&&(e.on==j||((rs[e.on]?).map (·.pre.testBit j)).getD false)))&&
   (match d.r.dst with|some t=>decide (t<ay)|none=>true)&&
   (d.slots.all fun t=>decide (t<ay))&&
   ((
    List.range n).all fun j=>
    match rs[j]? with
    |some a=>match a.r.dst with
     |some t=>i==j|| !(d.slots.contains t||d.r.dst==some t)||(if j<i then d.pre.testBit j else a.pre.testBit i)
     |none=>true
    |none=>true)
  |_,_=>false
def pt:List fQ->List ic->Nat->S->S
 |d::l,eF::tr,k+1,s=>pt l tr k (ps d.r.dst eF.val s)
 |_,_,_,s=>s
def sE:List ic->Nat->aw->aw
 |eF::tr,k+1,h=>sE tr k (aph h eF)
 |_,_,h=>h
def nj:List fQ->List ic->Nat->Nat->List su->List su
 |d::l,eF::tr,i,k+1,p=>nj l tr (i+1) k (yW d i p eF)
 |_,_,_,_,p=>p
def kK:List ic->Nat->Nat->Nat
 |eF::tr,k+1,rb=>kK tr k (Nf rb eF)
 |_,_,rb=>rb
theorem ajn:∀{rs:List fQ} {i:Nat} {s:S} {a:aw} {p:List su} {rb:Nat} {tr:List ic} {f:S} {c:aw} {e:List su} {g:Nat},
  NP rs i s a p rb=some (tr,f,c,e,g)->
  tr.length=rs.length/\f=pt rs tr rs s/\c=sE tr rs a/\e=nj rs tr i rs p/\g=kK tr rs rb/\
  ∀k d,rs[k]? =some d->∃eF,tr[k]? =some eF/\H_ d (pt rs tr k s) (sE tr k a) (nj rs tr i k p) (kK tr k rb)=some eF
 |[],i,s,a,p,rb,tr,f,c,e,g,h=>by
  simp only[NP,cq,iA]at h
  obtain⟨rfl,rfl,rfl,rfl,rfl⟩:=h
  simp[pt,sE,nj,kK]
 |d::l,i,s,a,p,rb,tr,f,c,e,g,h=>by
  simp only[NP]at h
  split at h
  ·simp at h
  ·rename_i eF y
   split at h
   ·simp at h
   ·rename_i z t n
    obtain⟨bW,cD,a3,a4⟩:=t
    simp only[cq,iA]at h
    obtain⟨rfl,rfl,rfl,rfl,rfl⟩:=h
    obtain⟨H,I,o,m,q,x⟩:=ajn n
    refine⟨by simp[H],by simpa[pt]using I,by simpa[sE]using o,by simpa[nj]using m,by simpa[kK]using q,fun k w b=>?_⟩
    cases k with
    |zero=>
     simp at b;subst b
     exact⟨eF,ao,by simpa[pt,sE,nj,kK]using y⟩
    |succ k=>
     simp at b
     obtain⟨j,r,u⟩:=x k w b
     exact⟨j,by simpa using r,by simpa[pt,sE,nj,kK]using u⟩
def rk(D:Nat->Bool):List fQ->List ic->Nat->Nat->O->O
 |d::l,eF::tr,i,t,v=>rk D l tr (i+1) t (if D i=true/\d.r.dst=some t then eF.val else v)
 |_,_,_,_,v=>v
theorem aj6{t:Nat}(ai:t<256){d:Option Nat}(hd:∀u,d=some u->u<256)(v:O)(s:S):g t (ps d v s)=if d=some t then v else g t s:=by
 cases d with
 |none=>simp[ps]
 |some u=>
  simp only[ps,cq];by_cases e:u=t;subst e;rw[co rfl,ZQ];rw[bs e];exact ZP t u v s z (by have:=hd u rfl;omega) (h8 e)
theorem Uy{D D':Nat->Bool}{t:Nat}:∀{rs:List fQ} {tr:List ic} {i:Nat} {v:O},(∀j d,rs[j]? =some d->d.r.dst=some t->D (i+j)=D' (i+j))->rk D rs tr i t v=rk D' rs tr i t v
 |[],_,_,_,_=>rfl
 |_::_,[],_,_,_=>rfl
 |d::l,eF::tr,i,v,h=>by
  simp only[rk]
  have ae:=h 0 d ao
  have:(if D i=true/\d.r.dst=some t then eF.val else v)=(if D' i=true/\d.r.dst=some t then eF.val else v):=by
   by_cases e:d.r.dst=some t
   ·have:=ae e
    simp at this
    simp[e,this]
   simp[e]
  rw[this]
  exact Uy fun j b a hd=>by
   have:=h (j+1) b (by simpa using a) hd
   simpa[kN,tl 1 j]using this
theorem Uz{D:Nat->Bool}{t:Nat}:∀{rs:List fQ} {tr:List ic} {i:Nat} {v:O},(∀j d,rs[j]? =some d->d.r.dst=some t->D (i+j)=false)->rk D rs tr i t v=v
 |[],_,_,_,_=>rfl
 |_::_,[],_,_,_=>rfl
 |d::l,eF::tr,i,v,h=>by
  simp only[rk]
  have ae:=h 0 d ao
  have:(if D i=true/\d.r.dst=some t then eF.val else v)=v:=by
   rw[bs]
   rintro⟨H,I⟩
   have:=ae I
   simp at this
   rw[this]at H;cases H
  rw[this]
  exact Uz fun j b a hd=>by
   have:=h (j+1) b (by simpa using a) hd
   simpa[kN,tl 1 j]using this
theorem ani{D:Nat->Bool}{t:Nat}:∀{rs:List fQ} {tr:List ic} {i k:Nat} {v:O} {d:fQ} {eF:ic},rs[k]? =some d->tr[k]? =some eF->d.r.dst=some t->D (i+k)=true->
  (∀j a,k<j->rs[j]? =some a->a.r.dst=some t->D (i+j)=false)->rk D rs tr i t v=eF.val
 |[],_,_,k,_,_,_,h,_,_,_,_=>by simp at h
 |_::_,[],_,k,_,_,_,_,h,_,_,_=>by simp at h
 |q::l,o::tr,i,k,v,d,eF,hd,b,g,c,f=>by
  simp only[rk]
  cases k with
  |zero=>
   simp at hd b
   subst hd;subst b
   simp at c
   rw[co ⟨c,g⟩]
   exact Uz fun j a e hd=>by
    have:=f (j+1) a z (by simpa using e) hd
    simpa[kN,tl 1 j]using this
  |succ k=>
   simp at hd b
   exact ani hd b g (by simpa[kN,tl 1 k]using c) fun j a e m n=>by
    have:=f (j+1) a z (by simpa using m) n
    simpa[kN,tl 1 j]using this
theorem ZR{t:Nat}(ai:t<256):∀{rs:List fQ} {tr:List ic} {i k:Nat} {s:S},(∀d∈rs,∀u,d.r.dst=some u->u<256)->
  g t (pt rs tr k s)=rk (fun j=>decide (j<i+k)) rs tr i t (g t s)
 |[],_,_,_,_,_=>by simp[pt,rk]
 |_::_,[],_,_,_,_=>by simp[pt,rk]
 |d::l,eF::tr,i,k,s,h=>by
  cases k with
  |zero=>
   simp only[pt,h7]
   rw[Uz]
   intro j a _ _
   simp
  |succ k=>
   simp only[pt,rk]
   rw[ZR ai (i:=i+1) fun a b=>h a (jD _ b),aj6 ai (h d ao)]
   have e:(fun j=>decide (j<i+1+k))=(fun j=>decide (j<i+(k+1))):=by funext j;congr 1;simp;omega
   rw[e]
   congr 1
   simp
def r6(h:aw):List (Nat×Nat×aw)->aw
 |[]=>h
 |y::l=>r6 y.2.2 l
theorem KO(h:aw):∀(l m:List (Nat×Nat×aw)),r6 h (l++m)=r6 (r6 h l) m
 |[],_=>rfl
 |y::l,m=>by simp[r6,KO y.2.2 l m]
def pT:List fQ->List ic->Nat->Nat->List (Nat×Nat×aw)
 |d::l,eF::tr,i,k+1=>(match eF with|.J _ _ h=>[(i,d.pre,h)]|_=>[])++pT l tr (i+1) k
 |_,_,_,_=>[]
theorem ab5:∀{rs:List fQ} {tr:List ic} {i k:Nat} {h:aw},tr.length=rs.length->r6 h (pT rs tr i k)=sE tr k h
 |[],[],_,_,_,_=>rfl
 |d::l,eF::tr,i,0,h,_=>rfl
 |d::l,eF::tr,i,k+1,h,a=>by
  simp only[pT,sE,KO]
  rw[ab5 (by simpa using a)]
  cases eF<;>rfl
 |[],_::_,_,_,_,a=>by simp at a
 |_::_,[],_,_,_,a=>by simp at a
theorem alu:∀{rs:List fQ} {tr:List ic} {i k:Nat} {d:fQ} {v:O} {b a:aw},rs[k]? =some d->tr[k]? =some (.J v b a)->
  ∃B,jz rs tr i=pT rs tr i k++(i+k,d.pre,a)::B
 |[],_,_,_,_,_,_,_,h,_=>by simp at h
 |_::_,[],_,_,_,_,_,_,_,h=>by simp at h
 |g::l,c::tr,i,0,d,v,b,a,hd,ai=>by
  simp at hd ai;subst hd;subst ai
  exact⟨jz l tr (i+1),by simp[jz,pT]⟩
 |g::l,c::tr,i,k+1,d,v,b,a,hd,ai=>by
  simp at hd ai
  obtain⟨B,f⟩:=alu (i:=i+1) hd ai
  refine⟨B,?_⟩
  have e:i+1+k=i+(k+1):=z
  rw[e]at f
  cases c<;>simp[jz,pT,f]
theorem DY:∀{rs:List fQ} {tr:List ic} {i:Nat} {y:Nat×Nat×aw},y∈jz rs tr i->∃k d v a,y.1=i+k/\rs[k]? =some d/\tr[k]? =some (.J v a y.2.2)/\y.2.1=d.pre
 |[],_,_,_,h=>by simp[jz]at h
 |_::_,[],_,_,h=>by simp[jz]at h
 |e::l,c::tr,i,y,h=>by
  have b:y∈jz l tr (i+1)->∃k d v a,y.1=i+k/\(e::l)[k]? =some d/\(c::tr)[k]? =some (.J v a y.2.2)/\y.2.1=d.pre:=fun h=>by
   obtain⟨k,d,v,a,H,I,g,f⟩:=DY h
   exact⟨k+1,d,v,a,z,by simpa using I,by simpa using g,f⟩
  cases c with
  |J v a j=>
   simp only[jz,gl]at h
   rcases h with h|h
   ·subst h;exact⟨0,e,v,a,ao,ao,ao,rfl⟩
   ·exact b h
  |skip=>exact b (by simpa[jz]using h)
  |up _=>exact b (by simpa[jz]using h)
  |AU _ _ _=>exact b (by simpa[jz]using h)
  |kw _ _ _=>exact b (by simpa[jz]using h)
theorem aiz:∀{l d B:List (Nat×Nat×aw)} {x:Nat×Nat×aw},BX l=true->l=d++x::B->(∀y∈d,x.2.1.testBit y.1=true)/\(∀y∈B,y.2.1.testBit x.1=true)
 |[],d,B,x,_,h=>by simp at h
 |af::l,[],B,x,b,h=>by
  simp at h
  obtain⟨rfl,rfl⟩:=h
  simp only[BX,dQ,h6]at b
  exact⟨(fun y c=>by cases c),b.1⟩
 |af::l,a::d,B,x,b,h=>by
  simp at h
  obtain⟨rfl,rfl⟩:=h
  simp only[BX,dQ,h6]at b
  obtain⟨H,I⟩:=aiz b.2 rfl
  refine⟨fun y c=>?_,I⟩
  cases c with
  |head=>exact b.1 x ao
  |tail _ c=>exact H y c
theorem Zp{a:Option O}{v:O}(h:N1 a v=true):a=some v:=by
 unfold N1 at h;split at h;rw[O.beq_eq h];cases h
theorem aix{i pre:Nat}{f:aw->Option O}{v:O}:∀{bZ cp:List (Nat×Nat×aw)} {h:aw},Ge i pre f v h (bZ++cp)=true->(∀y∈bZ,y.2.1.testBit i=false)->(∀y∈cp,pre.testBit y.1=false)->
  f (r6 h bZ)=some v
 |[],[],h,a,_,_=>Zp (by simpa[Ge,r6]using a)
 |[],y::cp,h,a,_,I=>by
  simp only[zt,Ge]at a
  have:=I y ao
  cases b:y.2.1.testBit i with
  |true=>simp[b]at a;exact Zp a
  |false=>simp[b,this]at a;exact Zp a.1
 |y::bZ,cp,h,a,H,I=>by
  simp only[Wq,Ge,H y ao,jt,dQ]at a
  rw[r6]
  exact aix a.2 (fun af c=>H af (jD _ c)) I
theorem aiy{ae:aw}{b:List (Nat×Nat×aw)}:∀{rs:List fQ} {tr:List ic} {i k:Nat} {d:fQ} {f:List O->aw->Option O} {aP:List O} {v:O},yo ae b rs tr i=true->rs[k]? =some d->tr[k]? =some (.AU f aP v)->
  Ge (i+k) d.pre (f aP) v ae b=true
 |[],_,_,_,_,_,_,_,_,h,_=>by simp at h
 |_::_,[],_,_,_,_,_,_,_,_,h=>by simp at h
 |e::l,c::tr,i,0,d,f,aP,v,a,hd,ai=>by
  simp at hd ai;subst hd;subst ai
  simp only[yo,dQ]at a
  exact a.1
 |e::l,c::tr,i,k+1,d,f,aP,v,a,hd,ai=>by
  simp at hd ai
  have g:yo ae b l tr (i+1)=true:=by cases c<;>simp[yo]at a<;>first|exact a|exact a.2
  have:=aiy g hd ai
  simpa[kN,tl 1 k]using this
theorem aqa:∀{rs:List fQ} {tr:List ic} {i k:Nat} {p:List su} {q:su},(∀q∈p,q.1<i)->q∈nj rs tr i k p->
  (q∈p∨ ∃m v,m<k/\q.1=i+m/\tr[m]? =some (.kw q.2.1 q.2.2 v))/\∀y∈pT rs tr i k,q.1<y.1->y.2.1.testBit q.1=false
 |[],_,_,_,_,_,_,h=>⟨.inl (by simpa[nj]using h),fun y e=>by simp[pT]at e⟩
 |_::_,[],_,_,_,_,_,h=>⟨.inl (by simpa[nj]using h),fun y e=>by simp[pT]at e⟩
 |d::l,eF::tr,i,0,p,q,_,h=>⟨.inl (by simpa[nj]using h),fun y e=>by simp[pT]at e⟩
 |d::l,eF::tr,i,k+1,p,q,ag,h=>by
  simp only[nj]at h
  have j:∀q∈yW d i p eF,q.1<i+1:=fun af f=>by
   cases eF with
   |J v a b=>simp only[yW,IE]at f;have:=ag af f.1;omega
   |kw b x v=>
    simp only[yW,gl]at f
    rcases f with rfl|f
    ·simp
    ·have:=ag af f;omega
   |skip=>have:=ag af f;omega
   |up _=>have:=ag af f;omega
   |AU _ _ _=>have:=ag af f;omega
  obtain⟨H,I⟩:=aqa j h
  refine⟨?_,fun y e g=>?_⟩
  ·rcases H with H|⟨m,v,a,b,c⟩
   ·cases eF with
    |J v a b=>simp only[yW,IE]at H;exact .inl H.1
    |kw b x v=>
     simp only[yW,gl]at H
     rcases H with rfl|H
     ·exact .inr ⟨0,v,z,ao,ao⟩
     ·exact .inl H
    |skip=>exact .inl H
    |up _=>exact .inl H
    |AU _ _ _=>exact .inl H
   ·exact .inr ⟨m+1,v,z,z,by simpa using c⟩
  ·simp only[pT,lo]at e
   rcases e with e|e
   ·cases eF with
    |J v a b=>
     simp at e
     subst e
     rcases H with H|⟨m,o,a',n,r⟩
     ·simp only[yW,IE]at H
      simpa using H.2
     ·simp at g;omega
    |skip=>simp at e
    |up _=>simp at e
    |AU _ _ _=>simp at e
    |kw _ _ _=>simp at e
   ·exact I y e g
theorem Hw:∀{rs:List fQ} {tr:List ic} {i k:Nat} {p:List su},(∀q∈p,q.1<i)->p.Pairwise (fun a b=>a.1≠b.1)->(nj rs tr i k p).Pairwise (fun a b=>a.1≠b.1)
 |[],_,_,_,_,_,h=>by simpa[nj]using h
 |_::_,[],_,_,_,_,h=>by simpa[nj]using h
 |d::l,eF::tr,i,0,p,_,h=>by simpa[nj]using h
 |d::l,eF::tr,i,k+1,p,ag,h=>by
  simp only[nj]
  cases eF with
  |J v a b=>exact Hw (fun af c=>by simp only[yW,IE]at c;have:=ag af c.1;omega) (h.filter _)
  |kw b x v=>
   refine Hw (fun af c=>?_) ?_
   ·simp only[yW,gl]at c
    rcases c with rfl|c
    ·simp
    ·have:=ag af c;omega
   ·simp only[yW,Rr]
    exact⟨fun af c=>by have:=ag af c;simp;omega,h⟩
  |skip=>exact Hw (fun af c=>by have:=ag af c;omega) h
  |up _=>exact Hw (fun af c=>by have:=ag af c;omega) h
  |AU _ _ _=>exact Hw (fun af c=>by have:=ag af c;omega) h
theorem adl:∀{tr:List ic} {k rb:Nat},rb<=kK tr k rb
 |[],_,_=>by simp[kK]
 |eF::tr,0,_=>by simp[kK]
 |eF::tr,k+1,rb=>by
  simp only[kK]
  exact cO (by cases eF<;>simp[Nf]) adl
theorem Vh:∀{tr:List ic} {k rb b:Nat} {x:eC} {v:O},tr[k]? =some (.kw b x v)->kK tr (k+1) rb=kK tr k rb+1
 |[],_,_,_,_,_,h=>by simp at h
 |eF::tr,0,_,_,_,_,h=>by simp at h;subst h;cases tr<;>simp[kK,Nf]
 |eF::tr,k+1,rb,b,x,v,h=>by
  simp at h
  rw[kK]
  exact Vh (rb:=Nf rb eF) h
theorem Vg:∀{tr:List ic} {j k rb:Nat},j<=k->kK tr j rb<=kK tr k rb
 |[],_,_,_,_=>by simp[kK]
 |eF::tr,0,k,rb,_=>by simpa[kK]using adl
 |eF::tr,j+1,0,rb,h=>by omega
 |eF::tr,j+1,k+1,rb,h=>by simp only[kK];exact Vg z
def IP(slots:List Nat)(x:S->O):Prop:=∀s a,(∀t∈slots,g t s=g t a)->x s=x a
structure afD (P:Program) (ρ:cd) (ay:Nat) (ops:Array Oper) (o:Oper) (d:fQ):Prop where
 r:Si P ρ ay ops o d.r
 aP:∀x∈d.r.aP,IP d.slots x
 d':∀x h5,d.r.guard=some (x,h5)->IP d.slots x
theorem asq{slots:List Nat}{s a:S}(h:∀t∈slots,g t s=g t a):∀{aP:List (S->O)},(∀x∈aP,IP slots x)->mS aP s=mS aP a
 |[],_=>rfl
 |x::l,b=>by
  simp only[mS]
  rw[b x ao s a h,asq h fun y c=>b y (jD _ c)]
structure rM (ay:Nat) (ops:Array Oper) (rs:List fQ):Prop where
 len:rs.length=ops.size
 Ym:WJ ops
 pre:∀(i:Nat) (o:Oper) (d:fQ) (j:Nat),ops[i]? =some o->rs[i]? =some d->j<ops.size->d.pre.testBit j=true->∃e∈o.after.toList,Region.binds .any e=true/\(e.on=j∨ ∃dJ:fQ,rs[e.on]? =some dJ/\dJ.pre.testBit j=true)
 dst:∀(i:Nat) (d:fQ) (t:Nat),rs[i]? =some d->d.r.dst=some t->t<ay
 aIS:∀(i:Nat) (d:fQ) (t:Nat),rs[i]? =some d->t∈d.slots->t<ay
 aiS:∀(i j:Nat) (d dJ:fQ) (t:Nat),rs[i]? =some d->rs[j]? =some dJ->dJ.r.dst=some t->i≠j->(t∈d.slots∨d.r.dst=some t)->if j<i then d.pre.testBit j=true else dJ.pre.testBit i=true
variable{ay:Nat}
theorem aJz{rs:List fQ}(f:rs.length=ops.size)(h:CG ay ops.toList rs=true):rM ay ops rs:=by
 unfold CG at h;simp only[jC,h6,xZ]at h;have has:∀(i:Nat) (d:fQ),rs[i]? =some d->∃o,ops[i]? =some o/\i<ops.size:=fun i d hd=>by have hi:i<rs.length:=(k2.1 hd).1;rw[f]at hi;exact⟨ops[i],by simp[hi],hi⟩
 have m:∀(i:Nat) (o:Oper),ops[i]? =some o->i<ops.size/\∃d,rs[i]? =some d:=fun i o b=>by have hi:i<ops.size:=(g6.1 b).1;refine⟨hi,?_⟩;rw[←f]at hi;exact⟨rs[i],by simp[hi]⟩
 refine⟨f,?_,?_,?_,?_,?_⟩;intro i o b e aO A;obtain⟨hi,d,hd⟩:=m i o b;have a:=h i hi;rw[xU,b,hd]at a;simp only[dQ]at a;obtain⟨⟨⟨⟨H,_⟩,_⟩,_⟩,_⟩:=a;rw[h6]at H;have:=H e aO;simpa[A]using this
 ·intro i o d j b hd g A;obtain⟨hi,_⟩:=m i o b;have a:=h i hi;rw[xU,b,hd]at a;simp only[dQ]at a;obtain⟨⟨⟨⟨_,H⟩,_⟩,_⟩,_⟩:=a;rw[h6]at H;have:=H j (xZ.2 g);simp only[A,aeS,Bool.false_or,LL,dQ,Q4,beq_iff_eq]at this;obtain⟨e,aO,r,I⟩:=this;refine⟨e,aO,r,?_⟩;rcases I with I|I
  exact .inl I
  ·right;cases l:rs[e.on]? with
   |none=>simp[l]at I
   |some k=>simp[l]at I;exact⟨k,rfl,I⟩
 intro i d t hd ai;obtain⟨o,b,hi⟩:=has i d hd;have a:=h i hi;rw[xU,b,hd]at a;simp only[dQ]at a;obtain⟨⟨⟨_,H⟩,_⟩,_⟩:=a;rw[ai]at H;simpa using H;intro i d t hd ai;obtain⟨o,b,hi⟩:=has i d hd;have a:=h i hi;rw[xU,b,hd]at a;simp only[dQ]at a;obtain⟨⟨_,H⟩,_⟩:=a;rw[h6]at H;simpa using H t ai
 ·intro i j d k t hd n ai q c;obtain⟨o,b,hi⟩:=has i d hd;obtain⟨u,s,g⟩:=has j k n;have a:=h i hi;rw[xU,b,hd]at a;simp only[dQ]at a;obtain⟨_,H⟩:=a;rw[h6]at H;have:=H j (xZ.2 g);rw[n]at this;simp only[ai]at this;have aj:(i==j)=false:=by simpa using q
  have p:(d.slots.contains t||d.r.dst==some t)=true:=by
   rcases c with c|c;simp[c];simp[c]
  rw[aj,p]at this;simp only[aeS,Bool.or_self,Bool.false_or]at this;split at this;rename_i au;rw[co au];exact this;rename_i au;rw[bs au];exact this
theorem rM.lt{ay:Nat}{ops:Array Oper}{rs:List fQ}(al:rM ay ops rs):∀(i:Nat) (d:fQ) (j:Nat),rs[i]? =some d->j<ops.size->d.pre.testBit j=true->j<i:=by
 intro i;induction i using Nat.strongRecOn with
 |_ i c=>
  intro d j hd a A;have hi:i<ops.size:=by rw[←al.len];exact(k2.1 hd).1
  obtain⟨e,aO,k,h⟩:=al.pre i ops[i] d j (by simp[hi]) hd a A;have au:=al.Ym i ops[i] (by simp[hi]) e aO k;rcases h with h|⟨b,g,f⟩
  omega;have:=c e.on au b j g a f;omega
def FF(ops:Array Oper)(D:Nat->Bool):Prop:=∀i o,ops[i]? =some o->D i=true->∀e∈o.after.toList,Region.binds .any e=true->D e.on=true
theorem rM.Ze{ay:Nat}{ops:Array Oper}{rs:List fQ}(al:rM ay ops rs){D:Nat->Bool}(f:FF ops D):∀(i:Nat) (d:fQ) (j:Nat),rs[i]? =some d->D i=true->j<ops.size->d.pre.testBit j=true->D j=true:=by
 intro i;induction i using Nat.strongRecOn with
 |_ i k=>
  intro d j hd l a A;have hi:i<ops.size:=by rw[←al.len];exact(k2.1 hd).1
  obtain⟨e,aO,c,h⟩:=al.pre i ops[i] d j (by simp[hi]) hd a A;have au:=al.Ym i ops[i] (by simp[hi]) e aO c;have b:=f i ops[i] (by simp[hi]) l e aO c;rcases h with h|⟨g,n,m⟩
  exact h▸b;exact k e.on au g j n b a m
def HE(D:Nat->Bool):List fQ->List ic->Nat->S->S
 |d::l,eF::tr,i,s=>HE D l tr (i+1) (if D i=true then ps d.r.dst eF.val s else s)
 |_,_,_,s=>s
theorem ZS{D:Nat->Bool}{t:Nat}(ai:t<256):∀{rs:List fQ} {tr:List ic} {i:Nat} {s:S},(∀d∈rs,∀u,d.r.dst=some u->u<256)->g t (HE D rs tr i s)=rk D rs tr i t (g t s)
 |[],_,_,_,_=>rfl
 |_::_,[],_,_,_=>rfl
 |d::l,eF::tr,i,s,h=>by
  simp only[HE,rk]
  rw[ZS ai fun b c=>h b (jD _ c)]
  congr 1
  by_cases a:D i=true
  ·rw[co a,aj6 ai (h d ao)];simp[a]
  ·rw[bs a];simp[a]
theorem cZ.insert{ρ:cd}{σ:b6}{h:aw}(r:cZ ρ σ h w){p:nB}{x:eC}(ag:σ b=some p)(u:kn ρ σ p w.heap[p.aY]? x)(k:¬lw σ h p.aY)(t:b<eB): cZ ρ σ (h.c' b (some x)) w:=by
 have s:=fun j=>aw.vp h b j (some x) t;refine⟨fun j y a=>?_,fun j i y o q n a c d f l=>?_,fun j a=>r.j9 j a⟩;rw[s]at a;by_cases e:j=b;subst e;rw[co rfl]at a;cases a;exact⟨p,ag,u⟩;rw[bs e]at a;exact r.aY j y a;rw[s]at a c;by_cases e:j=b;subst e;rw[bs (h8 l)]at c;rw[ag]at d;cases d;intro g;exact k ⟨i,o,n,c,f,g.symm⟩;rw[bs e]at a;by_cases m:i=b;subst m;rw[ag]at f;cases f;intro g;exact k ⟨j,y,q,a,d,g⟩;rw[bs m]at c;exact r.inj j i y o q n a c d f l
theorem lw.c'{σ:b6}{h:aw}{x:eC}{r:Nat}(d:b<eB)(f:lw σ (h.c' b (some x)) r):lw σ h r∨ ∃p,σ b=some p/\p.aY=r:=by
 obtain⟨j,y,p,a,ag,c⟩:=f;rw[aw.vp h b j (some x) d]at a;by_cases e:j=b;subst e;exact .inr ⟨p,ag,c⟩;rw[bs e]at a;exact .inl ⟨j,y,p,a,ag,c⟩
theorem cZ.wX{ρ:cd}{σ:b6}{w:World}:∀{l:List su} {h:aw},cZ ρ σ h w->l.Pairwise (fun a b=>a.1≠b.1)->(∀q∈l,q.2.1<eB)->
  (∀q∈l,∃p,σ q.2.1=some p/\kn ρ σ p w.heap[p.aY]? q.2.2/\¬lw σ h p.aY)->
  (∀q∈l,∀x∈l,q.1≠x.1->∀p e,σ q.2.1=some p->σ x.2.1=some e->p.aY≠e.aY)->
  cZ ρ σ (cv.wX h l) w/\(cv.wX h l).nx=h.nx/\∀r,lw σ (cv.wX h l) r->lw σ h r∨ ∃q∈l,∃p,σ q.2.1=some p/\p.aY=r
 |[],h,k,_,_,_,_=>⟨k,rfl,fun r n=>.inl n⟩
 |q::l,h,k,m,u,t,hi=>by
  rw[Rr]at m
  obtain⟨p,ag,n,C⟩:=t q ao
  have j:=u q ao
  have H:=k.insert ag n C j
  obtain⟨a,b,c⟩:=cZ.wX (l:=l) H m.2 (fun af d=>u af (jD _ d))
   (fun af d=>by
    obtain⟨e,g,y,B⟩:=t af (jD _ d)
    refine⟨e,g,y,fun i=>?_⟩
    rcases i.c' j with i|⟨o,s,aO⟩
    ·exact B i
    ·exact hi q ao af (jD _ d) (m.1 af d) o e s g aO)
   (fun af d A z=>hi af (jD _ d) A (jD _ z))
  refine⟨a,b,fun r f=>?_⟩
  rcases c r f with f|⟨af,d,e,g,aO⟩
  ·rcases f.c' j with f|⟨o,s,aO⟩
   ·exact .inl f
   ·exact .inr ⟨q,ao,o,s,aO⟩
  ·exact .inr ⟨af,jD _ d,e,g,aO⟩
structure oz (P:Program) (ρ:cd) (ay:Nat) (ops:Array Oper) (rs:List fQ) (tr:List ic) (bP:S) (bm ae:aw) (oX:b6) (jB:World)
  (D:Nat->Bool) (σ:b6) (a:Array Value) (w:World):Prop where
 rT:FF ops D
 Gi:∀i,ops.size<=i->D i=false
 lJ:a.size=ay
 dj:∀t,t<ay->aN ρ σ (rk D rs tr 0 t (g t bP))=some (a.getD t undef)
 ag:∃bZ cp,jz rs tr 0=bZ++cp/\(∀y∈bZ,D y.1=true)/\(∀y∈cp,D y.1=false)/\cZ ρ σ (r6 ae bZ) w/\ae.nx<=(r6 ae bZ).nx/\
  (∀(j b:Nat) (x:eC) (v:O),tr[j]? =some (.kw b x v)->D j=true->(∀y∈bZ,y.2.1.testBit j=false)->
   ∃p,σ b=some p/\p.aY<w.heap.size/\jB.heap.size<=p.aY/\kn ρ σ p w.heap[p.aY]? x/\¬lw σ (r6 ae bZ) p.aY)/\
  (∀(j fZ b c6:Nat) (x c7:eC) (v d_:O) (p bR:nB),tr[j]? =some (.kw b x v)->tr[fZ]? =some (.kw c6 c7 d_)->j≠fZ->D j=true->D fZ=true->(∀y∈bZ,y.2.1.testBit j=false)->(∀y∈bZ,y.2.1.testBit fZ=false)->
   σ b=some p->σ c6=some bR->p.aY≠bR.aY)/\
  (∀r,lw σ (r6 ae bZ) r->jB.heap.size<=r∨lw oX bm r)
 CL:∀(j b:Nat) (x:eC) (v:O),tr[j]? =some (.kw b x v)->D j=false->σ b=none
 yr:kA P σ
 ext:mw oX σ
 ee:∀b,oX b=none->σ b≠none->bm.nx<=b
 size:jB.heap.size<=w.heap.size
 kept:∀r,r<jB.heap.size->¬lw oX bm r->w.heap[r]? =jB.heap[r]?
 os:w.os=jB.os
 output:w.output=jB.output
 tape:w.tape=jB.tape
section
variable {P:Program} {ρ:cd} {ay:Nat} {ops:Array Oper} {rs:List fQ} {tr:List ic} {bP:S} {bm ae:aw} {oX:b6} {jB:World}
abbrev r'(D:Nat->Bool)(i:Nat):Nat->Bool:=fun j=>D j||j==i
theorem oo(D:Nat->Bool){j:Nat}(h:j≠i):r' D i j=D j:=by
 have:(j==i)=false:=by simpa using h
 simp[r',this]
variable{o:Oper}
theorem YK(c:FF ops D)(f:ops[i]? =some o)(g:∀e∈o.after.toList,Region.binds .any e=true->D e.on=true):FF ops (r' D i):=by
 intro j d a b e aO A;by_cases aj:j=i;subst aj;rw[f]at a;cases a;simp[r',g e aO A];rw[oo D aj]at b;simp[r',c j d a b e aO A]
theorem Zd(hd:∀i,ops.size<=i->D i=false)(b:ops[i]? =some o):∀j,ops.size<=j->r' D i j=false:=by
 intro j a;have hi:i<ops.size:=(g6.1 b).1;rw[oo D z];exact hd j a
theorem Er{D:Nat->Bool}(al:rM ay ops rs)(c:FF ops D){i j:Nat}{d a:fQ}{t:Nat}(hd:rs[i]? =some d)(b:rs[j]? =some a)(ai:a.r.dst=some t)(au:i<j)(f:D i=false) (e:t∈d.slots∨d.r.dst=some t):D j=false:=by
 have:=al.aiS i j d a t hd b ai z e;rw[bs z]at this;cases g:D j with
 |false=>rfl
 |true=>
  have hi:i<ops.size:=by rw[←al.len];exact(k2.1 hd).1
  have:=al.Ze c j a i b g hi this;rw[f]at this;cases this
variable{eF:ic}{a:Array Value}{c:Value}
theorem aed(al:rM ay ops rs)(n:FF ops D){d:fQ}(hd:rs[i]? =some d)(x:tr[i]? =some eF)(m:d.r.dst=o.dst)(w:D i=false) {σ:b6}(l:a.size=ay)(r:∀t,t<ay->aN ρ σ (rk D rs tr 0 t (g t bP))=some (a.getD t undef))(J:aN ρ σ eF.val=some c):∀t,t<ay->aN ρ σ (rk (r' D i) rs tr 0 t (g t bP))=some ((q3 o.dst c a).getD t undef):=by
 intro t ai;by_cases e:d.r.dst=some t
 ·rw[ani (k:=i) hd x e (by simp[r']) fun j s au b f=>by
   rw[gP,oo D z]
   exact Er al n hd b f au w (.inr e),J]
  rw[←m,e];simp[q3,Array.getD,l,ai]
 ·rw[Uy (D':=D) fun j s b f=>by
   rw[gP]
   refine oo D fun aj=>?_
   subst aj
   rw[hd]at b;cases b
   exact e f,r t ai]
  rw[←m];cases q:d.r.dst with
  |none=>rfl
  |some u=>have:u≠t:=fun aj=>e (by rw[q,aj]);simp[q3,Array.getD,l,ai,V4,this]
theorem oz.aqz{σ:b6}(al:rM ay ops rs)(v:oz P ρ ay ops rs tr bP bm ae oX jB D σ a w){d:fQ}(r:ops[i]? =some o)(hd:rs[i]? =some d)(n:tr[i]? =some eF) (yA:d.r.dst=o.dst)(W:D i=false)(Z:∀e∈o.after.toList,Region.binds .any e=true->D e.on=true)(M:∀b x u,eF≠ .kw b x u)(L:∀u C ml,eF≠ .J u C ml)(J:aN ρ σ eF.val=some c): oz P ρ ay ops rs tr bP bm ae oX jB (r' D i) σ (q3 o.dst c a) w:=by
 obtain⟨bZ,cp,H,I,Q,N,R,X,V,Y⟩:=v.ag;have q:∀y∈jz rs tr 0,y.1≠i:=fun y l e=>by obtain⟨k,dJ,d_,C,aj,aF,s,_⟩:=DY l;have:k=i:=z;subst this;rw[n]at s;cases s;exact L _ _ _ rfl
 have m:∀(j b:Nat) (x:eC) (u:O),tr[j]? =some (.kw b x u)->j≠i:=fun j b x u f e=>by subst e;rw[n]at f;cases f;exact M _ _ _ rfl
 refine {v with rT:=YK v.rT r Z,Gi:=Zd v.Gi r,lJ:=?_,dj:=aed al v.rT hd n yA W v.lJ v.dj J,ag:=?_,CL:=?_};have:=v.lJ;cases o.dst<;>simp[q3,this];refine⟨bZ,cp,H,fun y l=>?_,fun y l=>?_,N,R,fun j b x u f g K=>?_,fun j B b t x A u F p T f E U g G=>?_,Y⟩;rw[oo D (q y (by rw[H];simp[l]))];exact I y l;rw[oo D (q y (by rw[H];simp[l]))];exact Q y l;rw[oo D (m j b x u f)]at g;exact X j b x u f g K;rw[oo D (m j b x u f)]at g;rw[oo D (m B t A F E)]at G;exact V j B b t x A u F p T f E U g G;intro j b x u f g;rw[oo D (m j b x u f)]at g;exact v.CL j b x u f g
end
theorem cZ.lt{ρ:cd}{σ:b6}{h:aw}(r:cZ ρ σ h w){x:eC}(A:h.cR b=some x):∃p,σ b=some p/\p.aY<w.heap.size/\kn ρ σ p w.heap[p.aY]? x:=by
 obtain⟨p,ag,a⟩:=r.aY b x A;refine⟨p,ag,afj fun c=>?_,a⟩;rw[V2 c]at a;cases x<;>simp[kn]at a
variable{k:Nat}
theorem cZ.aGl{ρ:cd}{σ:b6}{h:aw}(r:cZ ρ σ h w)(c:lw σ h k):k<w.heap.size:=by
 obtain⟨b,x,p,H,I,rfl⟩:=c;obtain⟨q,a,au,_⟩:=r.lt H;rw[I]at a;cases a;exact au
theorem cZ.push{ρ:cd}{σ:b6}{h:aw}(r:cZ ρ σ h w)(A:σ b=none)(au:b<h.nx){p:nB}: cZ ρ (dZ σ b p) h {w with heap:=w.heap.push obj,drawn:=d}:=by
 have f:∀j y,h.cR j=some y->j≠b:=fun j y a e=>by subst e;obtain⟨q,c,_⟩:=r.aY j y a;rw[A]at c;cases c
 refine⟨fun j y a=>?_,fun j g y l q s a i c k n=>?_,fun j a=>?_⟩
 ·obtain⟨q,c,m,o⟩:=r.lt a;refine⟨q,by simp[dZ,f j y a,c],?_⟩;have:({w with heap:=w.heap.push obj,drawn:=d}:World).heap[q.aY]? =w.heap[q.aY]? :=by simp[Q1,wK m]
  rw[this];exact o.ext (.c' A)
 simp only[dZ,bs (f j y a)]at c;simp only[dZ,bs (f g l i)]at k;exact r.inj j g y l q s a i c k n;rw[dZ,bs z];exact r.j9 j a
theorem lw.ac1{ρ:cd}{σ:b6}{h:aw}(r:cZ ρ σ h w)(A:σ b=none){p:nB}(d:lw (dZ σ b p) h k):lw σ h k:=by
 obtain⟨j,y,q,c,a,e⟩:=d;have:j≠b:=fun e=>by subst e;obtain⟨q,a,_⟩:=r.aY j y c;rw[A]at a;cases a
 rw[dZ,bs this]at a;exact⟨j,y,q,c,a,e⟩
theorem arK{g:Type}{D:g->Bool}:∀{bZ cp c B:List g} {x:g},bZ++cp=c++x::B->(∀y∈bZ,D y=true)->(∀y∈cp,D y=false)->(∀y∈c,D y=true)->D x=false->bZ=c/\cp=x::B
 |[],cp,[],B,x,h,_,_,_,_=>⟨rfl,by simpa using h⟩
 |[],cp,a::c,B,x,h,_,I,f,_=>by
  simp at h
  have i:=I a (by rw[h];simp)
  rw[f a ao]at i;cases i
 |b::bZ,cp,[],B,x,h,H,_,_,d=>by
  simp at h
  obtain⟨rfl,_⟩:=h
  rw[H b ao]at d;cases d
 |b::bZ,cp,a::c,B,x,h,H,I,f,d=>by
  simp at h
  obtain⟨rfl,h⟩:=h
  obtain⟨aj,j⟩:=arK h (fun y e=>H y (jD _ e)) I (fun y e=>f y (jD _ e)) d
  exact⟨by rw[aj],j⟩
section
variable {P:Program} {ρ:cd} {ay:Nat} {ops:Array Oper} {rs:List fQ} {tr:List ic} {bP:S} {bm ae:aw} {oX:b6} {jB:World}
structure Jc (tr:List ic) (eh hi:Nat):Prop where
 eh:∀(j b:Nat) (x:eC) (v:O),tr[j]? =some (.kw b x v)->eh<=b
 hi:∀(j b:Nat) (x:eC) (v:O),tr[j]? =some (.kw b x v)->b<hi
 inj:∀(j fZ b:Nat) (x c7:eC) (v d_:O),tr[j]? =some (.kw b x v)->tr[fZ]? =some (.kw b c7 d_)->j=fZ
theorem oz.alloc{D:Nat->Bool}{σ:b6}{a:Array Value}{w:World}(al:rM ay ops rs)(nm:Jc tr bm.nx ae.nx)(v:oz P ρ ay ops rs tr bP bm ae oX jB D σ a w){i:Nat}{o:Oper}{d:fQ}{b:Nat}{x:eC}{u:O}(bU:ops[i]? =some o)(hd:rs[i]? =some d)(s:tr[i]? =some (.kw b x u)) (yA:d.r.dst=o.dst)(eJ:D i=false)(jo:∀e∈o.after.toList,Region.binds .any e=true->D e.on=true){obj:Obj}{tot dB:Nat}{c:Value} (J:aN ρ (dZ σ b ⟨w.heap.size,0,tot⟩) u=some c)(dO:kn ρ (dZ σ b ⟨w.heap.size,0,tot⟩) ⟨w.heap.size,0,tot⟩ (some obj) x): oz P ρ ay ops rs tr bP bm ae oX jB (r' D i) (dZ σ b ⟨w.heap.size,0,tot⟩) (q3 o.dst c a) {w with heap:=w.heap.push obj,drawn:=dB}:=by
 obtain⟨bZ,cp,H,I,ah,L,b3,fM,e8,ff⟩:=v.ag;have A:σ b=none:=v.CL i b x u s eJ;have G:mw σ (dZ σ b ⟨w.heap.size,0,tot⟩):=.c' A;have PT:∀y∈jz rs tr 0,y.1≠i:=fun y B e=>by obtain⟨k,dJ,N,gc,aj,aF,bq,_⟩:=DY B;have:k=i:=z;subst this;rw[s]at bq;cases bq
 have Kd:b<(r6 ae bZ).nx:=iK (nm.hi i b x u s) b3;have old:∀(j f:Nat) (l:eC) (N:O),tr[j]? =some (.kw f l N)->j≠i->f≠b:=fun j f l N g C e=>by subst e;exact C (nm.inj j i f l x N u g s)
 refine {rT:=YK v.rT bU jo,Gi:=Zd v.Gi bU,lJ:=?_,dj:=aed al v.rT hd s yA eJ v.lJ (fun t ai=>BZ G (v.dj t ai)) J,ag:=?_,CL:=?_,yr:=v.yr.ext G,ext:=v.ext.trans G,ee:=?_,size:=?_,kept:=?_,os:=v.os,output:=v.output,tape:=v.tape}
 ·have:=v.lJ;cases o.dst<;>simp[q3,this]
 ·refine⟨bZ,cp,H,fun y B=>?_,fun y B=>?_,L.push A Kd,b3,fun j f l n g m K=>?_,fun j R Y W dN dk u1 u2 p X g M C m T K mO ag Q=>?_,fun r V=>ff r (V.ac1 L A)⟩
  ·rw[oo D (PT y (by rw[H];simp[B]))];exact I y B
  ·rw[oo D (PT y (by rw[H];simp[B]))];exact ah y B
  ·by_cases e:j=i
   ·subst e;rw[s]at g;cases g;refine⟨⟨w.heap.size,0,tot⟩,by simp[dZ],ao,v.size,by simpa using dO,fun U=>?_⟩;exact absurd (L.aGl (U.ac1 L A)) ao
   ·rw[oo D e]at m;obtain⟨p,F,E,ej,i9,l2⟩:=fM j f l n g m K;refine⟨p,G _ _ F,bz,ej,?_,fun U=>l2 (U.ac1 L A)⟩;have:({w with heap:=w.heap.push obj,drawn:=dB}:World).heap[p.aY]? =w.heap[p.aY]? :=by simp[Q1,wK E]
    rw[this];exact i9.ext G
  ·have j9:∀(k f:Nat) (l:eC) (n:O) (q:nB),tr[k]? =some (.kw f l n)->k≠i->r' D i k=true->(∀y∈bZ,y.2.1.testBit k=false)->dZ σ b ⟨w.heap.size,0,tot⟩ f=some q->σ f=some q/\q.aY<w.heap.size:=fun k f l n q ad af Of ak aC=>by rw[oo D af]at Of;obtain⟨p,F,E,_⟩:=fM k f l n ad Of ak;rw[dZ,bs (old k f l n ad af),F]at aC;cases aC;exact⟨F,E⟩
   by_cases e:j=i
   ·subst e;rw[s]at g;cases g;simp only[dZ,co,cq]at ag;subst ag;obtain⟨_,E⟩:=j9 R W dk u2 X M (h8 C) T mO Q;simp;omega
   ·by_cases Z:R=i
    ·subst Z;rw[s]at M;cases M;simp only[dZ,co,cq]at Q;subst Q;obtain⟨_,E⟩:=j9 j Y dN u1 p g e m K ag;simp;omega
    ·obtain⟨F,_⟩:=j9 j Y dN u1 p g e m K ag;obtain⟨E,_⟩:=j9 R W dk u2 X M Z T mO Q;rw[oo D e]at m;rw[oo D Z]at T;exact e8 j R Y W dN dk u1 u2 p X g M C m T K mO F E
 ·intro j f l n g m;have C:j≠i:=fun e=>by subst e;simp[r']at m
  rw[oo D C]at m;rw[dZ,bs (old j f l n g C)];exact v.CL j f l n g m
 ·intro f N' qr;by_cases e:f=b
  ·subst e;exact nm.eh i f x u s
  ·rw[dZ,bs e]at qr;exact v.ee f N' qr
 ·have:=v.size;simp;omega
 ·intro r V xl;have:({w with heap:=w.heap.push obj,drawn:=dB}:World).heap[r]? =w.heap[r]? :=by have:=v.size;simp[Q1,show r≠w.heap.size by omega]
  rw[this];exact v.kept r V xl
end
end Go.cv
namespace Go.cv
open Go.Proofs.Tryz
section
variable {P:Program} {ρ:cd} {ay:Nat} {ops:Array Oper} {rs:List fQ} {tr:List ic} {bP:S} {bm ae:aw} {oX:b6} {jB:World}
variable{D:Nat->Bool}{i:Nat}{o:Oper}
theorem rM.Ss(al:rM ay ops rs)(f:FF ops D){d:fQ}(g:ops[i]? =some o)(hd:rs[i]? =some d)(b:∀e∈o.after.toList,Region.binds .any e=true->D e.on=true){j:Nat}(a:j<ops.size)(A:d.pre.testBit j=true):D j=true:=by
 obtain⟨e,aO,c,h⟩:=al.pre i o d j g hd a A;rcases h with h|⟨k,m,l⟩
 exact h▸b e aO c;exact al.Ze f e.on k j m (b e aO c) a l
variable{a:Array Value}{w:World}
theorem oz.arw{σ:b6}(al:rM ay ops rs)(s:tr.length=rs.length)(v:oz P ρ ay ops rs tr bP bm ae oX jB D σ a w){k:Nat}{bZ:List (Nat×Nat×aw)}(r:bZ=pT rs tr 0 k) (f:∀y∈bZ,y∈jz rs tr 0){q:su}(g:q∈nj rs tr 0 k []):∃u,tr[q.1]? =some (.kw q.2.1 q.2.2 u)/\q.1<k/\q.1<ops.size/\∀y∈bZ,y.2.1.testBit q.1=false:=by
 obtain⟨H,I⟩:=aqa ao g;rcases H with H|⟨m,u,j,e,ai⟩
 cases H
 ·have c:q.1=m:=z;rw[c];have d:m<ops.size:=by rw[←al.len,←s];exact(k2.1 ai).1
  refine⟨u,ai,j,d,fun y b=>?_⟩;by_cases au:m<y.1
  ·have:=I y (r▸b) z
   rwa [c]at this
  ·cases A:y.2.1.testBit m with
   |false=>rfl
   |true=>obtain⟨o,n,x,B,aj,i,t,l⟩:=DY (f y b);rw[l]at A;have:=al.lt o n m i d A;omega
theorem oz.sT{σ:b6}(al:rM ay ops rs)(vG:tr.length=rs.length)(nm:Jc tr bm.nx ae.nx)(AH:ae.nx<eB)(dK:bm.nx<=ae.nx)(Ce:BX (jz rs tr 0)=true) (v:oz P ρ ay ops rs tr bP bm ae oX jB D σ a w){d:fQ}{u:O}{F L:aw}(Q:ops[i]? =some o)(hd:rs[i]? =some d)(jL:tr[i]? =some (.J u F L)) (yA:d.r.dst=o.dst)(eJ:D i=false)(jo:∀e∈o.after.toList,Region.binds .any e=true->D e.on=true)(am:F=wX (sE tr i ae) ((nj rs tr 0 i []).filter fun q=>d.pre.testBit q.1)): cZ ρ σ F w/\∀(K:b6) (w':World) (c:Value),aN ρ K u=some c->cZ ρ K L w'->jF σ F w K L w'->oz P ρ ay ops rs tr bP bm ae oX jB (r' D i) K (q3 o.dst c a) w':=by
 obtain⟨bZ,cp,H,I,ah,aM,b3,T,e8,ff⟩:=v.ag;have hi:i<ops.size:=(g6.1 Q).1;obtain⟨B,G⟩:=alu (i:=0) hd jL;rw[gP]at G;obtain⟨Z3,au⟩:=aiz Ce G;have Pp:∀y∈jz rs tr 0,y.1<ops.size:=fun y aB=>by exact aoO
 have Ob:∀y∈pT rs tr 0 i,D y.1=true:=fun y aB=>al.Ss v.rT Q hd jo (Pp y (by rw[G];simp[aB])) (Z3 y aB);obtain⟨aj,aF⟩:=arK (D:=fun y:Nat×Nat×aw=>D y.1) (H.symm.trans G) I ah Ob eJ;have jy:r6 ae bZ=sE tr i ae:=by rw[aj];exact ab5 vG
 have av:∀y∈B,i<y.1:=fun y aB=>by obtain⟨fg,dJ,d_,TX,hL,Z,f3,xa⟩:=DY (show y∈jz rs tr 0 by rw[G];simp[aB]);have:=au y aB;rw[xa]at this;have:=al.lt fg dJ i Z hi this;omega
 have M:∀q∈(nj rs tr 0 i []).filter fun q=>d.pre.testBit q.1,∃u,tr[q.1]? =some (.kw q.2.1 q.2.2 u)/\D q.1=true/\d.pre.testBit q.1=true/\∀y∈bZ,y.2.1.testBit q.1=false:=fun q k=>by rw[IE]at k;obtain⟨g,bW,cD,a3,a4⟩:=v.arw al vG aj (fun y aB=>by rw[H];simp[aB]) k.1;exact⟨g,bW,al.Ss v.rT Q hd jo a3 k.2,k.2,a4⟩
 obtain⟨cn,dw,er⟩:=cZ.wX (l:=(nj rs tr 0 i []).filter fun q=>d.pre.testBit q.1) aM ((Hw ao .nil).filter _)
  (fun q k=>by obtain⟨g,bW,_⟩:=M q k;exact Wz (nm.hi _ _ _ _ bW) AH)
  (fun q k=>by
   obtain⟨g,bW,cD,a3,a4⟩:=M q k
   obtain⟨p,E,X,cw,nE,V⟩:=T _ _ _ _ bW cD a4
   exact⟨p,E,nE,V⟩)
  (fun q k gE i6 bT p N ag R=>by
   obtain⟨g,bW,cD,a3,a4⟩:=M q k
   obtain⟨ax,BQ,BR,az,X9⟩:=M gE i6
   exact e8 _ _ _ _ _ _ _ _ _ _ bW BQ bT cD BR a4 X9 ag R)
 rw[jy,←am]at cn dw er;refine⟨cn,fun K w' c J bK an=>?_⟩;have p2:∀r,lw σ F r->jB.heap.size<=r∨lw oX bm r:=fun r m=>by
  rcases er r m with m|⟨q,k,p,ag,e⟩;exact ff r (jy▸m);obtain⟨g,bW,cD,a3,a4⟩:=M q k;obtain⟨N,E,X,cw,nE,V⟩:=T _ _ _ _ bW cD a4;rw[ag]at E;cases E;exact .inl (e▸cw)
 have aq:ae.nx<=F.nx:=by rw[dw,←jy];exact b3
 have W:∀(j b:Nat) (x:eC) (g:O),tr[j]? =some (.kw b x g)->j≠i:=fun j b x g f e=>by subst e;rw[jL]at f;cases f
 have ar:∀(j b:Nat) (x:eC) (g:O) (p:nB),tr[j]? =some (.kw b x g)->D j=true->(∀y∈bZ,y.2.1.testBit j=false)->d.pre.testBit j=false->σ b=some p->¬lw σ (sE tr i ae) p.aY->¬lw σ F p.aY:=fun j b x g p f n C ap ag xl s=>by
  rcases er _ s with s|⟨q,k,N,R,e⟩;exact xl s;obtain⟨u2,bW,cD,a3,a4⟩:=M q k;refine e8 _ _ _ _ _ _ _ _ N p bW f (fun e=>?_) cD n a4 C R ag e;rw[e,ap]at a3;cases a3
 have ad:∀j,(∀y∈pT rs tr 0 i++[(i,d.pre,L)],y.2.1.testBit j=false)->(∀y∈bZ,y.2.1.testBit j=false)/\d.pre.testBit j=false:=fun j f=>⟨fun y aB=>f y (by rw[←aj];simp[aB]),f (i,d.pre,L) ao⟩;refine {rT:=YK v.rT Q jo,Gi:=Zd v.Gi Q,lJ:=?_,dj:=aed al v.rT hd jL yA eJ v.lJ (fun t ai=>BZ an.ext (v.dj t ai)) J,ag:=?_,CL:=?_,yr:=v.yr.ext an.ext,ext:=v.ext.trans an.ext,ee:=?_,size:=cO v.size an.size,kept:=?_,os:=an.os.trans v.os,output:=an.output.trans v.output,tape:=an.tape.trans v.tape};have:=v.lJ;cases o.dst<;>simp[q3,this]
 ·refine⟨pT rs tr 0 i++[(i,d.pre,L)],B,by rw[G];simp,fun y aB=>?_,fun y aB=>?_,?_,?_,fun j b x g f n C=>?_,fun j Y b c6 x c7 u1 u2 p N f gd bT n ys C mO ag R=>?_,fun r m=>?_⟩
  ·simp only[lo,o0]at aB;rcases aB with aB|rfl
   simp[r',Ob y aB];simp[r']
  have:=av y aB;rw[oo D z];exact ah y (by rw[aF];simp[aB]);rw[KO];exact bK;rw[KO];exact cO aq an.nx
  ·obtain⟨U,iH⟩:=ad j C;rw[oo D (W j b x g f)]at n;obtain⟨p,E,X,cw,nE,V⟩:=T j b x g f n U;rw[jy]at V;have gM:=ar j b x g p f n U iH E V;refine⟨p,an.ext _ _ E,iK X an.size,cw,?_,fun s=>?_⟩;rw[an.kept _ X gM];exact nE.ext an.ext
   ·rw[KO]at s;rcases an.p2 _ s with s|s
    omega;exact gM s
  obtain⟨U,_⟩:=ad j C;obtain⟨ak,_⟩:=ad Y mO;rw[oo D (W j b x u1 f)]at n;rw[oo D (W Y c6 c7 u2 gd)]at ys;obtain⟨q,E,_⟩:=T j b x u1 f n U;obtain⟨gE,af,_⟩:=T Y c6 c7 u2 gd ys ak;have hL:=an.ext _ _ E;have Z:=an.ext _ _ af;rw[ag]at hL;cases hL;rw[R]at Z;cases Z;exact e8 j Y b c6 x c7 u1 u2 p N f gd bT n ys U ak E af
  ·rw[KO]at m;rcases an.p2 r m with m|m
   exact .inl (cO v.size m);exact p2 r m
 ·intro j b x g f n;rw[oo D (W j b x g f)]at n;have A:=v.CL j b x g f n;cases C:K b with
  |none=>rfl
  |some p=>have:=an.ee b A (by simp[C]);have:=nm.hi j b x g f;omega
 ·intro b A fj;cases C:σ b with
  |none=>have:=an.ee b C fj;omega
  |some p=>exact v.ee b A (by simp[C])
 ·intro r m xl;rw[an.kept r (iK m v.size) fun s=>?_,v.kept r m xl];rcases p2 r s with h|h
  omega;exact xl h
theorem oz.r7{σ:b6}(al:rM ay ops rs)(n:yo ae (jz rs tr 0) rs tr 0=true) (v:oz P ρ ay ops rs tr bP bm ae oX jB D σ a w){d:fQ}{f:List O->aw->Option O}{aP:List O}{u:O}(g:ops[i]? =some o)(hd:rs[i]? =some d)(q:tr[i]? =some (.AU f aP u))(m:D i=false) (r:∀e∈o.after.toList,Region.binds .any e=true->D e.on=true):∃h,cZ ρ σ h w/\f aP h=some u:=by
 obtain⟨bZ,cp,H,I,l,k,s,x,t,z⟩:=v.ag;have hi:i<ops.size:=(g6.1 g).1;have c:=aiy n hd q;rw[gP,H]at c;have j:∀y∈jz rs tr 0,y.1<ops.size:=fun y aB=>by exact aoO
 refine⟨_,k,aix c (fun y aB=>?_) fun y aB=>?_⟩
 ·cases A:y.2.1.testBit i with
  |false=>rfl
  |true=>obtain⟨fg,dJ,d_,TX,aj,aF,bq,cI⟩:=DY (show y∈jz rs tr 0 by rw[H];simp[aB]);rw[cI]at A;have b:=I y aB;rw[aj,gP]at b;have:=al.Ze v.rT fg dJ i aF b hi A;rw[m]at this;cases this
 ·cases A:d.pre.testBit y.1 with
  |false=>rfl
  |true=>have:=al.Ss v.rT g hd r (j y (by rw[H];simp[aB])) A;rw[l y aB]at this;cases this
end
end Go.cv
namespace Go.cv
def C5(P:Program)(ρ:cd)(ay:Nat)(ops:Array Oper):List Oper->List fQ->Prop
 |[],[]=>True
 |o::l,r::m=>afD P ρ ay ops o r/\C5 P ρ ay ops l m
 |_,_=>False
theorem C5.at{P:Program}{ρ:cd}{ay:Nat}{ops:Array Oper}:∀{l:List Oper} {rs:List fQ},C5 P ρ ay ops l rs->rs.length=l.length/\∀{i:Nat} {o:Oper} {d:fQ},l[i]? =some o->rs[i]? =some d->afD P ρ ay ops o d
 |[],[],_=>⟨rfl,fun h=>by simp at h⟩
 |o::l,r::m,⟨h,t⟩=>by
  obtain⟨H,I⟩:=t.at
  refine⟨by simp[H],fun {i c b} a hd=>?_⟩
  cases i with
  |zero=>simp at a hd;subst a;subst hd;exact h
  |succ i=>simp at a hd;exact I a hd
 |[],_::_,h=>h.elim
 |_::_,[],h=>h.elim
theorem aEZ{rs:List fQ}{s:S}{m:aw}{rb:Nat}{tr:List ic}(h:∀(k:Nat) (d:fQ),rs[k]? =some d->∃eF,tr[k]? =some eF/\H_ d (pt rs tr k s) (sE tr k m) (nj rs tr 0 k []) (kK tr k rb)=some eF) (i:tr.length=rs.length){hi:Nat}(o:kK tr rs rb<=hi):Jc tr rb hi:=by
 have f:∀(j b:Nat) (x:eC) (v:O),tr[j]? =some (.kw b x v)->b=kK tr j rb/\j<rs.length:=fun j b x v a=>by
  have au:j<rs.length:=by rw[←i];exact(k2.1 a).1
  obtain⟨eF,H,I⟩:=h j rs[j] (by simp[au]);rw[a]at H;cases H;refine⟨?_,au⟩;unfold H_ at I;split at I;cases I;cases I;split at I;split at I<;>simp at I;split at I<;>simp at I;split at I;simp at I;exact I.1.symm;simp at I;split at I<;>simp at I
 refine⟨fun j b x v a=>?_,fun j b x v a=>?_,fun j c b x l v n a g=>?_⟩;rw[(f j b x v a).1];exact adl;obtain⟨e,au⟩:=f j b x v a;have H:=Vh (rb:=rb) a;have I:kK tr (j+1) rb<=kK tr rs rb:=Vg z;omega
 ·obtain⟨e,_⟩:=f j b x v a;obtain⟨q,_⟩:=f c b l n g;have H:=Vh (rb:=rb) a;have I:=Vh (rb:=rb) g;rcases WA j c with au|au|au
  have:kK tr (j+1) rb<=kK tr c rb:=Vg z;omega;exact au;have:kK tr (c+1) rb<=kK tr j rb:=Vg z;omega
section
variable {P:Program} {ρ:cd} {ay:Nat} {ops:Array Oper} {rs:List fQ} {tr:List ic} {bP:S} {bm ae:aw} {oX:b6} {jB:World}
theorem oz.step(sZ:C5 P ρ ay ops ops.toList rs)(al:rM ay ops rs)(K:ay<=256)(vG:tr.length=rs.length)(nm:Jc tr bm.nx ae.nx)(I:ae.nx<eB)(Z:bm.nx<=ae.nx)(J:BX (jz rs tr 0)=true)(ga:yo ae (jz rs tr 0) rs tr 0=true) (fv:∀(k:Nat) (d:fQ),rs[k]? =some d->∃eF,tr[k]? =some eF/\H_ d (pt rs tr k bP) (sE tr k ae) (nj rs tr 0 k []) (kK tr k bm.nx)=some eF) {D:Nat->Bool}{σ:b6}{a:Array Value}{w:World}(v:oz P ρ ay ops rs tr bP bm ae oX jB D σ a w){i:Nat}{o:Oper}(bU:ops[i]? =some o)(eJ:D i=false) (jo:∀e∈o.after.toList,Region.binds .any e=true->D e.on=true)(b:l9)(ds:List Deferred)(k:List Item)(cs:List Frame)(rest:List Nat):∃y a' w',oz P ρ ay ops rs tr bP bm ae oX jB (r' D i) y a' w'/\Steps P (lone (fr b a ds (.inRegion ops (i::rest)::k)) cs w) (lone (fr b a' ds (.inRegion ops rest::k)) cs w'):=by
 have hi:i<ops.size:=(g6.1 bU).1;have hd:∃d,rs[i]? =some d:=⟨rs[i]'(by rw[al.len];exact hi),by simp[al.len,hi]⟩;obtain⟨d,hd⟩:=hd;have w6:=sZ.at.2 (by rw[xU];exact bU) hd;obtain⟨eF,jL,l⟩:=fv i d hd;have B:∀q∈rs,∀u,q.r.dst=some u->u<256:=fun q mh u hu=>by obtain⟨j,s⟩:=Ft.1 mh;have:=al.dst j q u s hu;omega
 have G:nD ρ σ ay (HE D rs tr 0 bP) a:=⟨v.lJ,K,fun t ai=>by rw[ZS z B];exact v.dj t ai⟩;have H:∀t∈d.slots,g t (HE D rs tr 0 bP)=g t (pt rs tr i bP):=fun t ai=>by
  have ad:=al.aIS i d t hd ai;rw[ZS z B,ZR (i:=0) z B];refine Uy fun j q s E=>?_;simp only[gP];rcases WA j i with au|rfl|au
  ·have:=al.aiS i j d q t hd s E z (.inl ai);rw[co au]at this;have V:j<ops.size:=z;simp[al.Ss v.rT bU hd jo V this,au]
  ·simp[eJ]
  ·rw[Er al v.rT hd s E au eJ (.inl ai)];have:¬j<i:=z;simp[this]
 have T:mS d.r.aP (HE D rs tr 0 bP)=mS d.r.aP (pt rs tr i bP):=asq H w6.aP;have A:bY ρ σ (mS d.r.aP (pt rs tr i bP))=some (fW o a):=by rw[←T];exact w6.r.aP.aN v.yr G
 have na:N9 d.r (HE D rs tr 0 bP)=N9 d.r (pt rs tr i bP):=by
  unfold N9;cases an:d.r.guard with
  |none=>rfl
  |some U=>obtain⟨x,h5⟩:=U;simp only;rw[w6.d' x h5 an _ _ H]
 have F:∀t,N9 d.r (pt rs tr i bP)=some t->Region.wanted o (yielded ops a)=t:=fun t ai=>aeD w6.r G (by rw[←na]at ai;exact ai);unfold H_ at l;split at l
 ·cases l
 ·rename_i an;have dV:=F _ an;simp at l;subst l;have Y:=arO (P:=P) (b:=b) (a:=a) (ds:=ds) (k:=k) (cs:=cs) (w:=w) (ops:=ops) (i:=i) (rest:=rest) (by simp[bU,dV]);simp only[bU,C1]at Y;exact⟨σ,_,w,v.aqz al bU hd jL w6.r.dst eJ jo (fun _ _ _ h=>by cases h) (fun _ _ _ h=>by cases h) (NB ρ σ),.one Y⟩
 ·rename_i an;have dV:=F _ an;have m:=w6.r.op;split at l
  ·rename_i f n;rw[n]at m;split at l
   ·rename_i u hu;simp at l;subst l;obtain⟨c,Q,ab⟩:=m σ _ a w u v.yr A hu;exact aoi
   ·simp at l
  ·rename_i f n;rw[n]at m;split at l
   ·rename_i u hu;simp at l;subst l;obtain⟨W,C,N⟩:=v.r7 al ga bU hd jL eJ jo;obtain⟨c,Q,ab⟩:=m σ _ W a w u v.yr A C N;exact aoi
   ·simp at l
  ·rename_i f ret n;rw[n]at m;split at l
   ·rename_i x M;simp at l;subst l;obtain⟨obj,tot,dB,c,ab,Q,dO⟩:=m σ _ a w x _ v.yr A M (v.CL i _ _ _ jL eJ);obtain⟨fd,w',⟨rfl,rfl⟩,Y⟩:=Sr (R:=fun fd w'=>fd=c/\w'={w with heap:=w.heap.push obj,drawn:=dB}) (b:=b) (ds:=ds) (k:=k) (cs:=cs) (rest:=rest) bU dV w6.r.UZ (.inl ⟨c,_,ab,rfl,rfl⟩);exact⟨_,_,_,v.alloc al nm bU hd jL w6.r.dst eJ jo Q dO,Y⟩
   ·simp at l
  ·rename_i f n;rw[n]at m;split at l
   ·rename_i u ml hu;simp at l;subst l;obtain⟨C,O⟩:=v.sT al vG nm I Z J bU hd jL w6.r.dst eJ jo rfl;have X:=m σ _ _ a w u ml v.yr A C hu;obtain⟨c,w',⟨y,Q,mE,L⟩,Y⟩:=Sr (b:=b) (ds:=ds) (k:=k) (cs:=cs) (rest:=rest) bU dV w6.r.UZ X;exact⟨y,_,w',O y w' c Q mE L,Y⟩
   ·simp at l
theorem oz.run(x:C5 P ρ ay ops ops.toList rs)(al:rM ay ops rs)(h:ay<=256)(y:tr.length=rs.length)(nm:Jc tr bm.nx ae.nx)(f:ae.nx<eB)(o:bm.nx<=ae.nx)(g:BX (jz rs tr 0)=true)(t:yo ae (jz rs tr 0) rs tr 0=true) (s:∀(k:Nat) (d:fQ),rs[k]? =some d->∃eF,tr[k]? =some eF/\H_ d (pt rs tr k bP) (sE tr k ae) (nj rs tr 0 k []) (kK tr k bm.nx)=some eF) (b:l9)(ds:List Deferred)(k:List Item)(cs:List Frame):∀{c:List Nat} {D:Nat->Bool} {σ:b6} {a:Array Value} {w:World},Jg ops D c->oz P ρ ay ops rs tr bP bm ae oX jB D σ a w->∃D' e a' w',(∀i,i<ops.size->D' i=true)/\oz P ρ ay ops rs tr bP bm ae oX jB D' e a' w'/\Steps P (lone (fr b a ds (.inRegion ops c::k)) cs w) (lone (fr b a' ds k) cs w'):=by
 intro c D σ a w j v;induction j generalizing σ a w with
 |nil z=>exact⟨_,σ,a,w,z,v,.one arP⟩
 |cons m r u _ q=>obtain⟨B,bW,A,p,n⟩:=v.step x al h y nm f o g t s m r u b ds k cs _;obtain⟨D',e,a',w',H,I,l⟩:=q p;exact⟨D',e,a',w',H,I,n.trans l⟩
end
theorem aIC{P:Program}{ρ:cd}{ay:Nat}{B:l9->Prop}{id:Nat}{ops:Array Oper}{rs:List fQ}{f:Nat}(ap:P.follows .mixedOrders=true)(sZ:C5 P ρ ay ops ops.toList rs)(G:CG ay ops.toList rs=true): m4 P ρ ay B (.region id ops true) (NO rs f):=by
 intro σ x e c7 h b _ k cs a ds w c;have T:rs.length=ops.size:=by have:=sZ.at.1;simpa using this
 have al:=aJz T G;unfold NO at h;cases au:Nat.blt (x.h.nx+f) eB with
 |false=>simp[au]at h
 |true=>
  have L:x.h.nx+f<eB:=by simpa using au
  simp only[au,eP]at h;split at h
  ·rename_i tr gw bc F ur dG;obtain⟨A,e',hw,W,ma,Z⟩:=ajn dG;cases D:(Nat.ble ur (x.h.nx+f)&&(let N:=jz rs tr 0;BX N&&yo ⟨x.h.t,x.h.nx+f⟩ N rs tr 0))with
   |false=>rw[D]at h;simp at h
   |true=>
    rw[D]at h;simp only[eP,cq,iA]at h;obtain⟨rfl,rfl⟩:=h;simp only[dQ]at D;obtain⟨c1,c2,c3⟩:=D;have c1:ur<=x.h.nx+f:=hH c1;have nm:Jc tr x.h.nx (x.h.nx+f):=aEZ Z A (by rw[←ma];exact c1);have am:cZ ρ σ ⟨x.h.t,x.h.nx+f⟩ {w with drawn:=w.drawn+1}:=⟨c.h.aY,c.h.inj,fun j m=>c.h.j9 j (by simp at m;omega)⟩;have v0:oz P ρ ay ops rs tr x.s x.h ⟨x.h.t,x.h.nx+f⟩ σ {w with drawn:=w.drawn+1} (fun _=>false) σ a {w with drawn:=w.drawn+1}:=
     {rT:=fun _ _ _ h=>by cases h
      Gi:=fun _ _=>rfl
      lJ:=c.s.1
      dj:=fun t ai=>by
       rw[Uz fun _ _ _ _=>rfl]
       exact c.s.2.2 t ai
      ag:=⟨[],jz rs tr 0,rfl,(fun y n=>by cases n),(fun _ _=>rfl),am,aZ _,(fun _ _ _ _ _ h=>by cases h),(fun _ _ _ _ _ _ _ _ _ _ _ _ _ h=>by cases h),fun r o=>.inr o⟩
      CL:=fun j b x v m _=>c.h.j9 b (nm.eh j b x v m)
      yr:=c.g
      ext:=.refl _
      ee:=fun _ H I=>(I H).elim
      size:=aZ _
      kept:=fun _ _ _=>rfl
      os:=rfl
      output:=rfl
      tape:=rfl}
    obtain⟨D',cB,a',w',K,v,G⟩:=oz.run sZ al c.s.2.1 A nm L ao c2 c3 Z b ds k cs (aIh al.Ym (w.tape w.drawn (.order b.fn id))) v0;obtain⟨bZ,cp,H,I,ah,O,Q,J,e8,U⟩:=v.ag;have Pp:∀y∈jz rs tr 0,y.1<ops.size:=fun y n=>by obtain⟨fg,s,d_,TX,aj,aF,bq,cI⟩:=DY n;rw[←T];have:=(k2.1 aF).1;omega
    have t_:cp=[]:=by
     cases cp with
     |nil=>rfl
     |cons y l=>have R:=ah y ao;rw[K y.1 (Pp y (by rw[H];simp))]at R;cases R
    have af:jz rs tr 0=pT rs tr 0 rs:=by
     have:∀{rs:List fQ} {tr:List ic} {i:Nat},tr.length=rs.length->jz rs tr i=pT rs tr i rs:=by
      intro rs;induction rs with
      |nil=>intro tr i _;cases tr<;>rfl
      |cons d l e9=>
       intro tr i M;cases tr with
       |nil=>simp at M
       |cons eF tr=>have:=e9 (tr:=tr) (i:=i+1) (by simpa using M);cases eF<;>simp[jz,pT,this]
     exact this A
    have Y:bZ=pT rs tr 0 rs:=by rw[t_]at H;simp at H;rw[←H,af]
    have jy:r6 ⟨x.h.t,x.h.nx+f⟩ bZ=bc:=by rw[Y,ab5 A,hw]
    have C:∀q∈F,∃u,tr[q.1]? =some (.kw q.2.1 q.2.2 u)/\D' q.1=true/\∀y∈bZ,y.2.1.testBit q.1=false:=fun q g=>by rw[W]at g;obtain⟨u,bW,cD,a3,a4⟩:=v.arw al A Y (fun y n=>by rw[H];simp[n]) g;exact⟨u,bW,K _ a3,a4⟩
    rw[jy]at O Q J U;obtain⟨cn,dw,er⟩:=cZ.wX (l:=F) O (by rw[W];exact Hw ao .nil)
     (fun q g=>by obtain⟨u,bW,_⟩:=C q g;exact Wz (nm.hi _ _ _ _ bW) L)
     (fun q g=>by
      obtain⟨V,bW,cD,a4⟩:=C q g
      obtain⟨p,E,bQ,cw,X,tD⟩:=J _ _ _ _ bW cD a4
      exact⟨p,E,X,tD⟩)
     (fun q g gE i6 bT p F ag ev=>by
      obtain⟨V,bW,cD,a4⟩:=C q g
      obtain⟨an,BQ,BR,X9⟩:=C gE i6
      exact e8 _ _ _ _ _ _ _ _ _ _ bW BQ bT cD BR a4 X9 ag ev)
    have ON:∀s∈rs,∀u,s.r.dst=some u->u<256:=fun s mh u hu=>by obtain⟨j,m⟩:=Ft.1 mh;have:=al.dst j s u m hu;have:=c.s.2.1;omega
    refine⟨cB,a',ds,w',⟨⟨v.lJ,c.s.2.1,fun t ai=>?_⟩,cn,SS v.ext c.d,v.yr⟩,?_,?_⟩;have:=c.s.2.1;simp only[e'];rw[ZR (i:=0) z ON,←v.dj t ai];congr 1;refine Uy fun j s m _=>?_;have ak:=(k2.1 m).1;have Ar:=K j z;simp[Ar,ak]
    ·exact
      {ext:=v.ext
       ee:=v.ee
       nx:=by
          simp only[dw];have:x.h.nx<=x.h.nx+f:=z
          exact cO this Q
       size:=v.size
       kept:=v.kept
       p2:=fun r o=>by
        rcases er r o with o|⟨q,g,p,ag,e⟩
        ·exact U r o
        ·obtain⟨V,bW,cD,a4⟩:=C q g
         obtain⟨dy,E,bQ,cw,X,tD⟩:=J _ _ _ _ bW cD a4
         rw[ag]at E;cases E
         exact .inl (e▸cw)
       os:=v.os
       output:=v.output
       tape:=v.tape}
    ·have ad:Region.schedule (P.follows .mixedOrders) ops (w.tape w.drawn (.order b.fn id))=Region.schedule true ops (w.tape w.drawn (.order b.fn id)):=by rw[ap]
     refine .head aJq ?_;rw[ad];exact G
  simp at h
end Go.cv
namespace Go.cv
open Go.Proofs.Tryz
def U4:Value->Option O
 |.int k n=>some (.int k n)
 |.bool b=>some (.bool b)
 |.string s=>some (.str (s.data.toList.map UInt8.toNat))
 |.pointer none=>some .rn
 |.slice none 0 0=>some .dH
 |.map none=>some .Eu
 |.nilFunc=>some .AW
 |.nilIface=>some .Hm
 |_=>none
def uk:List Value->Option (List O)
 |[]=>some []
 |v::l=>match U4 v,uk l with
  |some x,some y=>some (x::y)
  |_,_=>none
def ofValue:Value->Option O
 |.agg cs=>(uk cs.toList).map .agg
 |.tuple cs=>(uk cs.toList).map .tup
 |v=>U4 v
theorem awV(s:ByteArray):eU (s.data.toList.map UInt8.toNat)=s:=by
 unfold eU;rw[LU];have:(UInt8.ofNat∘UInt8.toNat)=id:=by funext x;simp
 rw[this];simp
theorem awm(l:List UInt8):(l.map UInt8.toNat).all (fun n=>n<256)=true:=by
 rw[h6];intro n a;obtain⟨b,_,rfl⟩:=nv.1 a;simpa using Rw b
variable{v:Value}
theorem apu{ρ:cd}{σ:b6}{x:O}(h:U4 v=some x):aN ρ σ x=some v:=by
 unfold U4 at h;split at h<;>cases h<;>simp[aN,awV,awm,-List.all_map]
theorem KW{ρ:cd}{σ:b6}:∀{l:List Value} {x:List O},uk l=some x->bY ρ σ x=some l
 |[],x,h=>by simp[uk]at h;subst h;rfl
 |v::l,x,h=>by
  simp only[uk]at h
  split at h
  ·rename_i a b aH A
   simp at h;subst h
   simp[bY,apu aH,KW A]
  ·simp at h
theorem apv{ρ:cd}{σ:b6}{x:O}(h:ofValue v=some x):aN ρ σ x=some v:=by
 unfold ofValue at h;split at h;exact aok;exact aok;exact apu h
def NE(v:O)(_:S):O:=v
def r_(ay a:Nat):Operand->Option (S->O)
 |.tmp t=>if t<ay then some (g t)else none
 |.const v=>match ofValue v with|some c=>some (NE c)|none=>none
 |.global i=>if i<a then some (NE (.iZ i 0))else none
 |.func f=>some (NE (.fn f [] []))
def EA(ay a:Nat):List Operand->Option (List (S->O))
 |[]=>some []
 |o::l=>match r_ ay a o,EA ay a l with
  |some x,some y=>some (x::y)
  |_,_=>none
theorem ac5{P:Program}{ρ:cd}{ay:Nat}{o:Operand}{x:S->O}(h:r_ ay P.globals.size o=some x):Se P ρ ay o x:=by
 intro σ s a an b;cases o with
 |tmp t=>
  simp only[r_]at h;split at h;cases h;exact b.2.2 t ‹_›
  ·cases h
 |const v=>
  simp only[r_]at h;split at h;cases h;exact apv ‹_›
  ·cases h
 |global i=>
  simp only[r_]at h;split at h;cases h;obtain⟨t,ai⟩:=an i ‹_›;simp[NE,aN,ai,ez]
  ·cases h
 |func f=>simp only[r_]at h;cases h;simp[NE,aN,bY,ez]
theorem apI{P:Program}{ρ:cd}{ay:Nat}:∀{l:List Operand} {aP:List (S->O)},EA ay P.globals.size l=some aP->ML P ρ ay l aP
 |[],aP,h=>by simp[EA]at h;subst h;trivial
 |o::l,aP,h=>by
  simp only[EA]at h
  split at h
  ·rename_i x y a b
   cases h
   exact⟨ac5 a,apI b⟩
  ·cases h
def EJ:List Operand->List Nat
 |[]=>[]
 |.tmp t::l=>t::EJ l
 |_::l=>EJ l
theorem apH{ay d:Nat}:∀{l:List Operand} {aP:List (S->O)},EA ay d l=some aP->∀{slots:List Nat},(∀t∈EJ l,t∈slots)->∀x∈aP,IP slots x
 |[],aP,h,_,_=>by simp[EA]at h;subst h;intro x a;cases a
 |o::l,aP,h,slots,c=>by
  simp only[EA]at h
  split at h
  ·rename_i x y a g
   cases h
   intro af b
   cases b with
   |head=>
    intro s j e
    cases o with
    |tmp t=>
     simp only[r_]at a
     split at a
     ·cases a;exact e t (c t (by simp[EJ]))
     ·cases a
    |const v=>
     simp only[r_]at a
     split at a
     ·cases a;rfl
     ·cases a
    |global i=>
     simp only[r_]at a
     split at a
     ·cases a;rfl
     ·cases a
    |func f=>simp only[r_]at a;cases a;rfl
   |tail _ b=>
    refine apH g (fun t ai=>c t ?_) af b
    cases o<;>simp[EJ,ai]
  ·cases h
variable{l:List Value}
theorem iT{ρ:cd}{σ:b6}{x:O}(h:bY ρ σ [x]=some l):∃c,aN ρ σ x=some c/\l=[c]:=by
 simp only[bY]at h;split at h;rename_i a b aH A;cases h;simp at A;subst A;exact⟨a,aH,rfl⟩;cases h
theorem qo{ρ:cd}{σ:b6}{x:O}{m:List O}(h:bY ρ σ (x::m)=some l):∃c r,aN ρ σ x=some c/\bY ρ σ m=some r/\l=c::r:=by
 simp only[bY]at h;split at h;rename_i a b aH A;cases h;exact⟨a,b,aH,A,rfl⟩;cases h
theorem lz{ρ:cd}{σ:b6}{x y:O}(h:bY ρ σ [x,y]=some l):∃c d,aN ρ σ x=some c/\aN ρ σ y=some d/\l=[c,d]:=by
 obtain⟨c,r,H,I,rfl⟩:=qo h;obtain⟨d,a,rfl⟩:=iT I;exact⟨c,d,H,a,rfl⟩
theorem YS{ρ:cd}{σ:b6}{x y af:O}(h:bY ρ σ [x,y,af]=some l):∃c d e,aN ρ σ x=some c/\aN ρ σ y=some d/\aN ρ σ af=some e/\l=[c,d,e]:=by
 obtain⟨c,r,H,I,rfl⟩:=qo h;obtain⟨d,e,b,a,rfl⟩:=lz I;exact⟨c,d,e,H,b,a,rfl⟩
section
variable {P:Program} {ρ:cd}
def Cy:List O->Option O
 |[x]=>some x
 |_=>none
theorem ao9{o:Oper}{x:Operand}(h:o.op=.move x∨o.op=.assign x):mA P ρ o Cy:=by
 intro σ s a w v an d J;unfold Cy at J;split at J
 ·cases J;obtain⟨c,b,aO⟩:=iT d;refine⟨c,b,?_⟩;rcases h with h|h<;>
  ·simp[fW,h,Op.operands]at aO;simp[execOp,h,aO]
 ·cases J
def Qc:List O->Option O
 |[.bool true,x,_]=>some x
 |[.bool false,_,y]=>some y
 |_=>none
variable{o:Oper}{x:Operand}
theorem aGL{y af:Operand}(h:o.op=.pick x y af):mA P ρ o Qc:=by
 intro σ s a w v an g J;unfold Qc at J;split at J;cases J;obtain⟨c,d,e,b,hd,aO,f⟩:=YS g;simp[fW,h,Op.operands]at f;obtain⟨rfl,rfl,rfl⟩:=f;simp only[aN,cq]at b;exact⟨_,hd,by simp[execOp,h,←b,asBool]⟩;cases J;obtain⟨c,d,e,b,hd,aO,f⟩:=YS g;simp[fW,h,Op.operands]at f;obtain⟨rfl,rfl,rfl⟩:=f;simp only[aN,cq]at b;exact⟨_,aO,by simp[execOp,h,←b,asBool]⟩;cases J
def Zx(i:Nat):List O->Option O
 |[.tup l]=>l[i]?
 |_=>none
theorem ay1{i:Nat}(h:o.op=.extract x i):mA P ρ o (Zx i):=by
 intro σ s a w v an e J;unfold Zx at J;split at J;obtain⟨c,b,d⟩:=iT e;simp[fW,h,Op.operands]at d;simp only[aN,iz]at b;obtain⟨cs,g,rfl⟩:=b;obtain⟨y,f,j⟩:=Ac g J;refine⟨y,j,?_⟩;simp[execOp,h,d,Instr.extract,f];cases J
def anF(f:FuncId)(n:Nat)(l:List O):Option O:=some (.fn f (l.take n) (l.drop n))
theorem aD_{f:FuncId}{first b:Array Operand}(h:o.op=.makeFunc (.func f) first b):mA P ρ o (anF f first.size):=by
 intro σ s a w v an c J;cases J;simp only[fW,h,Op.operands,Array.toList_append,xY]at c;have H:=tI first.size c;have I:=vj first.size c;have aj:(List.map (ez a) first.toList++List.map (ez a) b.toList).take first.size=List.map (ez a) first.toList:=by rw[List.take_left'];simp
 have d:(List.map (ez a) first.toList++List.map (ez a) b.toList).drop first.size=List.map (ez a) b.toList:=by rw[List.drop_left'];simp
 rw[aj]at H;rw[d]at I;refine⟨.func (.func f) (first.map (ez a)) (b.map (ez a)),by simp[aN,H,I];constructor<;>(apply xT;simp),?_⟩;simp[execOp,h,Instr.makeFunc]
def abK(t:TypeId):List O->Option O
 |[x]=>some (.iface t x)
 |_=>none
theorem aCD{t:TypeId}(h:o.op=.makeInterface t x){d:TypeDesc}(hu:P.underlying t=some d)(hd:∀i,d≠ .interface i):mA P ρ o (abK t):=by
 intro σ s a w v an f J;unfold abK at J;split at J
 ·cases J;obtain⟨c,e,b⟩:=iT f;simp[fW,h,Op.operands]at b;refine⟨.iface t c,by simp[aN,e],?_⟩;have g:(Instr.makeInterface t c).run P w=.ok (.iface t c) w:=by simp only[Instr.makeInterface,eZ,underlying,Fo,eW,hu,fJ]
  simp[execOp,h,b,g]
 cases J
end
end Go.cv
namespace Go.cv
def vW{a:Type}(n:Nat)(k:Nat->a):a:=match n with
 |0=>k 0
 |p+1=>k (Nat.succ p)
theorem Ba{a:Type}(n:Nat)(k:Nat->a):vW n k=k n:=by cases n<;>rfl
def QB{a:Type}(n:Int)(k:Int->a):a:=match n with
 |.ofNat m=>vW m fun m=>k (.ofNat m)
 |.negSucc m=>vW m fun m=>k (.negSucc m)
theorem ad4{a:Type}(n:Int)(k:Int->a):QB n k=k n:=by cases n<;>simp[QB,Ba]
def QC{b:Type}:List Nat->(List Nat->b)->b
 |[],k=>k []
 |a::l,k=>vW a fun a=>QC l fun l=>k (a::l)
theorem ad5{b:Type}:∀(l:List Nat) (k:List Nat->b),QC l k=k l
 |[],_=>rfl
 |a::l,k=>by simp[QC,Ba,ad5 l]
theorem awI{a b:Nat}(h:¬a<b):Nat.blt a b=false:=by
 cases A:Nat.blt a b with
 |false=>rfl
 |true=>exact absurd (by simpa using A) h
def X_:Int->Int->Int
 |.ofNat a,.ofNat b=>.ofNat (Nat.add a b)
 |a,b=>a+b
theorem awf(a b:Int):X_ a b=a+b:=by cases a<;>cases b<;>rfl
def VI:Int->Int->Int
 |.ofNat a,.ofNat b=>bif Nat.ble b a then .ofNat (Nat.sub a b)else .ofNat a- .ofNat b
 |a,b=>a-b
theorem ar0(a b:Int):VI a b=a-b:=by
 cases a<;>cases b<;>try rfl
 rename_i a b;simp only[VI];cases h:Nat.ble b a with
 |false=>rfl
 |true=>have:=hH h;show Int.ofNat (a-b)=Int.ofNat a-Int.ofNat b;simp;omega
def vM:Int->Int->Bool
 |.ofNat a,.ofNat b=>Nat.blt a b
 |a,b=>decide (a<b)
theorem Hg(a b:Int):vM a b=decide (a<b):=by
 cases a<;>cases b<;>try rfl
 rename_i a b;simp only[vM];by_cases h:a<b;rw[show Nat.blt a b=true by simpa using h];symm;simp[h];rw[awI h];symm;simp;omega
def w9:Int->Int->Bool
 |.ofNat a,.ofNat b=>Nat.beq a b
 |a,b=>decide (a=b)
theorem DF(a b:Int):w9 a b=decide (a=b):=by
 cases a<;>cases b<;>try rfl
 rename_i a b;simp only[w9];by_cases h:a=b;subst h;simp;rw[M' h];symm;simp;omega
def aeF(k:IntKind)(n:Int):Int:=match k,n with
 |.i64,.ofNat m=>bif Nat.ble m 9223372036854775807 then .ofNat m else IntKind.i64.wrap (.ofNat m)
 |k,n=>k.wrap n
theorem aLK(k:IntKind)(n:Int):aeF k n=k.wrap n:=by
 unfold aeF;split
 ·rename_i m;cases h:Nat.ble m 9223372036854775807 with
  |false=>rfl
  |true=>have:=hH h;symm;exact pw _ ⟨by simp only[Fr];omega,by simp only[Fr];omega⟩
 rfl
def yQ(k:IntKind)(n:Int):Option O:=QB (aeF k n) fun r=>some (.int k r)
theorem Pt(k:IntKind)(n:Int):yQ k n=some (.int k (k.wrap n)):=by simp[yQ,ad4,aLK]
def Uq(k:IntKind)(n:Int):Option O:=QB n fun r=>some (.int k r)
theorem amP(k:IntKind)(n:Int):Uq k n=some (.int k n):=by simp[Uq,ad4]
def xH:List Nat->List Nat->Bool
 |[],[]=>true
 |a::l,b::m=>Nat.beq a b&&xH l m
 |_,_=>false
theorem VG:∀(a b:List Nat),xH a b=decide (a=b)
 |[],[]=>by simp[xH]
 |[],_::_=>by simp[xH]
 |_::_,[]=>by simp[xH]
 |a::l,b::m=>by
  simp only[xH,VG l m]
  by_cases h:a=b
  ·subst h;simp
  ·rw[M' h];simp[h]
def kI(s:List Nat):Prop:=s.all (fun n=>n<256)=true
variable{s:List Nat}{c:Value}
theorem tJ{ρ:cd}{σ:b6}(h:aN ρ σ (.str s)=some c):kI s/\c=.string (eU s):=by
 simp only[aN]at h;split at h;cases h;exact⟨‹_›,rfl⟩;cases h
theorem aiR{ρ:cd}{σ:b6}(h:kI s):aN ρ σ (.str s)=some (.string (eU s)):=by
 simp only[aN];exact co h
theorem aiq(s:List Nat):(eU s).toList=s.map UInt8.ofNat:=by
 rw[Bm];simp[eU]
theorem P8{a:Nat}{l:List Nat}(h:kI (a::l)):a<256/\kI l:=by
 unfold kI at*;simpa using h
theorem anG:∀{a b:List Nat},kI a->kI b->a.map UInt8.ofNat=b.map UInt8.ofNat->a=b
 |[],[],_,_,_=>rfl
 |[],_::_,_,_,h=>by simp at h
 |_::_,[],_,_,h=>by simp at h
 |a::l,b::m,aH,A,h=>by
  obtain⟨e,f⟩:=P8 aH
  obtain⟨c,d⟩:=P8 A
  simp only[qO,p7]at h
  have aj:a=b:=by
   have:=hU UInt8.toNat h.1
   simpa[UInt8.toNat_ofNat,Bs e,Bs c]using this
  rw[aj,anG f d h.2]
theorem S6{a b:List Nat}(aH:kI a)(A:kI b):((eU a).toList==(eU b).toList)=xH a b:=by
 rw[VG,aiq,aiq];by_cases h:a=b;subst h;simp;have:¬a.map UInt8.ofNat=b.map UInt8.ofNat:=fun e=>h (anG aH A e);simp[h,this]
theorem aFE{a b:List Nat}(aH:kI a)(A:kI b):kI (a++b):=by
 unfold kI at*;simp only[List.all_append,aH,A,Bool.and_self]
theorem awT(a b:List Nat):eU a++eU b=eU (a++b):=by
 apply Ly;simp[eU,ByteArray.data_append]
theorem Ng(a:List Nat):(eU a).size=a.length:=by simp[eU,ByteArray.size]
def Na(op:BinOp)(k:IntKind)(a b:Int):Option O:=match op with
 |.add=>yQ k (X_ a b)
 |.sub=>yQ k (VI a b)
 |.mul=>yQ k (a*b)
 |.quo=>bif w9 b 0 then none else yQ k (a.tdiv b)
 |.rem=>bif w9 b 0 then none else Uq k (a.tmod b)
 |.eql=>some (.bool (w9 a b))
 |.neq=>some (.bool (!w9 a b))
 |.lss=>some (.bool (vM a b))
 |.leq=>some (.bool (!vM b a))
 |.gtr=>some (.bool (vM b a))
 |.geq=>some (.bool (!vM a b))
 |_=>none
def adN(op:BinOp)(k:IntKind)(a b:Int):Option O:=
 bif vM b 0 then none else match op with
 |.shl=>yQ k (a*2^(min b.toNat k.bits))
 |.shr=>Uq k (a.fdiv (2^(min b.toNat k.bits)))
 |_=>none
def Nb(op:BinOp)(a b:List Nat):Option O:=match op with
 |.add=>bif Nat.ble (a.length+b.length) 9223372036854775807 then QC (a++b) fun r=>some (.str r)else none
 |.eql=>some (.bool (xH a b))
 |.neq=>some (.bool (!xH a b))
 |_=>none
def Em:BinOp->Bool
 |.shl=>true
 |.shr=>true
 |_=>false
def tF(op:BinOp):List O->Option O
 |[.int k a,.int j b]=>bif Em op then adN op k a b else bif decide (k=j)then Na op k a b else none
 |[.str a,.str b]=>Nb op a b
 |_=>none
section
variable {P:Program} {ρ:cd}
variable{t:TypeId}{x y:Operand}{w:World}
theorem JP{op:BinOp}{a b:Value}(H:a≠ .nilIface∨b≠ .nilIface)(I:∀c d,¬(a=.agg c/\b=.agg d)): (eqGuard op t x y a b).run P w=.ok () w:=by
 unfold eqGuard;cases op<;>simp;all_goals(split<;>simp_all)
variable{k:IntKind}{v:O}
theorem awG{op:BinOp}{a b:Int}(d:Em op=false)(h:Na op k a b=some v):∃c,(∀σ,aN ρ σ v=some c)/\(binOp op t (.int k a) (.int k b)).run P w=.ok c w:=by
 cases op<;>simp only[Em,Bool.true_eq_false]at d<;>simp only[Na,Pt,amP,cq,reduceCtorEq]at h;case quo=>cases aA:w9 b 0<;>simp[aA]at h;exact ao4
 case rem=>cases aA:w9 b 0<;>simp[aA]at h;exact ao4
 all_goals
  subst h;refine⟨_,fun _=>rfl,?_⟩;first
   |simp[binOp,Op.intArith,awf];done
   |simp[binOp,Op.intArith,ar0];done
   |simp[binOp,Op.intArith];done
   |(simp[binOp,Op.intCmp,DF,Hg,-Int.not_lt];done)
   |(simp only[binOp,Op.intCmp,DF,Hg,ne_eq,aft,pz,fJ];congr 2;done)
   |(simp only[binOp,Op.intCmp,DF,Hg,ne_eq,aft,pz,fJ];congr 2;by_cases q:a=b<;>simp[q,bne]<;>done)
   |(simp only[binOp,Op.intCmp,DF,Hg,ne_eq,aft,pz,fJ];congr 2;rw[←decide_not];exact WF.2 z)
theorem aIz{op:BinOp}{t:TypeId}{k j:IntKind}{a b:Int}{v:O}{w:World}(e:Em op=true)(h:adN op k a b=some v):∃c,(∀σ,aN ρ σ v=some c)/\(binOp op t (.int k a) (.int j b)).run P w=.ok c w:=by
 unfold adN at h;cases A:vM b 0 with
 |true=>simp[A]at h
 |false=>
  rw[Hg]at A;have d:¬b<0:=by simpa using A
  have f:vM b 0=false:=by rw[Hg];exact A
  rw[f]at h;cases op<;>simp[Em]at e<;>simp[Pt,amP]at h;subst h;exact⟨_,fun _=>rfl,by simp[binOp,Op.shift,d]⟩;subst h;exact⟨_,fun _=>rfl,by simp[binOp,Op.shift,d]⟩
theorem awH{op:BinOp}{a b:List Nat}(aH:kI a)(A:kI b)(h:Nb op a b=some v):∃c,(∀σ,aN ρ σ v=some c)/\(binOp op t (.string (eU a)) (.string (eU b))).run P w=.ok c w:=by
 have f:binOp op t (.string (eU a)) (.string (eU b))=Op.stringOp op (eU a) (eU b):=by cases op<;>rfl
 rw[f];have aj:=S6 aH A;cases op<;>simp only[Nb,cq,reduceCtorEq]at h;case add=>
  cases d:Nat.ble (a.length+b.length) 9223372036854775807 with
  |false=>simp[d]at h
  |true=>have:=hH d;simp[d,ad5]at h;subst h;refine⟨_,fun σ=>aiR (aFE aH A),?_⟩;have e:IntKind.i64.max=9223372036854775807:=rfl;simp only[Op.stringOp,Ng,e];rw[bs z,awT];rfl
 all_goals
  subst h;exact⟨_,fun _=>rfl,by simp[Op.stringOp,aj]⟩
variable{o:Oper}
theorem aij{op:BinOp}{A:TypeId}(h:o.op=.binOp op t x y A):mA P ρ o (tF op):=by
 intro σ s a w v an n J;unfold tF at J;split at J
 ·rename_i k p j q;obtain⟨c,d,g,hd,b⟩:=lz n;simp[fW,h,Op.operands]at b;simp only[aN,cq]at g hd;obtain⟨H,I⟩:=b;rw[←g]at H;rw[←hd]at I;have i:(eqGuard op t x y (.int k p) (.int j q)).run P w=.ok () w:=JP (.inl ao) ao;cases l:Em op with
  |true=>rw[l]at J;obtain⟨r,e,f⟩:=aIz (P:=P) (ρ:=ρ) (t:=t) (j:=j) (w:=w) l J;exact⟨r,e σ,by simp[execOp,h,H,I,i,f]⟩
  |false=>
   rw[l]at J;simp only[jt]at J;by_cases m:k=j;subst m;simp at J;obtain⟨r,e,f⟩:=awG (P:=P) (ρ:=ρ) (t:=t) (w:=w) l J;exact⟨r,e σ,by simp[execOp,h,H,I,i,f]⟩;simp[m]at J
 obtain⟨c,d,g,hd,b⟩:=lz n;simp[fW,h,Op.operands]at b;obtain⟨z,rfl⟩:=tJ g;obtain⟨u,rfl⟩:=tJ hd;obtain⟨H,I⟩:=b;have i:∀p q,(eqGuard op t x y (.string p) (.string q)).run P w=.ok () w:=fun p q=>JP (.inl ao) ao;obtain⟨r,e,f⟩:=awH (P:=P) (ρ:=ρ) (t:=t) (w:=w) z u J;exact⟨r,e σ,by simp[execOp,h,H,I,i,f]⟩;cases J
def aem(op:UnOp):List O->Option O
 |[.int k n]=>match op with
  |.neg=>yQ k (VI 0 n)
  |.xor=>yQ k ((BitVec.ofInt k.bits (if k.signed then-1 else k.max)^^^BitVec.ofInt k.bits n).toNat)
  |_=>none
 |[.bool b]=>match op with
  |.not=>some (.bool (!b))
  |_=>none
 |_=>none
theorem aLk{op:UnOp}(h:o.op=.unOp op t x):mA P ρ o (aem op):=by
 intro σ s a w v an e J;unfold aem at J;split at J;obtain⟨c,d,b⟩:=iT e;simp[fW,h,Op.operands]at b;simp only[aN,cq]at d;rw[←d]at b;split at J;simp[Pt]at J;subst J;exact⟨_,rfl,by simp[execOp,h,b,Op.unary,Op.intArith,ar0]⟩;simp[Pt]at J;subst J;exact⟨_,rfl,by simp[execOp,h,b,Op.unary,Op.intBits]⟩;cases J;obtain⟨c,d,b⟩:=iT e;simp[fW,h,Op.operands]at b;simp only[aN,cq]at d;rw[←d]at b;split at J;cases J;exact⟨_,rfl,by simp[execOp,h,b,Op.unary]⟩;cases J;cases J
end
theorem zW(r o i:Nat):(⟨r,o,none⟩:Addr).add i=⟨r,o+i,none⟩:=by
 unfold Addr.add;split;rename_i h;subst h;rfl;rfl
theorem cZ.cells{ρ:cd}{σ:b6}{h:aw}{w:World}(r:cZ ρ σ h w){b:Nat}{elem:TypeId}{vs:List O}{c wr:Bool}(A:h.cR b=some (.cells elem vs c wr)):∃p arr bb cs,σ b=some p/\w.heap[p.aY]? =some (.cells arr elem bb)/\arr.size=p.del+p.tot/\vs.length<=p.tot/\(c=true->vs.length=p.tot/\p.del=0)/\bY ρ σ vs=some cs/\ (∀i,i<vs.length->w.cell? ⟨p.aY,p.del+i,none⟩=cs[i]?)/\(∀i,i<vs.length->arr[p.del+i]? =cs[i]?)/\ (wr=true->∀i,p.del<=i->i<arr.size->w.frozen? ⟨p.aY,i,none⟩=false):=by
 obtain⟨p,ag,arr,bb,H,I,e,d,⟨cs,f,a⟩,j⟩:=r.aY b _ A;refine⟨p,arr,bb,cs,ag,H,I,e,d,f,fun i hi=>?_,a,fun g i hi au=>?_⟩
 ·simp only[World.cell?,H];simpa using a i hi
 ·simp only[World.frozen?,H];have:=j g i hi au;obtain⟨eh,k⟩:=bb;simp at this⊢;exact this
theorem ard{P:Program}{w:World}(r o:Nat):∀(n i:Nat) (a:Array Value) (cs:List Value),cs.length=n->(∀j,j<n->w.cell? ⟨r,o+(i+j),none⟩=cs[j]?)->
  (loadCellsFrom ⟨r,o,none⟩ i n a).run P w=.ok (a++cs.toArray) w
 |0,i,a,cs,b,_=>by
  have:cs=[]:=LQ.1 b
  subst this
  simp[loadCellsFrom]
 |n+1,i,a,[],b,_=>by simp at b
 |n+1,i,a,c::cs,b,h=>by
  have ae:=h 0 z
  simp at ae
  rw[loadCellsFrom]
  simp only[eZ,zW,run_load,ae,eW]
  rw[ard r o n (i+1) (a.push c) cs (by simpa using b) fun j d=>by
   have:=h (j+1) z
   simpa[kN,tl 1 j]using this]
  simp
theorem Qq{P:Program}{w:World}(r o n:Nat)(cs:List Value)(a:cs.length=n)(h:∀j,j<n->w.cell? ⟨r,o+j,none⟩=cs[j]?): (loadCells ⟨r,o,none⟩ n).run P w=.ok cs.toArray w:=by
 unfold loadCells;rw[ard r o n 0 #[] cs a (by simpa using h)];simp
def O.cells:O->List O
 |.agg l=>l
 |v=>[v]
def vd:TypeDesc->Bool
 |.struct _=>true
 |.array _ _=>true
 |_=>false
theorem Vv{P:Program}{w:World}{t:TypeId}{d:TypeDesc}(hu:P.underlying t=some d):(isAgg t).run P w=.ok (vd d) w:=by
 simp only[isAgg,underlying,eZ,Fo,eW,hu,fJ];cases d<;>rfl
def Es(agg:Bool)(n:Nat):List O->aw->Option O
 |[.iZ b off],h=>match h.cR b with
  |some (.cells _ vs _ _)=>bif agg then(bif Nat.ble (off+n) vs.length then some (.agg ((vs.drop off).take n))else none)else vs[off]?
  |some (.aE _ vs)=>bif agg then(bif Nat.ble (off+n) vs.length then some (.agg ((vs.drop off).take n))else none)else vs[off]?
  |_=>none
 |_,_=>none
section
variable {P:Program} {ρ:cd}
theorem anz{o:Oper}{t:TypeId}{x:Operand}(h:o.op=.load t x){d:TypeDesc}{i:TypeInfo}(hu:P.underlying t=some d)(hi:P.info? t=some i): BH P ρ o (Es (vd d) i.size):=by
 intro σ s Q a w v an F G J;unfold Es at J;split at J
 ·rename_i b off;split at J
  ·rename_i elem vs S wr A;obtain⟨c,e,g⟩:=iT F;simp[fW,h,Op.operands]at g;simp only[aN,iz]at e;obtain⟨B,D,rfl⟩:=e;obtain⟨p,arr,bb,cs,ag,H,I,O,N,l,n,K,R⟩:=G.cells A;obtain rfl:p=B:=gQ (ag.symm.trans D);have m:=Vv (w:=w) hu;have C:(sizeOf t).run P w=.ok i.size w:=by simp[sizeOf,typeInfo,hi]
   generalize vd d=u at J m;have M:=m6 l;cases u with
   |true=>
    simp only[eP]at J;cases f:Nat.ble (off+i.size) vs.length with
    |false=>simp[f]at J
    |true=>
     have f:=hH f;rw[show Nat.ble (off+i.size) vs.length=true from Wx f]at J;simp only[eP,cq]at J;subst J;refine⟨.agg ((cs.drop off).take i.size).toArray,by simp[aN,tI i.size (vj off l)],?_⟩;have r:=Qq (P:=P) (w:=w) p.aY (p.del+off) i.size ((cs.drop off).take i.size) bz fun j y=>by rw[kN,n (off+j) z];simp[oZ,y]
     simp[execOp,h,g,Instr.loadAt,Instr.sureAddr,loadVar,m,C,r]
   |false=>simp only[jt]at J;obtain⟨c,e,E⟩:=Ac l J;have au:off<vs.length:=(k2.1 J).1;have q:=n off au;rw[e]at q;exact⟨c,E,by simp[execOp,h,g,Instr.loadAt,Instr.sureAddr,loadVar,m,q]⟩
  ·rename_i elem vs A;obtain⟨c,e,g⟩:=iT F;simp[fW,h,Op.operands]at g;simp only[aN,iz]at e;obtain⟨B,D,rfl⟩:=e;obtain⟨p,ag,cs,l,H,K⟩:=G.aY b _ A;obtain rfl:p=B:=gQ (ag.symm.trans D);have m:=Vv (w:=w) hu;have C:(sizeOf t).run P w=.ok i.size w:=by simp[sizeOf,typeInfo,hi]
   have M:=m6 l;have n:∀k,k<vs.length->w.cell? ⟨p.aY,p.del+k,none⟩=cs[k]? :=fun k L=>by simp only[World.cell?,H];exact K k L
   generalize vd d=u at J m;cases u with
   |true=>
    simp only[eP]at J;cases f:Nat.ble (off+i.size) vs.length with
    |false=>simp[f]at J
    |true=>
     have f:=hH f;rw[show Nat.ble (off+i.size) vs.length=true from Wx f]at J;simp only[eP,cq]at J;subst J;refine⟨.agg ((cs.drop off).take i.size).toArray,by simp[aN,tI i.size (vj off l)],?_⟩;have r:=Qq (P:=P) (w:=w) p.aY (p.del+off) i.size ((cs.drop off).take i.size) bz fun j y=>by rw[kN,n (off+j) z];simp[oZ,y]
     simp[execOp,h,g,Instr.loadAt,Instr.sureAddr,loadVar,m,C,r]
   |false=>simp only[jt]at J;obtain⟨c,e,E⟩:=Ac l J;have au:off<vs.length:=(k2.1 J).1;have q:=n off au;rw[e]at q;exact⟨c,E,by simp[execOp,h,g,Instr.loadAt,Instr.sureAddr,loadVar,m,q]⟩
  ·cases J
 ·cases J
end
def tb(c:Array Value)(o:Nat):List Value->Array Value
 |[]=>c
 |v::l=>tb (c.setIfInBounds o v) (o+1) l
theorem QA:∀(l:List Value) (c:Array Value) (o:Nat),(tb c o l).size=c.size
 |[],_,_=>rfl
 |v::l,c,o=>by simp[tb,QA l]
theorem Vz:∀(l:List Value) (c:Array Value) (o j:Nat),o+l.length<=c.size->(tb c o l)[j]? =if o<=j/\j<o+l.length then l[j-o]? else c[j]?
 |[],c,o,j,_=>by simp[tb];intro H I;omega
 |v::l,c,o,j,h=>by
  simp at h
  rw[tb,Vz l _ _ _ bz]
  by_cases H:j=o
  ·subst H
   rw[bs z,co ao]
   simp[Bk]
   omega
  ·by_cases I:o+1<=j/\j<o+1+l.length
   ·rw[co I,co bz]
    have:j-o=(j-(o+1))+1:=z
    rw[this];simp
   ·rw[bs I,bs bz]
    simp[Bk,h8 H]
def gO(w:World)(r:Nat)(o:Obj):World:={w with heap:=w.heap.setIfInBounds r o}
theorem aIo{w:World}{r o:Nat}{arr:Array Value}{elem:TypeId}{bb:Nat×Nat}{v:Value}(h:w.heap[r]? =some (.cells arr elem bb)):w.setCell ⟨r,o,none⟩ v=gO w r (.cells (arr.setIfInBounds o v) elem bb):=by
 unfold World.setCell gO;congr 1;have au:r<w.heap.size:=(g6.1 h).1;have aO:w.heap[r]=.cells arr elem bb:=(g6.1 h).2;apply Q0;intro i;by_cases e:i=r
 ·subst e;simp[Bk,au,Array.getElem_modify,aO]
 ·simp[V3,Bk,h8 e,e]
theorem aIt(w:World)(r:Nat)(a b:Obj):gO (gO w r a) r b=gO w r b:=by simp[gO]
theorem adI{w:World}{r:Nat}{o:Obj}(h:r<w.heap.size):(gO w r o).heap[r]? =some o:=by simp[gO,h]
theorem aIs{w:World}{r:Nat}{o:Obj}(h:w.heap[r]? =some o):gO w r o=w:=by
 unfold gO;have:w.heap.setIfInBounds r o=w.heap:=by
  apply Q0;intro i;by_cases e:i=r
  ·subst e;have au:i<w.heap.size:=(g6.1 h).1;simp[Bk,au];have:=(g6.1 h).2;exact this.symm
  ·simp[Bk,h8 e]
 rw[this]
theorem adx{P:Program}(r o:Nat)(elem:TypeId)(bb:Nat×Nat):∀(l:List Value) (i:Nat) (w:World) (arr:Array Value),w.heap[r]? =some (.cells arr elem bb)->(∀v∈l,xy v=true)->
  (∀j,j<l.length->o+(i+j)<arr.size/\¬(bb.1<=o+(i+j)/\o+(i+j)<bb.2))->
  (storeCells ⟨r,o,none⟩ l i).run P w=.ok () (gO w r (.cells (tb arr (o+i) l) elem bb))
 |[],i,w,arr,a,_,_=>by simp[storeCells,tb,aIs a]
 |v::l,i,w,arr,a,H,I=>by
  have au:r<w.heap.size:=(g6.1 a).1
  obtain⟨aH,b⟩:=I 0 ao
  simp only[h7]at aH b
  have c:v.oneCell'=true:=by
   have:=H v ao
   cases v<;>simp_all [xy,Value.oneCell']
  have f:w.cell? ⟨r,o+i,none⟩=some arr[o+i]:=by simp[World.cell?,a,aH]
  have g:w.frozen? ⟨r,o+i,none⟩=false:=by
   simp only[World.frozen?,a]
   obtain⟨eh,hi⟩:=bb
   simp at b⊢
   exact b
  have e:(store ⟨r,o+i,none⟩ v).run P w=.ok () (gO w r (.cells (arr.setIfInBounds (o+i) v) elem bb)):=by
   rw[run_store P w _ v _ c,f]
   simp only[g,qM,pz]
   rw[aIo a]
  rw[storeCells]
  simp only[eZ,zW,e,eW]
  rw[adx r o elem bb l (i+1) _ (arr.setIfInBounds (o+i) v) (adI au) (fun u hu=>H u (jD _ hu)) fun j d=>by
   have:=I (j+1) (by simpa using d)
   simpa[kN,tl 1 j]using this]
  rw[aIt,tb,kN]
def A9(vs:List O)(o:Nat)(l:List O):List O:=vs.take o++(l++vs.drop (o+l.length))
theorem cZ.put{ρ:cd}{σ:b6}{h:aw}{w:World}(r:cZ ρ σ h w){b:Nat}{p:nB}{d x:eC}(A:h.cR b=some d)(ag:σ b=some p)(u:b<eB){o:Obj}(au:p.aY<w.heap.size) (C:kn ρ σ p (some o) x):cZ ρ σ (h.c' b (some x)) (gO w p.aY o)/\jF σ h w σ (h.c' b (some x)) (gO w p.aY o):=by
 have i:=fun j=>aw.vp h b j (some x) u;have p1:∀j y q,j≠b->h.cR j=some y->σ j=some q->(gO w p.aY o).heap[q.aY]? =w.heap[q.aY]? :=fun j y q e a c=>by have:=r.inj j b y d q p a A c ag e;exact acn
 refine⟨⟨fun j y a=>?_,fun j n y J q E a F c G B=>?_,fun j a=>r.j9 j a⟩,?_⟩
 ·rw[i]at a;by_cases e:j=b
  ·subst e;rw[co rfl]at a;cases a;exact⟨p,ag,by rw[adI au];exact C⟩
  ·rw[bs e]at a;obtain⟨q,c,D⟩:=r.aY j y a;exact⟨q,c,by rw[p1 j y q e a c];exact D⟩
 ·have l:∀k af,(h.c' b (some x)).cR k=some af->∃g,h.cR k=some g:=fun k af f=>by
   rw[i]at f;by_cases e:k=b
   ·subst e;exact⟨d,A⟩
   ·rw[bs e]at f;exact⟨af,f⟩
  obtain⟨af,t⟩:=l j y a;obtain⟨g,s⟩:=l n J F;exact r.inj j n af g q E t s c G B
 ·refine⟨.refl _,fun _ H I=>(I H).elim,aZ _,by simp[gO],fun k f z=>?_,fun k ⟨j,y,q,a,c,e⟩=>?_,rfl,rfl,rfl⟩
  ·have:p.aY≠k:=fun e=>z ⟨b,d,p,A,ag,e⟩;simp[gO,Bk,this]
  ·rw[i]at a;by_cases m:j=b
   ·subst m;exact .inr ⟨j,d,q,A,c,e⟩
   ·rw[bs m]at a;exact .inr ⟨j,y,q,a,c,e⟩
def pX:O->Bool
 |.agg _=>false
 |.tup _=>false
 |_=>true
theorem amV{ρ:cd}{σ:b6}{v:O}{c:Value}(h:pX v=true)(a:aN ρ σ v=some c):xy c=true:=by
 cases v<;>simp[pX]at h<;>simp only[aN]at a;case str l=>split at a<;>cases a;rfl
 case fn f x y=>split at a<;>cases a;rfl
 case sym i=>split at a<;>cases a;assumption
 all_goals first
  |(cases a;rfl)
  |(simp only[iz]at a;obtain⟨q,_,rfl⟩:=a;rfl)
theorem Gd{ρ:cd}{σ:b6}:∀{l:List O} {cs:List Value},l.all pX=true->bY ρ σ l=some cs->∀c∈cs,xy c=true
 |[],cs,_,h,c,a=>by simp[bY]at h;subst h;cases a
 |v::l,cs,aH,h,c,a=>by
  obtain⟨x,r,H,I,rfl⟩:=qo h
  simp only[List.all_cons,dQ]at aH
  cases a with
  |head=>exact amV aH.1 H
  |tail _ a=>exact Gd aH.2 I c a
theorem YU{ρ:cd}{σ:b6}{v:O}{c:Value}(h:v.cells.all pX=true)(a:aN ρ σ v=some c):bY ρ σ v.cells=some c.cells.toList:=by
 cases v<;>simp only[O.cells]at h⊢;case agg l=>simp only[aN,iz]at a;obtain⟨x,b,rfl⟩:=a;simpa[Value.cells]using b
 case tup l=>simp[pX]at h
 all_goals
  have:=amV (by simpa using h) a;simp only[bY,a];cases c<;>simp[xy]at this<;>simp[Value.cells]
def ad2(n:Nat):List O->aw->Option (O×aw)
 |[.iZ b off,v],h=>match h.cR b with
  |some (.cells elem vs a true)=>
   bif Nat.beq v.cells.length n&&Nat.ble (off+n) vs.length&&v.cells.all pX&&Nat.blt b eB then
    some (ql,h.c' b (some (.cells elem (A9 vs off v.cells) a true)))else none
  |_=>none
 |_,_=>none
variable{vs l:List O}
theorem VA{o:Nat}(h:o+l.length<=vs.length):(A9 vs o l).length=vs.length:=by
 simp[A9];omega
variable{cs a:List Value}
theorem aiO{ρ:cd}{σ:b6}{o:Nat}(H:bY ρ σ vs=some cs)(I:bY ρ σ l=some a):bY ρ σ (A9 vs o l)=some (cs.take o++(a++cs.drop (o+l.length))):=
 Ab (tI o H) (Ab I (vj _ H))
theorem arJ{o j:Nat}(h:o+a.length<=cs.length):(cs.take o++(a++cs.drop (o+a.length)))[j]? =if o<=j/\j<o+a.length then a[j-o]? else cs[j]? :=by
 by_cases H:j<o;rw[bs z,CX bz];simp[oZ,H];rw[Fs bz];have e:(cs.take o).length=o:=bz;rw[e];by_cases I:j<o+a.length;rw[co z,CX z];rw[bs z,Fs z,LO];congr 1;omega
theorem cZ.aeG{ρ:cd}{σ:b6}{h:aw}{w:World}(r:cZ ρ σ h w){b:Nat}{elem:TypeId}{vs:List O}{d:Bool}(A:h.cR b=some (.cells elem vs d true))(t:b<eB){off:Nat}{l:List O}{a:List Value}(g:bY ρ σ l=some a) (f:off+l.length<=vs.length)(n:∀c∈a,xy c=true):∃p w',σ b=some p/\(∀(P:Program),(storeCells ⟨p.aY,p.del+off,none⟩ a).run P w=.ok () w')/\ cZ ρ σ (h.c' b (some (.cells elem (A9 vs off l) d true))) w'/\jF σ h w σ (h.c' b (some (.cells elem (A9 vs off l) d true))) w':=by
 obtain⟨p,arr,bb,cs,ag,H,I,s,o,k,F,B,C⟩:=r.cells A;have au:p.aY<w.heap.size:=(g6.1 H).1;have D:=m6 g;have G:=m6 k;have m:∀i,p.del<=i->i<arr.size->¬(bb.1<=i/\i<bb.2):=fun i hi au=>by have:=C rfl i hi au;simp only[World.frozen?,H]at this;obtain⟨eh,J⟩:=bb;simp at this⊢;exact this
 have x:∀(P:Program),(storeCells ⟨p.aY,p.del+off,none⟩ a).run P w=.ok () (gO w p.aY (.cells (tb arr (p.del+off) a) elem bb)):=fun P=>by have:=adx (P:=P) p.aY (p.del+off) elem bb a 0 w arr H n fun j E=>⟨z,m _ z z⟩;simpa using this
 have y:kn ρ σ p (some (.cells (tb arr (p.del+off) a) elem bb)) (.cells elem (A9 vs off l) d true):=by
  refine⟨_,bb,rfl,by rw[QA];exact I,by rw[VA f];exact s,fun ai=>by rw[VA f];exact o ai,⟨_,aiO k g,fun i hi=>?_⟩,fun _ i hi au=>?_⟩
  ·rw[VA f]at hi;rw[Vz _ _ _ _ z,←D,arJ z];by_cases e:off<=i/\i<off+a.length
   ·rw[co e,co z];congr 1;omega
   ·rw[bs e,bs z];exact B i hi
  ·rw[QA]at au;exact m i hi au
 obtain⟨q,u⟩:=r.put A ag t au y;exact⟨p,_,ag,x,q,u⟩
section
variable {P:Program} {ρ:cd}
theorem aJG{o:Oper}{t:TypeId}{x y:Operand}(h:o.op=.store t x y){i:TypeInfo}(hi:P.info? t=some i):Dh P ρ o (ad2 i.size):=by
 intro σ s r a w v B an j k J;unfold ad2 at J;split at J
 ·rename_i b off u;split at J
  ·rename_i elem vs C A;cases e:(Nat.beq u.cells.length i.size&&Nat.ble (off+i.size) vs.length&&u.cells.all pX&&Nat.blt b eB)with
   |false=>rw[e]at J;simp at J
   |true=>
    rw[e]at J;simp only[eP,cq,iA]at J;obtain⟨rfl,rfl⟩:=J;simp only[dQ]at e;obtain⟨⟨⟨c1,c2⟩,c3⟩,c4⟩:=e;have c1:=gx c1;have c2:=hH c2;have c4:b<eB:=by simpa using c4
    obtain⟨c,d,e,hd,g⟩:=lz j;simp[fW,h,Op.operands]at g;obtain⟨bZ,cp⟩:=g;have f:=YU c3 hd;obtain⟨p,w',ag,m,q,l⟩:=k.aeG (off:=off) A c4 f z (Gd c3 f);simp only[aN,ag,n6,cq]at e;subst e;have n:d.cells.size=i.size:=by have:=m6 f;simp at this;omega
    refine .inr (.inl ⟨w',?_,σ,NB ρ σ,q,l⟩);simp[execOp,h,bZ,cp,Instr.storeAt,Instr.sureAddr,storeVar,sizeOf,typeInfo,hi,n,m]
  ·cases J
 ·cases J
end
section
variable {P:Program} {ρ:cd}
theorem hR{w:World}{t:TypeId}{d:TypeDesc}(h:P.underlying t=some d):(underlying t).run P w=.ok d w:=by simp[underlying,h]
theorem p3{w:World}{t:TypeId}{i:TypeInfo}(h:P.info? t=some i):(sizeOf t).run P w=.ok i.size w:=by simp[sizeOf,typeInfo,h]
def N2(off:Nat):List O->Option O
 |[.iZ b o]=>some (.iZ b (o+off))
 |_=>none
variable{b:Nat}
theorem w3{σ:b6}{o:Nat}(h:aN ρ σ (.iZ b o)=some c):∃p,σ b=some p/\c=.pointer (some ⟨p.aY,p.del+o,none⟩):=by
 exact anW
variable{n:Nat}
theorem Ad{σ:b6}{o e:Nat}{cap:Option Nat}(h:aN ρ σ (.slice b o n e cap)=some c):∃p,σ b=some p/\c=.slice (some ⟨p.aY,p.del+o,none⟩) n (jv p o e cap):=by
 exact anW
theorem oH{σ:b6}{k:IntKind}{n:Int}{c:Value}(h:aN ρ σ (.int k n)=some c):c=.int k n:=by
 simp only[aN,cq]at h;exact h.symm
theorem ay6{o:Oper}{t:TypeId}{x:Operand}{i:Nat}(h:o.op=.fieldAddr t x i){d:Array Field}{f:Field}{e:TypeInfo}(hu:P.underlying t=some (.struct d))(l:d[i]? =some f)(hi:P.info? f.type=some e)(k:e.size≠0): mA P ρ o (N2 f.offset):=by
 intro σ s a w v an j J;unfold N2 at J;split at J
 ·cases J;obtain⟨c,g,b⟩:=iT j;simp[fW,h,Op.operands]at b;obtain⟨p,ag,rfl⟩:=w3 g;refine⟨.pointer (some ⟨p.aY,p.del+(_+f.offset),none⟩),by simp[aN,ag];rfl,?_⟩;simp[execOp,h,b,Instr.fieldAt,hR hu,l,Instr.sureAddr,fieldPlace,p3 hi,k,zW,kN]
 ·cases J
def KE(n:Nat):List O->Option O
 |[.slice b o len _ _,.int _ i]=>match i with
  |.ofNat m=>bif Nat.blt m len then vW (o+m*n) fun q=>some (.iZ b q)else none
  |_=>none
 |_=>none
theorem aCF{o:Oper}{t e:TypeId}{x y:Operand}(h:o.op=.indexAddr t x y){f:TypeInfo}(hu:P.underlying t=some (.slice e))(hi:P.info? e=some f):mA P ρ o (KE f.size):=by
 intro σ s a w v an n J;unfold KE at J;split at J
 ·rename_i b off len q cap k i;split at J
  ·rename_i m;cases au:Nat.blt m len with
   |false=>simp[au]at J
   |true=>
    have j:m<len:=by simpa using au
    simp[au,Ba]at J;subst J;obtain⟨c,d,l,hd,g⟩:=lz n;simp[fW,h,Op.operands]at g;obtain⟨p,ag,rfl⟩:=Ad l;obtain rfl:=oH hd;obtain⟨bZ,cp⟩:=g;refine⟨.pointer (some ⟨p.aY,p.del+(off+m*f.size),none⟩),by simp[aN,ag],?_⟩;simp[execOp,h,bZ,cp,Instr.indexAt,asIntOf,hR hu,p3 hi,j,zW,kN]
  ·cases J
 ·cases J
def abN(len n:Nat):List O->Option O
 |[.iZ b o,.int _ i]=>match i with
  |.ofNat m=>bif Nat.blt m len then vW (o+m*n) fun q=>some (.iZ b q)else none
  |_=>none
 |_=>none
theorem aCG{o:Oper}{t e:TypeId}{len:Nat}{x y:Operand}(h:o.op=.indexAddr t x y){f:TypeInfo}(hu:P.underlying t=some (.array len e))(hi:P.info? e=some f):mA P ρ o (abN len f.size):=by
 intro σ s a w v an n J;unfold abN at J;split at J
 ·rename_i b off k i;split at J
  ·rename_i m;cases au:Nat.blt m len with
   |false=>simp[au]at J
   |true=>
    have j:m<len:=by simpa using au
    simp[au,Ba]at J;subst J;obtain⟨c,d,l,hd,g⟩:=lz n;simp[fW,h,Op.operands]at g;obtain⟨p,ag,rfl⟩:=w3 l;obtain rfl:=oH hd;obtain⟨bZ,cp⟩:=g;refine⟨.pointer (some ⟨p.aY,p.del+(off+m*f.size),none⟩),by simp[aN,ag],?_⟩;simp[execOp,h,bZ,cp,Instr.indexAt,asIntOf,hR hu,p3 hi,Instr.sureAddr,j,zW,kN]
  ·cases J
 ·cases J
def PU:List O->Option O
 |[.iZ b o]=>some (.iZ b o)
 |[.fn f x y]=>some (.fn f x y)
 |[.xS b]=>some (.xS b)
 |[.iface t v]=>some (.iface t v)
 |_=>none
theorem aFa{o:Oper}{x:Operand}(h:o.op=.nilCheck x):mA P ρ o PU:=by
 intro σ s a w v an Y J;unfold PU at J;split at J<;>cases J
 ·obtain⟨c,Q,U⟩:=iT Y;simp[fW,h,Op.operands]at U;obtain⟨p,ag,rfl⟩:=w3 Q;exact⟨_,Q,by simp[execOp,h,U]⟩
 ·obtain⟨c,Q,U⟩:=iT Y;simp[fW,h,Op.operands]at U;have m':=Q;simp only[aN]at Q;split at Q<;>cases Q;exact⟨_,m',by simp[execOp,h,U]⟩
 ·exact aov
 ·exact aov
theorem UW{σ:b6}{b:Nat}(A:σ b=none){w:World}{elem:TypeId}{vs:List O}{cs:List Value}(a:bY ρ σ vs=some cs): kn ρ (dZ σ b ⟨w.heap.size,0,vs.length⟩) ⟨w.heap.size,0,vs.length⟩ (some (.cells cs.toArray elem)) (.cells elem vs true true):=by
 refine⟨cs.toArray,(0,0),rfl,by simp[m6 a],aZ _,fun _=>⟨rfl,rfl⟩,⟨cs,w2 (.c' A) a,fun i _=>ao⟩,fun _ i _ _=>ao⟩
def Ye(elem:TypeId)(zs:List O):List O->Option eC
 |[]=>some (.cells elem zs true true)
 |_=>none
def K5(_:List O)(b:Nat):O:=.iZ b 0
theorem awn{o:Oper}{t:TypeId}(h:o.op=.alloc t){i:TypeInfo}{af:Value}{zs:List O}(hi:P.info? t=some i)(e:i.zero=some af)(f:uk af.cells.toList=some zs):IK P ρ o (Ye t zs) K5:=by
 intro σ s a w x b an g c A;unfold Ye at c;split at c
 ·cases c;have d:=KW (ρ:=ρ) (σ:=σ) f;refine⟨.cells af.cells t,zs.length,w.drawn,.pointer (some ⟨w,0,none⟩),?_,by simp[K5,aN,dZ],by simpa using UW (w:=w) (elem:=t) A d⟩;simp[execOp,h,Instr.alloc,zeroValue,typeInfo,hi,e,newVar,newRow]
 ·cases c
def Yu(elem:TypeId):List O->Option eC
 |[v]=>bif v.cells.all pX then some (.cells elem v.cells true true)else none
 |_=>none
theorem awK{o:Oper}{t:TypeId}{x:Operand}(h:o.op=.box t x):IK P ρ o (Yu t) K5:=by
 intro σ s a w y b an g d A;unfold Yu at d;split at d
 ·rename_i v;cases e:v.cells.all pX with
  |false=>simp[e]at d
  |true=>simp[e]at d;subst d;obtain⟨c,j,f⟩:=iT g;simp[fW,h,Op.operands]at f;have i:=YU e j;refine⟨.cells c.cells t,v.cells.length,w.drawn,.pointer (some ⟨w,0,none⟩),?_,by simp[K5,aN,dZ],by simpa using UW (w:=w) (elem:=t) A i⟩;simp[execOp,h,f,Instr.box,newVar,newRow]
 ·cases d
def vn:List (Nat×Nat)->List O->List O->Option (List O)
 |[],[],cs=>some cs
 |(off,n)::a,v::vs,cs=>
  bif Nat.beq v.cells.length n&&Nat.ble (off+n) cs.length&&v.cells.all pX then vn a vs (A9 cs off v.cells)else none
 |_,_,_=>none
theorem ajZ(off:Nat):∀(l:List Value) (k:Nat) (c:Array Value),(l.zipIdx k).foldl (fun cs (x:Value×Nat)=>cs.setIfInBounds (off+x.2) x.1) c=tb c (off+k) l
 |[],_,_=>rfl
 |v::l,k,c=>by
  simp only[List.zipIdx_cons,LN,tb]
  rw[ajZ off l (k+1),kN]
theorem aJd{o:Nat}(h:o+a.length<=cs.length):tb cs.toArray o a=(cs.take o++(a++cs.drop (o+a.length))).toArray:=by
 apply Q0;intro j;rw[Vz _ _ _ _ (by simpa using h)];simp only[Ws];rw[arJ h]
theorem ZA{σ:b6}{place:Nat->Option (Nat×Nat)}:∀{parts:List (Nat×Operand)} {g:List (Nat×Nat)} {vs cs:List O} {a:Array Value} {aP:List Value} {r:List O},(parts.map fun p=>place p.1)=g.map some->bY ρ σ vs=some (parts.map fun p=>ez a p.2)->
  bY ρ σ cs=some aP->vn g vs cs=some r->∃f,bY ρ σ r=some f/\Instr.fill place aP.toArray (parts.map fun p=>(p.1,ez a p.2))=some f.toArray
 |[],[],vs,cs,a,aP,r,_,J,d,h=>by
  cases vs with
  |nil=>simp[vn]at h;subst h;exact⟨aP,d,rfl⟩
  |cons v vs=>simp[vn]at h
 |[],_::_,_,_,_,_,_,ag,_,_,_=>by simp at ag
 |_::_,[],_,_,_,_,_,ag,_,_,_=>by simp at ag
 |(i,x)::parts,(off,n)::g,vs,cs,a,aP,r,ag,J,d,h=>by
  simp only[qO,p7]at ag
  cases vs with
  |nil=>simp[vn]at h
  |cons v vs=>
   simp only[vn]at h
   cases b:(Nat.beq v.cells n&&Nat.ble (off+n) cs&&v.cells.all pX)with
   |false=>rw[b]at h;simp at h
   |true=>
    rw[b]at h
    simp only[eP]at h
    simp only[dQ]at b
    obtain⟨⟨b4,dF⟩,gL⟩:=b
    have b4:=gx b4
    have dF:=hH dF
    obtain⟨c,s,H,I,e⟩:=qo J
    simp only[qO,p7]at e
    obtain⟨e,q⟩:=e
    have k:=YU gL H
    have j:=m6 k
    simp at j
    have t:=m6 d
    obtain⟨f,aj,m⟩:=ZA (place:=place) ag.2 (q▸I) (aiO (o:=off) d k) h
    refine⟨f,aj,?_⟩
    simp only[qO,Instr.fill,ag.1,e]
    have A:(decide (c.cells.size≠n)||decide (off+c.cells.size>aP.toArray.size))=false:=bz
    rw[A]
    simp only[qM,pz]
    have l:(c.cells.zipIdx.foldl (fun cs (x:Value×Nat)=>cs.setIfInBounds (off+x.2) x.1) aP.toArray)=(aP.take off++(c.cells.toList++aP.drop (off+v.cells.length))).toArray:=by
     rw[←asJ,Array.toList_zipIdx,ajZ off c.cells.toList 0,h7,aJd bz]
     simp[j]
    rw[l]
    exact m
end
section
variable {P:Program} {ρ:cd}
theorem ajS:∀{b:List (Nat×Nat)} {vs cs r:List O},vn b vs cs=some r->r.length=cs.length
 |[],[],cs,r,h=>by simp[vn]at h;subst h;rfl
 |[],_::_,cs,r,h=>by simp[vn]at h
 |_::_,[],cs,r,h=>by simp[vn]at h
 |(off,n)::b,v::vs,cs,r,h=>by
  simp only[vn]at h
  cases a:(Nat.beq v.cells n&&Nat.ble (off+n) cs&&v.cells.all pX)with
  |false=>rw[a]at h;simp at h
  |true=>
   rw[a]at h
   simp only[eP]at h
   simp only[dQ]at a
   obtain⟨⟨b4,dF⟩,gL⟩:=a
   have b4:=gx b4
   have dF:=hH dF
   rw[ajS h,VA z]
def K3(P:Program):List Field->Option (List (Nat×Nat))
 |[]=>some []
 |f::a=>match P.info? f.type,K3 P a with
  |some i,some r=>some ((f.offset,i.size)::r)
  |_,_=>none
theorem arf{w:World}:∀{a:List Field} {r:List (Nat×Nat)},K3 P a=some r->(a.mapM fun f=>do pure (f.offset,←sizeOf f.type):Sem (List (Nat×Nat))).run P w=.ok r w
 |[],r,h=>by simp[K3]at h;subst h;simp
 |f::a,r,h=>by
  simp only[K3]at h
  split at h
  ·rename_i i c hi b
   cases h
   simp only[LS,eZ,p3 hi,eW,fJ]
   rw[arf b]
   rfl
  ·cases h
def Yx(zs:List O)(a:List (Nat×Nat))(vs:List O):Option O:=match vn a vs zs with
 |some r=>some (.agg r)
 |none=>none
theorem ap9(parts:Array (Nat×Operand))(a:Array Value):(parts.map fun(i,x)=>(i,ez a x)).toList=parts.toList.map fun p=>(p.1,ez a p.2):=ao
theorem awO{o:Oper}{t:TypeId}{parts:Array (Nat×Operand)}(h:o.op=.build t parts){i:TypeInfo}{af:Value}{zs:List O}{c:Array Field}{b j:List (Nat×Nat)}(hi:P.info? t=some i)(l:i.zero=some af)(q:uk af.cells.toList=some zs) (hu:P.underlying t=some (.struct c))(k:K3 P c.toList=some b)(ag:(parts.toList.map fun p=>b[p.1]?)=j.map some):mA P ρ o (Yx zs j):=by
 intro σ s a w v an d J;unfold Yx at J;split at J
 ·rename_i r m;cases J;simp only[fW,h,Op.operands,LU]at d;obtain⟨g,H,I⟩:=ZA (place:=(b.toArray[·]?)) (parts:=parts.toList) (a:=a) (by simpa using ag) (by simpa[aeT]using d) (KW q) m;refine⟨.agg g.toArray,by simp[aN,H],?_⟩;have n:(c.mapM fun f=>do pure (f.offset,←sizeOf f.type):Sem (Array (Nat×Nat))).run P w=.ok b.toArray w:=by rw[aeQ];simp only[ae1];rw[arf k];rfl
  have A:(Instr.build t (parts.map fun(i,x)=>(i,ez a x))).run P w=.ok (.agg g.toArray) w:=by simp only[Instr.build,eZ,zeroValue,typeInfo,Fo,eW,hi,fJ,l,hR hu];rw[n];simp only[eW,ap9];have e:af.cells=af.cells.toList.toArray:=ao;rw[e,I];rfl
  simp[execOp,h,A]
 ·cases J
def Yw(elem:TypeId)(a:List O)(b:List (Nat×Nat))(vs:List O):Option eC:=match vn b vs a with
 |some r=>some (.cells elem r true true)
 |none=>none
def adS(len esz:Nat)(_:List O)(b:Nat):O:=.slice b 0 len esz none
theorem awN{o:Oper}{t e:TypeId}{len:Nat}{parts:Array (Nat×Operand)}(h:o.op=.buildSlice t len parts){c:TypeInfo}{af:Value}{g:List O}{m:List (Nat×Nat)}(hu:P.underlying t=some (.slice e))(aO:P.info? e=some c)(q:c.zero=some af) (D:len*c.size<=2^24)(u:c.size≠0)(n:uk ((Array.range (len*c.size)).map ((if len*c.size=0 then #[]else af.cells)[· %(if len*c.size=0 then #[]else af.cells).size]!)).toList=some g) (ag:m=parts.toList.map fun p=>(p.1*c.size,c.size)):IK P ρ o (Yw e g m) (adS len c.size):=by
 intro σ s a w x b an j d A;unfold Yw at d;split at d
 ·rename_i r k;cases d;simp only[fW,h,Op.operands,LU]at j;have f:=KW (ρ:=ρ) (σ:=σ) n;obtain⟨l,H,I⟩:=ZA (place:=fun i=>some (i*c.size,c.size)) (parts:=parts.toList) (a:=a) (by subst ag;simp[aeT]) (by simpa[aeT]using j) f k;have B:r.length=len*c.size:=by rw[ajS k,←m6 f];simp
  have y:=UW (ρ:=ρ) (w:=w) (elem:=e) A H;refine⟨.cells l.toArray e,r.length,w.drawn,.slice (some ⟨w,0,none⟩) len len,?_,?_,y⟩
  ·have C:(Instr.buildSlice t len (parts.map fun(i,x)=>(i,ez a x))).run P w=.ok (.slice (some ⟨w,0,none⟩) len len) {w with heap:=w.heap.push (.cells l.toArray e),drawn:=w.drawn}:=by
    simp only[Instr.buildSlice,eZ,hR hu,p3 aO,eW,ap9];rw[bs z];by_cases ae:len*c.size=0
    ·simp only[ae,ox]at I⊢;simp only[eZ,fJ,eW,asM]at I⊢;rw[I];rfl
    ·simp only[ae,pz]at I⊢;simp only[eZ,zeroValue,typeInfo,Fo,eW,aO,fJ,q,asM]at I⊢;rw[I];rfl
   simp[execOp,h,C]
  ·have:len*c.size/c.size=len:=afk _ (WC u);simp[adS,aN,dZ,jv,B,this]
 ·cases d
def HB(c:Nat)(l:List O):List O:=match c with
 |0=>[]
 |c+1=>l++HB c l
def vT(c:Nat)(l:List Value):List Value:=match c with
 |0=>[]
 |c+1=>l++vT c l
theorem aqM{σ:b6}{l:List O}{cs:List Value}(h:bY ρ σ l=some cs):∀c,bY ρ σ (HB c l)=some (vT c cs)
 |0=>rfl
 |c+1=>Ab h (aqM h c)
theorem aqN(l:List O):∀c,(HB c l).length=c*l.length
 |0=>by simp[HB]
 |c+1=>by simp[HB,aqN l c,afo,tl]
theorem adm(l:List Value):∀c,(vT c l).length=c*l.length
 |0=>by simp[vT]
 |c+1=>by simp[vT,adm l c,afo,tl]
theorem aqL(l:List Value):∀(c j:Nat),j<c*l.length->(vT c l)[j]? =l[j%l.length]?
 |0,j,h=>by simp at h
 |c+1,j,h=>by
  rw[vT]
  by_cases b:j<l
  ·rw[CX b,Bs b]
  ·rw[Fs z,aqL l c (j-l.length) (by rw[afo]at h;omega)]
   congr 1
   rw[Nat.mod_eq_sub_mod (a:=j) z]
theorem aqB(af:Array Value)(c:Nat)(b:af.size≠0):((Array.range (c*af.size)).map (af[· %af.size]!))=(vT c af.toList).toArray:=by
 apply Q0;intro j;by_cases a:j<c*af.size;simp only[Ws];rw[aqL af.toList c j (by simpa using a)];have d:j%af.size<af.size:=zu _ (WC b);simp[a,d];rw[V2 bz,V2 (by simp[adm];omega)]
def aci(elem:TypeId)(zs:List O)(bytes:Nat):List O->Option eC
 |[.int _ (.ofNat l),.int _ (.ofNat c)]=>bif Nat.ble l c&&Nat.ble (bytes*c) 281474976710656&&Nat.ble c 9223372036854775807 then some (.cells elem (HB c zs) true true)else none
 |_=>none
def adQ(esz:Nat):List O->Nat->O
 |[.int _ (.ofNat l),_],b=>.slice b 0 l esz none
 |_,_=>.dH
theorem aEa{o:Oper}{t e:TypeId}{x y:Operand}(h:o.op=.makeSlice t x y){d:TypeInfo}{af:Value}{zs:List O}(hu:P.underlying t=some (.slice e))(aO:P.info? e=some d)(D:d.zero=some af)(N:uk af.cells.toList=some zs) (j:af.cells.size=d.size)(i:d.size≠0):IK P ρ o (aci e zs d.bytes) (adQ d.size):=by
 intro σ s a w q b an B f A;unfold aci at f;split at f
 ·rename_i k l M c;cases g:(Nat.ble l c&&Nat.ble (d.bytes*c) 281474976710656&&Nat.ble c 9223372036854775807)with
  |false=>rw[g]at f;simp at f
  |true=>
   rw[g]at f;simp only[eP,cq]at f;subst f;simp only[dQ]at g;obtain⟨⟨b4,dF⟩,gL⟩:=g;have b4:=hH b4;have dF:=hH dF;have gL:=hH gL;obtain⟨c1,c2,Q,S,u⟩:=lz B;simp[fW,h,Op.operands]at u;obtain rfl:=oH Q;obtain rfl:=oH S;obtain⟨bZ,cp⟩:=u;have n:=KW (ρ:=ρ) (σ:=σ) N;have r:=m6 n;simp at r;have K:=UW (ρ:=ρ) (w:=w) (elem:=e) A (aqM n c);refine⟨_,_,w.drawn,.slice (some ⟨w,0,none⟩) l c,?_,?_,K⟩
   ·have F:IntKind.i64.wrap (Int.ofNat l)=(l:Int):=pw _ ⟨by simp only[Fr];omega,by simp only[Fr];omega⟩;have H:IntKind.i64.wrap (Int.ofNat c)=(c:Int):=pw _ ⟨by simp only[Fr];omega,by simp only[Fr];omega⟩;have G:(Instr.makeSlice t (.int k (Int.ofNat l)) (.int M (Int.ofNat c))).run P w=.ok (.slice (some ⟨w,0,none⟩) l c) {w with heap:=w.heap.push (.cells (vT c af.cells.toList).toArray e),drawn:=w.drawn}:=by
     simp only[Instr.makeSlice,eZ,hR hu,eW,asInt,asIntOf,fJ,typeInfo,Fo,aO,F,H];have E:(d.bytes:Int)*(c:Int)<=281474976710656:=by rw[←Fq];generalize d.bytes*c=m at dF;omega
     have J:(decide ((c:Int)<0)||decide ((d.bytes:Int)*(c:Int)>2^48))=false:=by generalize (d.bytes:Int)*(c:Int)=m at E;have C:(2:Int)^48=281474976710656:=rfl;rw[Q3];exact⟨WG z,WG (by rw[C];omega)⟩
     rw[J];have I:(false||decide ((l:Int)<0)||decide ((l:Int)>(c:Int)))=false:=by rw[Q3,Q3];exact⟨⟨rfl,WG z⟩,WG z⟩
     rw[bs (by rw[I];simp)];simp only[eZ,run_askRoom,eW,p3 aO,Rj];by_cases ae:c*d.size=0
     ·have R:c=0:=by
       rcases Nat.mul_eq_zero.1 ae with h|h
       ·exact h
       ·exact(i h).elim
      subst R;have dC:(Array.map (fun _=>(default:Value)) (Array.range 0))=#[]:=Array.eq_empty_of_size_eq_zero ao;simp[newRow,vT,dC]
     ·simp only[ae,pz,eZ,zeroValue,typeInfo,Fo,eW,aO,fJ,D];rw[←j,aqB af.cells c (by rw[j];exact i)];simp[newRow]
    simp only[execOp,h,bZ,cp,eZ,G,eW,fJ]
   ·have L:(HB c zs).length=c*d.size:=by rw[aqN,←r,j]
    have:c*d.size/d.size=c:=afk _ (WC i);simp[adQ,aN,dZ,jv,L,this]
 ·cases f
end
section
variable {P:Program} {ρ:cd}
def vO(n:Nat):Option O:=vW n fun n=>some (.int .i64 (.ofNat n))
theorem Hl(n:Nat):vO n=some (.int .i64 (.ofNat n)):=by simp[vO,Ba]
theorem S_{o:Oper}{c:Call}{b:Builtin}{a:Array Value}{w w':World}{v:Value}(h:o.op=.call c)(d:c.callee=.builtin b)(A:∀cs,(builtin b c.argTypes o.type cs (c.args.map (ez a))).run P w=.ok (.value v) w'): (execOp (ez a) o).run P w=.ok (.value v) w':=by
 simp only[execOp,h,resolve,d,eZ,fJ,eW,invoke];exact A _
theorem Ez{o:Oper}{c:Call}{b:Builtin}{a:Array Value}(h:o.op=.call c)(d:c.callee=.builtin b):fW o a=(c.args.map (ez a)).toList:=by
 simp[fW,h,Op.operands,Call.operands,d]
theorem arc{o:Oper}{c:Call}{a:Array Value}{w:World}(h:o.op=.call c)(Q:c.callee=.builtin .len){n:Nat}{u:Value}(U:(c.args.map (ez a)).toList=[u])(ab:(Builtin.len_ c.argTypes o.type #[u]).run P w=.ok (goInt n) w): (execOp (ez a) o).run P w=.ok (.value (.int .i64 (.ofNat n))) w:=by
 exact an3
def PH:List O->Option O
 |[.str s]=>vO s.length
 |_=>none
def PG:List O->Option O
 |[.slice _ _ n _ _]=>vO n
 |[.dH]=>vO 0
 |[.lA _ _ _ _]=>vO 0
 |_=>none
theorem aDN{o:Oper}{c:Call}{t:TypeId}(h:o.op=.call c)(b:c.callee=.builtin .len)(ai:c.argTypes[0]? =some t)(hu:P.underlying t=some .string):mA P ρ o PH:=by
 intro σ s a w v an d J;rw[Ez h b]at d;unfold PH at J;split at J
 ·rw[Hl]at J;cases J;obtain⟨x,f,e⟩:=iT d;obtain⟨ok,rfl⟩:=tJ f;refine⟨_,rfl,arc h b e ?_⟩;simp[Builtin.len_,ai,hR hu,Ng]
 ·cases J
theorem aDL{o:Oper}{c:Call}{t e:TypeId}(h:o.op=.call c)(Q:c.callee=.builtin .len)(ai:c.argTypes[0]? =some t)(hu:P.underlying t=some (.slice e)):mA P ρ o PG:=by
 intro σ s a w v an d J;rw[Ez h Q]at d;unfold PG at J;split at J
 ·rw[Hl]at J;cases J;obtain⟨x,b,U⟩:=iT d;obtain⟨p,ag,rfl⟩:=Ad b;exact acE
 ·rw[Hl]at J;cases J;obtain⟨x,b,U⟩:=iT d;simp only[aN,cq]at b;subst b;exact acE
 ·rw[Hl]at J;cases J;obtain⟨x,b,U⟩:=iT d;simp only[aN,iz]at b;obtain⟨p,ag,rfl⟩:=b;exact acE
 ·cases J
def KF:List O->Option O
 |[.str s,.int _ (.ofNat m)]=>match s[m]? with
  |some b=>vW b fun b=>some (.int .u8 (.ofNat b))
  |none=>none
 |_=>none
theorem aFF{s:List Nat}(h:kI s){m b:Nat}(A:s[m]? =some b):b<256:=by
 unfold kI at h;rw[h6]at h;simpa using h b (CY A)
theorem awU{s:List Nat}(h:kI s){m b:Nat}(A:s[m]? =some b):∃x,(eU s)[m]? =some x/\x.toNat=b:=by
 have au:m<s.length:=(k2.1 A).1;have d:=aFF h A;have c:(UInt8.ofNat b).toNat=b:=by rw[V1];exact Bs d
 refine⟨UInt8.ofNat b,?_,c⟩;have a:m<(eU s).size:=by rw[Ng];exact au
 rw[getElem?_pos (eU s) m a];have:(eU s)[m]=(eU s).data[m]'a:=rfl;rw[this];have aO:s[m]=b:=(k2.1 A).2;simp[eU,aO]
theorem aCJ{o:Oper}{t:TypeId}{x y:Operand}(h:o.op=.index t x y)(hu:P.underlying t=some .string):mA P ρ o KF:=by
 intro σ s a w v an g J;unfold KF at J;split at J
 ·rename_i str k m;split at J
  ·rename_i b A;simp only[Ba,cq]at J;subst J;obtain⟨c,d,f,hd,e⟩:=lz g;simp[fW,h,Op.operands]at e;obtain⟨ok,rfl⟩:=tJ f;obtain rfl:=oH hd;obtain⟨bZ,cp⟩:=e;obtain⟨af,i,l⟩:=awU ok A;refine⟨.int .u8 (.ofNat b),rfl,?_⟩;have j:(Instr.index t (.string (eU str)) (.int k (Int.ofNat m))).run P w=.ok (.int .u8 (Int.ofNat b)) w:=by simp[Instr.index,asIntOf,hR hu,i,l]
   simp only[execOp,h,bZ,cp,eZ,j,eW,fJ]
  ·cases J
 ·cases J
def YX(k:IntKind):List O->Option O
 |[.int _ n]=>yQ k n
 |_=>none
theorem axD{o:Oper}{s d:TypeId}{x:Operand}(h:o.op=.convert s d x){g:TypeDesc}{k:IntKind}(i:P.underlying s=some g)(hd:P.underlying d=some (.int k)):mA P ρ o (YX k):=by
 intro σ l a w v an f J;unfold YX at J;split at J
 ·rw[Pt]at J;cases J;obtain⟨c,e,b⟩:=iT f;simp[fW,h,Op.operands]at b;obtain rfl:=oH e;refine⟨_,rfl,?_⟩;simp[execOp,h,b,convert,hR i,hR hd,Conv.intToInt]
 ·cases J
end
end Go.cv
