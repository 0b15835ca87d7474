/- ConflictAuthors. -/
import Derived.Test.YtfgcglgpfgifkaaGreatDoorP00
set_option linter.all false
set_option maxRecDepth 100000
set_option maxHeartbeats 16000000
namespace Go.ch
open Go.Proofs.Tryz
inductive K where
 |int (k:IntKind) (n:Int)
 |bool (b:Bool)
 |str (s:List Nat)
 |jo (b off:Nat)
 |pV
 |slice (b off len esz:Nat) (cap:Option Nat)
 |bS
 |map (b:Nat)
 |uo
 |fn (f:FuncId) (first cap:List K)
 |rt (b:Nat)
 |wS
 |iface (t:TypeId) (v:K)
 |BR
 |agg (l:List K)
 |tup (l:List K)
 |sym (i:Nat)
 |jx (b off l esz:Nat)
 deriving Inhabited
structure lT where
 aU:Nat
 dA:Nat
 tot:Nat
abbrev bl:=Nat->Option lT
structure b4 where
 val:Nat->Value
 nC:Nat->Option Loop
 bg:Nat->Nat×Nat
 ys:Nat->Array Value
def i9(p:lT)(o esz:Nat):Option Nat->Nat
 |some c=>c
 |none=>(p.tot-o)/esz
def Ep:Value->Bool
 |.agg _=>false
 |.tuple _=>false
 |_=>true
def fz(s:List Nat):ByteArray:=⟨(s.map UInt8.ofNat).toArray⟩
mutual
def aE(ρ:b4)(σ:bl):K->Option Value
 |.int k n=>some (.int k n)
 |.bool b=>some (.bool b)
 |.str s=>if s.all (fun n=>n<256)then some (.string (fz s))else none
 |.jo b o=>(σ b).map fun p=>.pointer (some ⟨p.aU,p.dA+o,none⟩)
 |.pV=>some (.pointer none)
 |.slice b o len esz cap=>(σ b).map fun p=>.slice (some ⟨p.aU,p.dA+o,none⟩) len (i9 p o esz cap)
 |.bS=>some (.slice none 0 0)
 |.map b=>(σ b).map fun p=>.map (some p.aU)
 |.uo=>some (.map none)
 |.fn f a c=>match bU ρ σ a,bU ρ σ c with
  |some x,some y=>some (.func (.func f) x.toArray y.toArray)
  |_,_=>none
 |.rt b=>(σ b).map fun p=>.func (.yield p.aU) #[] #[]
 |.wS=>some .nilFunc
 |.iface t v=>(aE ρ σ v).map (.iface t)
 |.BR=>some .nilIface
 |.agg l=>(bU ρ σ l).map fun x=>.agg x.toArray
 |.tup l=>(bU ρ σ l).map fun x=>.tuple x.toArray
 |.sym i=>if Ep (ρ.val i)=true then some (ρ.val i)else none
 |.jx b o l esz=>(σ b).map fun p=>.slice (some ⟨p.aU,p.dA+(if i9 p o esz none=l then o else o+l*esz),none⟩) 0 (i9 p o esz none-l)
def bU(ρ:b4)(σ:bl):List K->Option (List Value)
 |[]=>some []
 |v::l=>match aE ρ σ v,bU ρ σ l with
  |some x,some y=>some (x::y)
  |_,_=>none
end
def ke(σ σ':bl):Prop:=∀b p,σ b=some p->σ' b=some p
theorem ke.refl(σ:bl):ke σ σ:=fun _ _ h=>h
theorem ke.trans{a b c:bl}(h:ke a b)(g:ke b c):ke a c:=fun x p d=>g x p (h x p d)
mutual
theorem tT{ρ:b4}{σ σ':bl}(h:ke σ σ'):∀{v:K} {c:Value},aE ρ σ v=some c->aE ρ σ' v=some c
 |.int ..,_,e=>by simpa[aE]using e
 |.bool _,_,e=>by simpa[aE]using e
 |.str _,_,e=>by simpa[aE]using e
 |.jo b o,c,e=>by
  simp only[aE,ig]at e⊢
  obtain⟨p,ag,rfl⟩:=e
  exact⟨p,h _ _ ag,rfl⟩
 |.pV,_,e=>by simpa[aE]using e
 |.slice b o len esz cap,c,e=>by
  simp only[aE,ig]at e⊢
  obtain⟨p,ag,rfl⟩:=e
  exact⟨p,h _ _ ag,rfl⟩
 |.bS,_,e=>by simpa[aE]using e
 |.map b,c,e=>by
  simp only[aE,ig]at e⊢
  obtain⟨p,ag,rfl⟩:=e
  exact⟨p,h _ _ ag,rfl⟩
 |.uo,_,e=>by simpa[aE]using e
 |.fn f a j,c,e=>by
  simp only[aE]at e⊢
  split at e
  ·rename_i x y d g
   rw[pD h d,pD h g]
   exact e
  ·simp at e
 |.rt b,c,e=>by
  simp only[aE,ig]at e⊢
  obtain⟨p,ag,rfl⟩:=e
  exact⟨p,h _ _ ag,rfl⟩
 |.wS,_,e=>by simpa[aE]using e
 |.iface t v,c,e=>by
  simp only[aE,ig]at e⊢
  obtain⟨p,ag,rfl⟩:=e
  exact⟨p,tT h ag,rfl⟩
 |.BR,_,e=>by simpa[aE]using e
 |.agg l,c,e=>by
  simp only[aE,ig]at e⊢
  obtain⟨p,ag,rfl⟩:=e
  exact⟨p,pD h ag,rfl⟩
 |.tup l,c,e=>by
  simp only[aE,ig]at e⊢
  obtain⟨p,ag,rfl⟩:=e
  exact⟨p,pD h ag,rfl⟩
 |.sym i,_,e=>by simpa[aE]using e
 |.jx b o l esz,c,e=>by
  simp only[aE,ig]at e⊢
  obtain⟨p,ag,rfl⟩:=e
  exact⟨p,h _ _ ag,rfl⟩
theorem pD{ρ:b4}{σ σ':bl}(h:ke σ σ'):∀{l:List K} {c:List Value},bU ρ σ l=some c->bU ρ σ' l=some c
 |[],_,e=>by simpa[bU]using e
 |v::l,c,e=>by
  simp only[bU]at e⊢
  split at e
  ·rename_i x y a b
   rw[tT h a,pD h b]
   exact e
  ·simp at e
end
theorem me{ρ:b4}{σ:bl}:∀{l:List K} {c:List Value},bU ρ σ l=some c->c.length=l.length
 |[],_,e=>by simp[bU]at e;simp[←e]
 |v::l,c,e=>by
  simp only[bU]at e
  split at e
  ·rename_i x y b a
   simp at e
   simp[←e,me a]
  ·simp at e
theorem xy{ρ:b4}{σ:bl}:∀{l:List K} {c:List Value},bU ρ σ l=some c->∀{i:Nat} {v:K},l[i]? =some v->∃x,c[i]? =some x/\aE ρ σ v=some x
 |[],_,_,i,v,h=>by simp at h
 |u::l,c,e,i,v,h=>by
  simp only[bU]at e
  split at e
  ·rename_i x y a b
   simp at e
   subst e
   cases i with
   |zero=>simp at h;subst h;exact⟨x,am,a⟩
   |succ i=>simp at h;obtain⟨ae,d,J⟩:=xy b h;exact⟨ae,by simpa using d,J⟩
  ·simp at e
theorem uS{ρ:b4}{σ:bl}:∀{l m:List K} {c d:List Value},bU ρ σ l=some c->bU ρ σ m=some d->bU ρ σ (l++m)=some (c++d)
 |[],m,c,d,e,f=>by simp[bU]at e;subst e;simpa using f
 |u::l,m,c,d,e,f=>by
  simp only[bU]at e
  split at e
  ·rename_i x y a b
   simp at e
   subst e
   simp[bU,a,uS b f]
  ·simp at e
theorem sU{ρ:b4}{σ:bl}:∀{l:List K} {c:List Value} (n:Nat),bU ρ σ l=some c->bU ρ σ (l.take n)=some (c.take n)
 |[],c,n,e=>by simp[bU]at e;subst e;simp[bU]
 |u::l,c,n,e=>by
  simp only[bU]at e
  split at e
  ·rename_i x y a b
   simp at e
   subst e
   cases n with
   |zero=>simp[bU]
   |succ n=>simp[bU,a,sU n b]
  ·simp at e
theorem tS{ρ:b4}{σ:bl}:∀{l:List K} {c:List Value} (n:Nat),bU ρ σ l=some c->bU ρ σ (l.drop n)=some (c.drop n)
 |[],c,n,e=>by simp[bU]at e;subst e;simp[bU]
 |u::l,c,n,e=>by
  have b:=e
  simp only[bU]at e
  split at e
  ·rename_i x y d a
   simp at e
   subst e
   cases n with
   |zero=>simpa using b
   |succ n=>simpa using tS n a
  ·simp at e
structure ea (cA:Type) where
 a0:cA
 bO:cA
 cu:cA
 a3:cA
 a4:cA
 a5:cA
 eL:cA
 e9:cA
 e_:cA
 a9:cA
 fa:cA
 fb:cA
 fc:cA
 fd:cA
 fe:cA
 ff:cA
structure aqe (cA:Type) where
 fn:ea cA->cA
structure aqj (cA:Type) where
 fn:cA->ea cA->ea cA
def nb{a:Type}:Nat->aqe a
 |0=>⟨fun q=>q.a0⟩
 |1=>⟨fun q=>q.bO⟩
 |2=>⟨fun q=>q.cu⟩
 |3=>⟨fun q=>q.a3⟩
 |4=>⟨fun q=>q.a4⟩
 |5=>⟨fun q=>q.a5⟩
 |6=>⟨fun q=>q.eL⟩
 |7=>⟨fun q=>q.e9⟩
 |8=>⟨fun q=>q.e_⟩
 |9=>⟨fun q=>q.a9⟩
 |10=>⟨fun q=>q.fa⟩
 |11=>⟨fun q=>q.fb⟩
 |12=>⟨fun q=>q.fc⟩
 |13=>⟨fun q=>q.fd⟩
 |14=>⟨fun q=>q.fe⟩
 |_=>⟨fun q=>q.ff⟩
def Rn{a:Type}:Nat->aqj a
 |0=>⟨fun v q=>⟨v,q.bO,q.cu,q.a3,q.a4,q.a5,q.eL,q.e9,q.e_,q.a9,q.fa,q.fb,q.fc,q.fd,q.fe,q.ff⟩⟩
 |1=>⟨fun v q=>⟨q.a0,v,q.cu,q.a3,q.a4,q.a5,q.eL,q.e9,q.e_,q.a9,q.fa,q.fb,q.fc,q.fd,q.fe,q.ff⟩⟩
 |2=>⟨fun v q=>⟨q.a0,q.bO,v,q.a3,q.a4,q.a5,q.eL,q.e9,q.e_,q.a9,q.fa,q.fb,q.fc,q.fd,q.fe,q.ff⟩⟩
 |3=>⟨fun v q=>⟨q.a0,q.bO,q.cu,v,q.a4,q.a5,q.eL,q.e9,q.e_,q.a9,q.fa,q.fb,q.fc,q.fd,q.fe,q.ff⟩⟩
 |4=>⟨fun v q=>⟨q.a0,q.bO,q.cu,q.a3,v,q.a5,q.eL,q.e9,q.e_,q.a9,q.fa,q.fb,q.fc,q.fd,q.fe,q.ff⟩⟩
 |5=>⟨fun v q=>⟨q.a0,q.bO,q.cu,q.a3,q.a4,v,q.eL,q.e9,q.e_,q.a9,q.fa,q.fb,q.fc,q.fd,q.fe,q.ff⟩⟩
 |6=>⟨fun v q=>⟨q.a0,q.bO,q.cu,q.a3,q.a4,q.a5,v,q.e9,q.e_,q.a9,q.fa,q.fb,q.fc,q.fd,q.fe,q.ff⟩⟩
 |7=>⟨fun v q=>⟨q.a0,q.bO,q.cu,q.a3,q.a4,q.a5,q.eL,v,q.e_,q.a9,q.fa,q.fb,q.fc,q.fd,q.fe,q.ff⟩⟩
 |8=>⟨fun v q=>⟨q.a0,q.bO,q.cu,q.a3,q.a4,q.a5,q.eL,q.e9,v,q.a9,q.fa,q.fb,q.fc,q.fd,q.fe,q.ff⟩⟩
 |9=>⟨fun v q=>⟨q.a0,q.bO,q.cu,q.a3,q.a4,q.a5,q.eL,q.e9,q.e_,v,q.fa,q.fb,q.fc,q.fd,q.fe,q.ff⟩⟩
 |10=>⟨fun v q=>⟨q.a0,q.bO,q.cu,q.a3,q.a4,q.a5,q.eL,q.e9,q.e_,q.a9,v,q.fb,q.fc,q.fd,q.fe,q.ff⟩⟩
 |11=>⟨fun v q=>⟨q.a0,q.bO,q.cu,q.a3,q.a4,q.a5,q.eL,q.e9,q.e_,q.a9,q.fa,v,q.fc,q.fd,q.fe,q.ff⟩⟩
 |12=>⟨fun v q=>⟨q.a0,q.bO,q.cu,q.a3,q.a4,q.a5,q.eL,q.e9,q.e_,q.a9,q.fa,q.fb,v,q.fd,q.fe,q.ff⟩⟩
 |13=>⟨fun v q=>⟨q.a0,q.bO,q.cu,q.a3,q.a4,q.a5,q.eL,q.e9,q.e_,q.a9,q.fa,q.fb,q.fc,v,q.fe,q.ff⟩⟩
 |14=>⟨fun v q=>⟨q.a0,q.bO,q.cu,q.a3,q.a4,q.a5,q.eL,q.e9,q.e_,q.a9,q.fa,q.fb,q.fc,q.fd,v,q.ff⟩⟩
 |_=>⟨fun v q=>⟨q.a0,q.bO,q.cu,q.a3,q.a4,q.a5,q.eL,q.e9,q.e_,q.a9,q.fa,q.fb,q.fc,q.fd,q.fe,v⟩⟩
theorem oH{i:Nat}(h:i<16):i=0∨i=1∨i=2∨i=3∨i=4∨i=5∨i=6∨i=7∨i=8∨i=9∨i=10∨i=11∨i=12∨i=13∨i=14∨i=15:=z
theorem YE{a:Type}(i:Nat)(v:a)(q:ea a):(nb i).fn ((Rn i).fn v q)=v:=by
 exact Xw
theorem al9{a:Type}(i j:Nat)(v:a)(q:ea a)(hi:i<16)(b:j<16)(h:i≠j):(nb i).fn ((Rn j).fn v q)=(nb i).fn q:=by
 rcases oH hi with rfl|rfl|rfl|rfl|rfl|rfl|rfl|rfl|rfl|rfl|rfl|rfl|rfl|rfl|rfl|rfl<;>rcases oH b with rfl|rfl|rfl|rfl|rfl|rfl|rfl|rfl|rfl|rfl|rfl|rfl|rfl|rfl|rfl|rfl<;>first|rfl|exact absurd rfl h
abbrev S:=ea (ea K)
structure p4 where
 fn:S->K
def adi:Nat->p4
 |0=>⟨fun s=>s.a0.a0⟩
 |1=>⟨fun s=>s.a0.bO⟩
 |2=>⟨fun s=>s.a0.cu⟩
 |3=>⟨fun s=>s.a0.a3⟩
 |4=>⟨fun s=>s.a0.a4⟩
 |5=>⟨fun s=>s.a0.a5⟩
 |6=>⟨fun s=>s.a0.eL⟩
 |7=>⟨fun s=>s.a0.e9⟩
 |8=>⟨fun s=>s.a0.e_⟩
 |9=>⟨fun s=>s.a0.a9⟩
 |10=>⟨fun s=>s.a0.fa⟩
 |11=>⟨fun s=>s.a0.fb⟩
 |12=>⟨fun s=>s.a0.fc⟩
 |13=>⟨fun s=>s.a0.fd⟩
 |14=>⟨fun s=>s.a0.fe⟩
 |_=>⟨fun s=>s.a0.ff⟩
def adj:Nat->p4
 |0=>⟨fun s=>s.bO.a0⟩
 |1=>⟨fun s=>s.bO.bO⟩
 |2=>⟨fun s=>s.bO.cu⟩
 |3=>⟨fun s=>s.bO.a3⟩
 |4=>⟨fun s=>s.bO.a4⟩
 |5=>⟨fun s=>s.bO.a5⟩
 |6=>⟨fun s=>s.bO.eL⟩
 |7=>⟨fun s=>s.bO.e9⟩
 |8=>⟨fun s=>s.bO.e_⟩
 |9=>⟨fun s=>s.bO.a9⟩
 |10=>⟨fun s=>s.bO.fa⟩
 |11=>⟨fun s=>s.bO.fb⟩
 |12=>⟨fun s=>s.bO.fc⟩
 |13=>⟨fun s=>s.bO.fd⟩
 |14=>⟨fun s=>s.bO.fe⟩
 |_=>⟨fun s=>s.bO.ff⟩
def adr:Nat->p4
 |0=>⟨fun s=>s.cu.a0⟩
 |1=>⟨fun s=>s.cu.bO⟩
 |2=>⟨fun s=>s.cu.cu⟩
 |3=>⟨fun s=>s.cu.a3⟩
 |4=>⟨fun s=>s.cu.a4⟩
 |5=>⟨fun s=>s.cu.a5⟩
 |6=>⟨fun s=>s.cu.eL⟩
 |7=>⟨fun s=>s.cu.e9⟩
 |8=>⟨fun s=>s.cu.e_⟩
 |9=>⟨fun s=>s.cu.a9⟩
 |10=>⟨fun s=>s.cu.fa⟩
 |11=>⟨fun s=>s.cu.fb⟩
 |12=>⟨fun s=>s.cu.fc⟩
 |13=>⟨fun s=>s.cu.fd⟩
 |14=>⟨fun s=>s.cu.fe⟩
 |_=>⟨fun s=>s.cu.ff⟩
def ads:Nat->p4
 |0=>⟨fun s=>s.a3.a0⟩
 |1=>⟨fun s=>s.a3.bO⟩
 |2=>⟨fun s=>s.a3.cu⟩
 |3=>⟨fun s=>s.a3.a3⟩
 |4=>⟨fun s=>s.a3.a4⟩
 |5=>⟨fun s=>s.a3.a5⟩
 |6=>⟨fun s=>s.a3.eL⟩
 |7=>⟨fun s=>s.a3.e9⟩
 |8=>⟨fun s=>s.a3.e_⟩
 |9=>⟨fun s=>s.a3.a9⟩
 |10=>⟨fun s=>s.a3.fa⟩
 |11=>⟨fun s=>s.a3.fb⟩
 |12=>⟨fun s=>s.a3.fc⟩
 |13=>⟨fun s=>s.a3.fd⟩
 |14=>⟨fun s=>s.a3.fe⟩
 |_=>⟨fun s=>s.a3.ff⟩
def adt:Nat->p4
 |0=>⟨fun s=>s.a4.a0⟩
 |1=>⟨fun s=>s.a4.bO⟩
 |2=>⟨fun s=>s.a4.cu⟩
 |3=>⟨fun s=>s.a4.a3⟩
 |4=>⟨fun s=>s.a4.a4⟩
 |5=>⟨fun s=>s.a4.a5⟩
 |6=>⟨fun s=>s.a4.eL⟩
 |7=>⟨fun s=>s.a4.e9⟩
 |8=>⟨fun s=>s.a4.e_⟩
 |9=>⟨fun s=>s.a4.a9⟩
 |10=>⟨fun s=>s.a4.fa⟩
 |11=>⟨fun s=>s.a4.fb⟩
 |12=>⟨fun s=>s.a4.fc⟩
 |13=>⟨fun s=>s.a4.fd⟩
 |14=>⟨fun s=>s.a4.fe⟩
 |_=>⟨fun s=>s.a4.ff⟩
def adu:Nat->p4
 |0=>⟨fun s=>s.a5.a0⟩
 |1=>⟨fun s=>s.a5.bO⟩
 |2=>⟨fun s=>s.a5.cu⟩
 |3=>⟨fun s=>s.a5.a3⟩
 |4=>⟨fun s=>s.a5.a4⟩
 |5=>⟨fun s=>s.a5.a5⟩
 |6=>⟨fun s=>s.a5.eL⟩
 |7=>⟨fun s=>s.a5.e9⟩
 |8=>⟨fun s=>s.a5.e_⟩
 |9=>⟨fun s=>s.a5.a9⟩
 |10=>⟨fun s=>s.a5.fa⟩
 |11=>⟨fun s=>s.a5.fb⟩
 |12=>⟨fun s=>s.a5.fc⟩
 |13=>⟨fun s=>s.a5.fd⟩
 |14=>⟨fun s=>s.a5.fe⟩
 |_=>⟨fun s=>s.a5.ff⟩
def adv:Nat->p4
 |0=>⟨fun s=>s.eL.a0⟩
 |1=>⟨fun s=>s.eL.bO⟩
 |2=>⟨fun s=>s.eL.cu⟩
 |3=>⟨fun s=>s.eL.a3⟩
 |4=>⟨fun s=>s.eL.a4⟩
 |5=>⟨fun s=>s.eL.a5⟩
 |6=>⟨fun s=>s.eL.eL⟩
 |7=>⟨fun s=>s.eL.e9⟩
 |8=>⟨fun s=>s.eL.e_⟩
 |9=>⟨fun s=>s.eL.a9⟩
 |10=>⟨fun s=>s.eL.fa⟩
 |11=>⟨fun s=>s.eL.fb⟩
 |12=>⟨fun s=>s.eL.fc⟩
 |13=>⟨fun s=>s.eL.fd⟩
 |14=>⟨fun s=>s.eL.fe⟩
 |_=>⟨fun s=>s.eL.ff⟩
def adw:Nat->p4
 |0=>⟨fun s=>s.e9.a0⟩
 |1=>⟨fun s=>s.e9.bO⟩
 |2=>⟨fun s=>s.e9.cu⟩
 |3=>⟨fun s=>s.e9.a3⟩
 |4=>⟨fun s=>s.e9.a4⟩
 |5=>⟨fun s=>s.e9.a5⟩
 |6=>⟨fun s=>s.e9.eL⟩
 |7=>⟨fun s=>s.e9.e9⟩
 |8=>⟨fun s=>s.e9.e_⟩
 |9=>⟨fun s=>s.e9.a9⟩
 |10=>⟨fun s=>s.e9.fa⟩
 |11=>⟨fun s=>s.e9.fb⟩
 |12=>⟨fun s=>s.e9.fc⟩
 |13=>⟨fun s=>s.e9.fd⟩
 |14=>⟨fun s=>s.e9.fe⟩
 |_=>⟨fun s=>s.e9.ff⟩
def adx:Nat->p4
 |0=>⟨fun s=>s.e_.a0⟩
 |1=>⟨fun s=>s.e_.bO⟩
 |2=>⟨fun s=>s.e_.cu⟩
 |3=>⟨fun s=>s.e_.a3⟩
 |4=>⟨fun s=>s.e_.a4⟩
 |5=>⟨fun s=>s.e_.a5⟩
 |6=>⟨fun s=>s.e_.eL⟩
 |7=>⟨fun s=>s.e_.e9⟩
 |8=>⟨fun s=>s.e_.e_⟩
 |9=>⟨fun s=>s.e_.a9⟩
 |10=>⟨fun s=>s.e_.fa⟩
 |11=>⟨fun s=>s.e_.fb⟩
 |12=>⟨fun s=>s.e_.fc⟩
 |13=>⟨fun s=>s.e_.fd⟩
 |14=>⟨fun s=>s.e_.fe⟩
 |_=>⟨fun s=>s.e_.ff⟩
def ady:Nat->p4
 |0=>⟨fun s=>s.a9.a0⟩
 |1=>⟨fun s=>s.a9.bO⟩
 |2=>⟨fun s=>s.a9.cu⟩
 |3=>⟨fun s=>s.a9.a3⟩
 |4=>⟨fun s=>s.a9.a4⟩
 |5=>⟨fun s=>s.a9.a5⟩
 |6=>⟨fun s=>s.a9.eL⟩
 |7=>⟨fun s=>s.a9.e9⟩
 |8=>⟨fun s=>s.a9.e_⟩
 |9=>⟨fun s=>s.a9.a9⟩
 |10=>⟨fun s=>s.a9.fa⟩
 |11=>⟨fun s=>s.a9.fb⟩
 |12=>⟨fun s=>s.a9.fc⟩
 |13=>⟨fun s=>s.a9.fd⟩
 |14=>⟨fun s=>s.a9.fe⟩
 |_=>⟨fun s=>s.a9.ff⟩
def adk:Nat->p4
 |0=>⟨fun s=>s.fa.a0⟩
 |1=>⟨fun s=>s.fa.bO⟩
 |2=>⟨fun s=>s.fa.cu⟩
 |3=>⟨fun s=>s.fa.a3⟩
 |4=>⟨fun s=>s.fa.a4⟩
 |5=>⟨fun s=>s.fa.a5⟩
 |6=>⟨fun s=>s.fa.eL⟩
 |7=>⟨fun s=>s.fa.e9⟩
 |8=>⟨fun s=>s.fa.e_⟩
 |9=>⟨fun s=>s.fa.a9⟩
 |10=>⟨fun s=>s.fa.fa⟩
 |11=>⟨fun s=>s.fa.fb⟩
 |12=>⟨fun s=>s.fa.fc⟩
 |13=>⟨fun s=>s.fa.fd⟩
 |14=>⟨fun s=>s.fa.fe⟩
 |_=>⟨fun s=>s.fa.ff⟩
def adl:Nat->p4
 |0=>⟨fun s=>s.fb.a0⟩
 |1=>⟨fun s=>s.fb.bO⟩
 |2=>⟨fun s=>s.fb.cu⟩
 |3=>⟨fun s=>s.fb.a3⟩
 |4=>⟨fun s=>s.fb.a4⟩
 |5=>⟨fun s=>s.fb.a5⟩
 |6=>⟨fun s=>s.fb.eL⟩
 |7=>⟨fun s=>s.fb.e9⟩
 |8=>⟨fun s=>s.fb.e_⟩
 |9=>⟨fun s=>s.fb.a9⟩
 |10=>⟨fun s=>s.fb.fa⟩
 |11=>⟨fun s=>s.fb.fb⟩
 |12=>⟨fun s=>s.fb.fc⟩
 |13=>⟨fun s=>s.fb.fd⟩
 |14=>⟨fun s=>s.fb.fe⟩
 |_=>⟨fun s=>s.fb.ff⟩
def adm:Nat->p4
 |0=>⟨fun s=>s.fc.a0⟩
 |1=>⟨fun s=>s.fc.bO⟩
 |2=>⟨fun s=>s.fc.cu⟩
 |3=>⟨fun s=>s.fc.a3⟩
 |4=>⟨fun s=>s.fc.a4⟩
 |5=>⟨fun s=>s.fc.a5⟩
 |6=>⟨fun s=>s.fc.eL⟩
 |7=>⟨fun s=>s.fc.e9⟩
 |8=>⟨fun s=>s.fc.e_⟩
 |9=>⟨fun s=>s.fc.a9⟩
 |10=>⟨fun s=>s.fc.fa⟩
 |11=>⟨fun s=>s.fc.fb⟩
 |12=>⟨fun s=>s.fc.fc⟩
 |13=>⟨fun s=>s.fc.fd⟩
 |14=>⟨fun s=>s.fc.fe⟩
 |_=>⟨fun s=>s.fc.ff⟩
def adn:Nat->p4
 |0=>⟨fun s=>s.fd.a0⟩
 |1=>⟨fun s=>s.fd.bO⟩
 |2=>⟨fun s=>s.fd.cu⟩
 |3=>⟨fun s=>s.fd.a3⟩
 |4=>⟨fun s=>s.fd.a4⟩
 |5=>⟨fun s=>s.fd.a5⟩
 |6=>⟨fun s=>s.fd.eL⟩
 |7=>⟨fun s=>s.fd.e9⟩
 |8=>⟨fun s=>s.fd.e_⟩
 |9=>⟨fun s=>s.fd.a9⟩
 |10=>⟨fun s=>s.fd.fa⟩
 |11=>⟨fun s=>s.fd.fb⟩
 |12=>⟨fun s=>s.fd.fc⟩
 |13=>⟨fun s=>s.fd.fd⟩
 |14=>⟨fun s=>s.fd.fe⟩
 |_=>⟨fun s=>s.fd.ff⟩
def ado:Nat->p4
 |0=>⟨fun s=>s.fe.a0⟩
 |1=>⟨fun s=>s.fe.bO⟩
 |2=>⟨fun s=>s.fe.cu⟩
 |3=>⟨fun s=>s.fe.a3⟩
 |4=>⟨fun s=>s.fe.a4⟩
 |5=>⟨fun s=>s.fe.a5⟩
 |6=>⟨fun s=>s.fe.eL⟩
 |7=>⟨fun s=>s.fe.e9⟩
 |8=>⟨fun s=>s.fe.e_⟩
 |9=>⟨fun s=>s.fe.a9⟩
 |10=>⟨fun s=>s.fe.fa⟩
 |11=>⟨fun s=>s.fe.fb⟩
 |12=>⟨fun s=>s.fe.fc⟩
 |13=>⟨fun s=>s.fe.fd⟩
 |14=>⟨fun s=>s.fe.fe⟩
 |_=>⟨fun s=>s.fe.ff⟩
def adp:Nat->p4
 |0=>⟨fun s=>s.ff.a0⟩
 |1=>⟨fun s=>s.ff.bO⟩
 |2=>⟨fun s=>s.ff.cu⟩
 |3=>⟨fun s=>s.ff.a3⟩
 |4=>⟨fun s=>s.ff.a4⟩
 |5=>⟨fun s=>s.ff.a5⟩
 |6=>⟨fun s=>s.ff.eL⟩
 |7=>⟨fun s=>s.ff.e9⟩
 |8=>⟨fun s=>s.ff.e_⟩
 |9=>⟨fun s=>s.ff.a9⟩
 |10=>⟨fun s=>s.ff.fa⟩
 |11=>⟨fun s=>s.ff.fb⟩
 |12=>⟨fun s=>s.ff.fc⟩
 |13=>⟨fun s=>s.ff.fd⟩
 |14=>⟨fun s=>s.ff.fe⟩
 |_=>⟨fun s=>s.ff.ff⟩
def adz(a b:Nat):p4:=match a with
 |0=>adi b
 |1=>adj b
 |2=>adr b
 |3=>ads b
 |4=>adt b
 |5=>adu b
 |6=>adv b
 |7=>adw b
 |8=>adx b
 |9=>ady b
 |10=>adk b
 |11=>adl b
 |12=>adm b
 |13=>adn b
 |14=>ado b
 |_=>adp b
theorem aqq(b:Nat)(s:S):(adi b).fn s=(nb b).fn s.a0:=by
 exact rj
theorem aqw(b:Nat)(s:S):(adj b).fn s=(nb b).fn s.bO:=by
 exact rj
theorem aqx(b:Nat)(s:S):(adr b).fn s=(nb b).fn s.cu:=by
 exact rj
theorem aqy(b:Nat)(s:S):(ads b).fn s=(nb b).fn s.a3:=by
 exact rj
theorem aqz(b:Nat)(s:S):(adt b).fn s=(nb b).fn s.a4:=by
 exact rj
theorem aqA(b:Nat)(s:S):(adu b).fn s=(nb b).fn s.a5:=by
 exact rj
theorem aqB(b:Nat)(s:S):(adv b).fn s=(nb b).fn s.eL:=by
 exact rj
theorem aqC(b:Nat)(s:S):(adw b).fn s=(nb b).fn s.e9:=by
 exact rj
theorem aqD(b:Nat)(s:S):(adx b).fn s=(nb b).fn s.e_:=by
 exact rj
theorem aqE(b:Nat)(s:S):(ady b).fn s=(nb b).fn s.a9:=by
 exact rj
theorem aqr(b:Nat)(s:S):(adk b).fn s=(nb b).fn s.fa:=by
 exact rj
theorem aqs(b:Nat)(s:S):(adl b).fn s=(nb b).fn s.fb:=by
 exact rj
theorem aqt(b:Nat)(s:S):(adm b).fn s=(nb b).fn s.fc:=by
 exact rj
theorem aqu(b:Nat)(s:S):(adn b).fn s=(nb b).fn s.fd:=by
 exact rj
theorem aqv(b:Nat)(s:S):(ado b).fn s=(nb b).fn s.fe:=by
 exact rj
theorem adq(b:Nat)(s:S):(adp b).fn s=(nb b).fn s.ff:=by
 exact rj
theorem NV(a b:Nat)(s:S):(adz a b).fn s=(nb b).fn ((nb a).fn s):=by
 by_cases h:a<16
 ·rcases oH h with rfl|rfl|rfl|rfl|rfl|rfl|rfl|rfl|rfl|rfl|rfl|rfl|rfl|rfl|rfl|rfl
  ·exact aqq b s
  ·exact aqw b s
  ·exact aqx b s
  ·exact aqy b s
  ·exact aqz b s
  ·exact aqA b s
  ·exact aqB b s
  ·exact aqC b s
  ·exact aqD b s
  ·exact aqE b s
  ·exact aqr b s
  ·exact aqs b s
  ·exact aqt b s
  ·exact aqu b s
  ·exact aqv b s
  ·exact adq b s
 ·obtain⟨k,rfl⟩:∃k,a=k+16:=⟨a-16,z⟩;exact adq b s
structure apD (cA:Type) where
 fn:(cA->cA)->ea cA->ea cA
def aka{a:Type}:Nat->apD a
 |0=>⟨fun f q=>⟨f q.a0,q.bO,q.cu,q.a3,q.a4,q.a5,q.eL,q.e9,q.e_,q.a9,q.fa,q.fb,q.fc,q.fd,q.fe,q.ff⟩⟩
 |1=>⟨fun f q=>⟨q.a0,f q.bO,q.cu,q.a3,q.a4,q.a5,q.eL,q.e9,q.e_,q.a9,q.fa,q.fb,q.fc,q.fd,q.fe,q.ff⟩⟩
 |2=>⟨fun f q=>⟨q.a0,q.bO,f q.cu,q.a3,q.a4,q.a5,q.eL,q.e9,q.e_,q.a9,q.fa,q.fb,q.fc,q.fd,q.fe,q.ff⟩⟩
 |3=>⟨fun f q=>⟨q.a0,q.bO,q.cu,f q.a3,q.a4,q.a5,q.eL,q.e9,q.e_,q.a9,q.fa,q.fb,q.fc,q.fd,q.fe,q.ff⟩⟩
 |4=>⟨fun f q=>⟨q.a0,q.bO,q.cu,q.a3,f q.a4,q.a5,q.eL,q.e9,q.e_,q.a9,q.fa,q.fb,q.fc,q.fd,q.fe,q.ff⟩⟩
 |5=>⟨fun f q=>⟨q.a0,q.bO,q.cu,q.a3,q.a4,f q.a5,q.eL,q.e9,q.e_,q.a9,q.fa,q.fb,q.fc,q.fd,q.fe,q.ff⟩⟩
 |6=>⟨fun f q=>⟨q.a0,q.bO,q.cu,q.a3,q.a4,q.a5,f q.eL,q.e9,q.e_,q.a9,q.fa,q.fb,q.fc,q.fd,q.fe,q.ff⟩⟩
 |7=>⟨fun f q=>⟨q.a0,q.bO,q.cu,q.a3,q.a4,q.a5,q.eL,f q.e9,q.e_,q.a9,q.fa,q.fb,q.fc,q.fd,q.fe,q.ff⟩⟩
 |8=>⟨fun f q=>⟨q.a0,q.bO,q.cu,q.a3,q.a4,q.a5,q.eL,q.e9,f q.e_,q.a9,q.fa,q.fb,q.fc,q.fd,q.fe,q.ff⟩⟩
 |9=>⟨fun f q=>⟨q.a0,q.bO,q.cu,q.a3,q.a4,q.a5,q.eL,q.e9,q.e_,f q.a9,q.fa,q.fb,q.fc,q.fd,q.fe,q.ff⟩⟩
 |10=>⟨fun f q=>⟨q.a0,q.bO,q.cu,q.a3,q.a4,q.a5,q.eL,q.e9,q.e_,q.a9,f q.fa,q.fb,q.fc,q.fd,q.fe,q.ff⟩⟩
 |11=>⟨fun f q=>⟨q.a0,q.bO,q.cu,q.a3,q.a4,q.a5,q.eL,q.e9,q.e_,q.a9,q.fa,f q.fb,q.fc,q.fd,q.fe,q.ff⟩⟩
 |12=>⟨fun f q=>⟨q.a0,q.bO,q.cu,q.a3,q.a4,q.a5,q.eL,q.e9,q.e_,q.a9,q.fa,q.fb,f q.fc,q.fd,q.fe,q.ff⟩⟩
 |13=>⟨fun f q=>⟨q.a0,q.bO,q.cu,q.a3,q.a4,q.a5,q.eL,q.e9,q.e_,q.a9,q.fa,q.fb,q.fc,f q.fd,q.fe,q.ff⟩⟩
 |14=>⟨fun f q=>⟨q.a0,q.bO,q.cu,q.a3,q.a4,q.a5,q.eL,q.e9,q.e_,q.a9,q.fa,q.fb,q.fc,q.fd,f q.fe,q.ff⟩⟩
 |_=>⟨fun f q=>⟨q.a0,q.bO,q.cu,q.a3,q.a4,q.a5,q.eL,q.e9,q.e_,q.a9,q.fa,q.fb,q.fc,q.fd,q.fe,f q.ff⟩⟩
theorem akb{a:Type}(i:Nat)(f:a->a)(q:ea a):(aka i).fn f q=(Rn i).fn (f ((nb i).fn q)) q:=by
 exact Xw
def g(i:Nat)(s:S):K:=(adz (Nat.div i 16) (Nat.mod i 16)).fn s
def put(i:Nat)(v:K)(s:S):S:=(aka (Nat.div i 16)).fn ((Rn (Nat.mod i 16)).fn v) s
def pz:K:=.tup []
def fV{a:Type}(v:a):ea a:=⟨v,v,v,v,v,v,v,v,v,v,v,v,v,v,v,v⟩
def bX:S:=fV (fV pz)
theorem al8{a:Type}(i:Nat)(v:a):(nb i).fn (fV v)=v:=by
 exact Xw
theorem UZ(i:Nat)(v:K)(s:S):g i (put i v s)=v:=by
 unfold g put;rw[NV,akb,YE,YE]
theorem UY(i j:Nat)(v:K)(s:S)(hi:i<256)(d:j<256)(h:i≠j):g i (put j v s)=g i s:=by
 unfold g put;rw[NV,NV,akb];have ak:i.mod 16=i%16:=rfl;have a:j.mod 16=j%16:=rfl;have b:i.div 16=i/16:=rfl;have c:j.div 16=j/16:=rfl;rw[ak,a,b,c];by_cases hd:i/16=j/16
 ·rw[hd,YE,al9 _ _ _ _ z z z]
 ·rw[al9 (i/16) (j/16) _ _ z z hd]
theorem atQ(i:Nat):g i bX=pz:=by
 unfold g bX;rw[NV,al8,al8]
def mY(ρ:b4)(σ:bl)(av:Nat)(s:S)(a:Array Value):Prop:=
 a.size=av/\av<=256/\∀i,i<av->aE ρ σ (g i s)=some (a.getD i undef)
theorem mY.ext{ρ:b4}{σ σ':bl}{av:Nat}{s:S}{a:Array Value}(h:mY ρ σ av s a)(e:ke σ σ'):mY ρ σ' av s a:=
 ⟨h.1,h.2.1,fun i hi=>tT e (h.2.2 i hi)⟩
theorem mY.put{ρ:b4}{σ:bl}{av:Nat}{s:S}{a:Array Value}(h:mY ρ σ av s a){i:Nat}(hi:i<av){v:K}{c:Value}(J:aE ρ σ v=some c): mY ρ σ av (put i v s) (a.setIfInBounds i c):=by
 obtain⟨H,I,d⟩:=h;refine⟨by simp[H],I,fun j b=>?_⟩;by_cases e:j=i
 ·subst e;rw[UZ];simp[J,Array.getD,H,b]
 ·rw[UY j i v s z z e];have:=d j b;rw[this];simp[Array.getD,H,b,RC,ht e]
end Go.ch
namespace Go.ch
inductive T (cA:Type) where
 |e:T cA
 |n (v:Option cA) (l r:T cA):T cA
def T.cK{a:Type}:T a->Nat->Option a
 |.e,_=>none
 |.n v l r,k=>bif Nat.beq k 0 then v else bif Nat.beq (Nat.mod k 2) 1 then l.cK (Nat.div k 2)else r.cK (Nat.sub (Nat.div k 2) 1)
def T.set{a:Type}:Nat->T a->Nat->Option a->T a
 |0,t,_,_=>t
 |f+1,.e,k,x=>bif Nat.beq k 0 then .n x .e .e else bif Nat.beq (Nat.mod k 2) 1 then .n none (T.set f .e (Nat.div k 2) x) .e else .n none .e (T.set f .e (Nat.sub (Nat.div k 2) 1) x)
 |f+1,.n v l r,k,x=>bif Nat.beq k 0 then .n x l r else bif Nat.beq (Nat.mod k 2) 1 then .n v (T.set f l (Nat.div k 2) x) r else .n v l (T.set f r (Nat.sub (Nat.div k 2) 1) x)
theorem FP{a b:Nat}(h:a≠b):Nat.beq a b=false:=by
 cases A:Nat.beq a b with
 |false=>rfl
 |true=>exact absurd (gV A) h
theorem xt{c:Type}(a b:Nat)(x y:c):(bif Nat.beq a b then x else y)=if a=b then x else y:=by
 by_cases h:a=b
 ·subst h;simp
 ·rw[FP h,bn h];rfl
theorem T.zr{a:Type}(v:Option a)(l r:T a)(k:Nat):T.cK (.n v l r) k=if k=0 then v else if k%2=1 then l.cK (k/2)else r.cK (k/2-1):=by
 rw[T.cK,xt,xt];rfl
theorem T.YI{a:Type}(f k:Nat)(x:Option a):T.set (f+1) .e k x=if k=0 then .n x .e .e else if k%2=1 then .n none (T.set f .e (k/2) x) .e else .n none .e (T.set f .e (k/2-1) x):=by
 rw[T.set,xt,xt];rfl
theorem T.YJ{a:Type}(f k:Nat)(x v:Option a)(l r:T a):T.set (f+1) (.n v l r) k x=if k=0 then .n x l r else if k%2=1 then .n v (T.set f l (k/2) x) r else .n v l (T.set f r (k/2-1) x):=by
 rw[T.set,xt,xt];rfl
theorem T.Gf{g:Type}:∀(f:Nat) (t:T g) (k j:Nat) (x:Option g),k+1<2^f->T.cK (T.set f t k x) j=if j=k then x else T.cK t j
 |0,t,k,j,x,h=>by simp at h
 |f+1,t,k,j,x,h=>by
  have ag:2^(f+1)=2*2^f:=z
  have kI:∀m,T.cK (.e:T g) m=none:=fun _=>by simp[T.cK]
  by_cases c:k=0
  ·subst c
   cases t with
   |e=>rw[T.YI,cv rfl,T.zr];by_cases a:j=0<;>simp[a,kI]
   |n v l r=>rw[T.YJ,cv rfl,T.zr,T.zr];by_cases a:j=0<;>simp[a]
  ·by_cases d:k%2=1
   ·have o:k/2+1<2^f:=z
    cases t with
    |e=>
     rw[T.YI,bn c,cv d,T.zr,T.Gf f .e (k/2) (j/2) x o]
     by_cases a:j=0
     ·subst a;simp[ht c,kI]
     ·by_cases b:j%2=1
      ·rw[bn a,cv b]
       by_cases e:j=k
       ·subst e;simp
       ·rw[bn z,bn e];simp[kI]
      ·rw[bn a,bn b,bn z];simp[kI]
    |n v l r=>
     rw[T.YJ,bn c,cv d,T.zr,T.zr,T.Gf f l (k/2) (j/2) x o]
     by_cases a:j=0
     ·subst a;simp[ht c]
     ·by_cases b:j%2=1
      ·rw[bn a,cv b,bn a,cv b]
       by_cases e:j=k
       ·subst e;simp
       ·rw[bn z,bn e]
      ·rw[bn a,bn b,bn z,bn a,bn b]
   ·have i:k/2-1+1<2^f:=z
    cases t with
    |e=>
     rw[T.YI,bn c,bn d,T.zr,T.Gf f .e (k/2-1) (j/2-1) x i]
     by_cases a:j=0
     ·subst a;simp[ht c,kI]
     ·by_cases b:j%2=1
      ·rw[bn a,cv b,bn z];simp[kI]
      ·rw[bn a,bn b]
       by_cases e:j=k
       ·subst e;simp
       ·rw[bn z,bn e];simp[kI]
    |n v l r=>
     rw[T.YJ,bn c,bn d,T.zr,T.zr,T.Gf f r (k/2-1) (j/2-1) x i]
     by_cases a:j=0
     ·subst a;simp[ht c]
     ·by_cases b:j%2=1
      ·rw[bn a,cv b,bn z,bn a,cv b]
      ·rw[bn a,bn b,bn a,bn b]
       by_cases e:j=k
       ·subst e;simp
       ·rw[bn z,bn e]
inductive aD where
 |hD
 |exit (id:Nat)
 |ret
def aD.code:aD->Code
 |.hD=>.skip
 |.exit id=>.exit id
 |.ret=>.ret
inductive em where
 |cells (elem:TypeId) (vs:List K) (jZ wr:Bool)
 |map (bB:List (K×K×Nat)) (ad9:Nat)
 |mapIter (map amc:Nat) (Ac:List Nat) (ais:Nat)
 |loop (key:Nat) (state:LoopState) (oJ:Option aD) (gA:Nat) (s:S) (av:Nat)
 |deferred
 |aC (elem:TypeId) (vs:List K)
structure ay where
 t:T em
 nx:Nat
def A':Nat:=32
def en:Nat:=4294967294
def ay.cK(h:ay)(b:Nat):Option em:=h.t.cK b
def ay.dD(h:ay)(b:Nat)(x:Option em):ay:=⟨h.t.set A' b x,h.nx⟩
def ay.add(h:ay)(x:em):ay:=⟨h.t.set A' h.nx (some x),h.nx+1⟩
theorem ay.vb(h:ay)(b j:Nat)(x:Option em)(A:b<en):(h.dD b x).cK j=if j=b then x else h.cK j:=
 T.Gf _ _ _ _ _ (by unfold en at A;unfold A';omega)
theorem ay.U5(h:ay)(j:Nat)(x:em)(A:h.nx<en):(h.add x).cK j=if j=h.nx then some x else h.cK j:=
 T.Gf _ _ _ _ _ (by unfold en at A;unfold A';omega)
def OA(ρ:b4)(σ:bl)(e:K×K×Nat)(m:MapEntry):Prop:=
 aE ρ σ e.1=some m.key/\aE ρ σ e.2.1=some m.val/\m.born=e.2.2
def ox(ρ:b4)(σ:bl):List (K×K×Nat)->List MapEntry->Prop
 |[],[]=>True
 |e::l,m::r=>OA ρ σ e m/\ox ρ σ l r
 |_,_=>False
def io(ρ:b4)(σ:bl)(p:lT)(o:Option Obj):em->Prop
 |.cells elem vs g wr=>∃arr bg,o=some (.cells arr elem bg)/\arr.size=p.dA+p.tot/\vs.length<=p.tot/\(g=true->vs.length=p.tot/\p.dA=0)/\
  (∃cs,bU ρ σ vs=some cs/\∀i,i<vs.length->arr[p.dA+i]? =cs[i]?)/\
  (wr=true->∀i,p.dA<=i->i<arr.size->¬(bg.1<=i/\i<bg.2))
 |.map f c=>p.dA=0/\∃b,o=some (.map b c)/\ox ρ σ f b.toList
 |.mapIter m e Ac d=>p.dA=0/\∃q,σ m=some q/\o=some (.mapIter (some q.aU) e Ac.toArray d)
 |.loop key state h gA s av=>p.dA=0/\∃a q l,ρ.nC key=some l/\mY ρ σ av s a/\σ gA=some q/\o=some (.loop {l with state:=state,pending:=h.map aD.code,tmps:=a,defers:=q.aU})
 |.deferred=>p.dA=0/\o=some (.deferred (some []))
 |.aC elem vs=>∃cs,bU ρ σ vs=some cs/\o=some (.cells (ρ.ys p.aU) elem (ρ.bg p.aU))/\∀i,i<vs.length->(ρ.ys p.aU)[p.dA+i]? =cs[i]?
theorem ae6{ρ:b4}{σ σ':bl}(h:ke σ σ'):∀{l:List (K×K×Nat)} {r:List MapEntry},ox ρ σ l r->ox ρ σ' l r
 |[],[],_=>h5
 |_::_,_::_,⟨⟨a,b,c⟩,d⟩=>⟨⟨tT h a,tT h b,c⟩,ae6 h d⟩
 |[],_::_,x=>x.elim
 |_::_,[],x=>x.elim
theorem io.ext{ρ:b4}{σ σ':bl}{p:lT}{o:Option Obj}(h:ke σ σ'):∀{x:em},io ρ σ p o x->io ρ σ' p o x
 |.cells ..,⟨arr,bg,a,b,c,d,⟨cs,e,f⟩,g⟩=>⟨arr,bg,a,b,c,d,⟨cs,pD h e,f⟩,g⟩
 |.map ..,⟨a,j,b,c⟩=>⟨a,j,b,ae6 h c⟩
 |.mapIter ..,⟨a,q,b,c⟩=>⟨a,q,h _ _ b,c⟩
 |.loop ..,⟨a,x,q,l,i,b,c,d⟩=>⟨a,x,q,l,i,b.ext h,h _ _ c,d⟩
 |.deferred,x=>x
 |.aC ..,⟨cs,a,b,c⟩=>⟨cs,pD h a,b,c⟩
structure c6 (ρ:b4) (σ:bl) (h:ay) (w:World):Prop where
 aU:∀b x,h.cK b=some x->∃p,σ b=some p/\io ρ σ p w.heap[p.aU]? x
 inj:∀b df x cD p bQ,h.cK b=some x->h.cK df=some cD->σ b=some p->σ df=some bQ->b≠df->p.aU≠bQ.aU
 jy:∀b,h.nx<=b->σ b=none
def k8(σ:bl)(h:ay)(r:Nat):Prop:=∃b x p,h.cK b=some x/\σ b=some p/\p.aU=r
structure jj (σ:bl) (h:ay) (w:World) (σ':bl) (bf:ay) (w':World):Prop where
 ext:ke σ σ'
 eI:∀b,σ b=none->σ' b≠none->h.nx<=b
 nx:h.nx<=bf.nx
 size:w.heap.size<=w'.heap.size
 kept:∀r,r<w.heap.size->¬k8 σ h r->w'.heap[r]? =w.heap[r]?
 nD:∀r,k8 σ' bf r->w.heap.size<=r∨k8 σ h r
 os:w'.os=w.os
 output:w'.output=w.output
 tape:w'.tape=w.tape
theorem jj.refl(σ:bl)(h:ay)(w:World):jj σ h w σ h w:=
 ⟨.refl _,fun _ a b=>(b a).elim,aZ _,aZ _,fun _ _ _=>rfl,fun _ h=>.inr h,rfl,rfl,rfl⟩
theorem jj.trans{σ σ' g:bl}{h j e:ay}{w w' f:World}(a:jj σ h w σ' j w')(b:jj σ' j w' g e f):jj σ h w g e f where
 ext:=a.ext.trans b.ext
 eI:=fun x l m=>by
  cases d:σ' x with
  |none=>exact db a.nx (b.eI x d m)
  |some p=>exact a.eI x l (by simp[d])
 nx:=db a.nx b.nx
 size:=db a.size b.size
 kept:=fun r c i=>by
  rw[b.kept r (iz c a.size) (fun k=>?_),a.kept r c i]
  rcases a.nD r k with H|H
  ·omega
  ·exact i H
 nD:=fun r c=>by
  rcases b.nD r c with H|H
  ·exact .inl (db a.size H)
  ·exact a.nD r H
 os:=b.os.trans a.os
 output:=b.output.trans a.output
 tape:=b.tape.trans a.tape
end Go.ch
namespace Go.ch
open Go.Proofs.Tryz
structure lr where
 fn:FuncId
 kind:CallKind
 roundOf:Option Nat
def fr(b:lr)(a:Array Value)(ds:List Deferred)(todo:List Item):Frame:=
 {fn:=b.fn,tmps:=a,todo,defers:=ds,mode:=.run,kind:=b.kind,roundOf:=b.roundOf}
def dT(a:Array Value):Operand->Value
 |.tmp t=>a.getD t undef
 |.const v=>v
 |.global g=>.pointer (some ⟨g,0,none⟩)
 |.func f=>.func (.func f) #[] #[]
theorem OE(b:lr)(a:Array Value)(ds:List Deferred)(todo:List Item):(fr b a ds todo).eval=dT a:=by
 funext x;cases x<;>rfl
section aDa
variable {P:Program} {b:lr} {a:Array Value} {ds:List Deferred} {k:List Item} {cs:List Frame} {w:World}
theorem aC2:step P (lone (fr b a ds (.code .skip::k)) cs w)=.next (lone (fr b a ds k) cs w):=
 mp (by simp[stepG,stepG.exec,fr])
theorem aCQ{l:Nat}:step P (lone (fr b a ds (.code (.label l)::k)) cs w)=.next (lone (fr b a ds k) cs w):=
 mp (by simp[stepG,stepG.exec,fr])
theorem aCO{id:Nat}:step P (lone (fr b a ds (.inBlock id::k)) cs w)=.next (lone (fr b a ds k) cs w):=
 mp (by simp[stepG,stepG.exec,fr])
theorem YW{x y:Code}:step P (lone (fr b a ds (.code (.seq x y)::k)) cs w)=.next (lone (fr b a ds (.code x::.code y::k)) cs w):=
 mp (by simp[stepG,stepG.exec,fr])
theorem amr{c:Operand}{x y:Code}{t:Bool}(h:dT a c=.bool t):
  step P (lone (fr b a ds (.code (.cond c x y)::k)) cs w)=.next (lone (fr b a ds (.code (if t then x else y)::k)) cs w):=
 mp (by
  have:=congrFun (OE b a ds (.code (.cond c x y)::k)) c
  simp only[fr]at this
  simp[stepG,stepG.exec,fr,this,h])
theorem Q7{id:Nat}{c:Code}:step P (lone (fr b a ds (.code (.block id c)::k)) cs w)=.next (lone (fr b a ds (.code c::.inBlock id::k)) cs w):=
 mp (by simp[stepG,stepG.exec,fr])
theorem aCR{c:Code}:step P (lone (fr b a ds (.code (.loop c)::k)) cs w)=.next (lone (fr b a ds (.code c::.inLoop c::k)) cs w):=
 mp (by simp[stepG,stepG.exec,fr])
theorem aCP{c:Code}:step P (lone (fr b a ds (.inLoop c::k)) cs w)=.next (lone (fr b a ds (.code c::.inLoop c::k)) cs w):=
 mp (by simp[stepG,stepG.exec,fr])
theorem aCN{id:Nat}{c:List Item}(h:exitTo id k=some c):
  step P (lone (fr b a ds (.code (.exit id)::k)) cs w)=.next (lone (fr b a ds c) cs w):=
 mp (by simp[stepG,stepG.exec,fr,h])
theorem aCX{id:Nat}{ops:Array Oper}:
  step P (lone (fr b a ds (.code (.region id ops false)::k)) cs w)=.next (lone (fr b a ds (.inRegion ops (List.range ops.size)::k)) cs w):=
 mp (by simp[stepG,stepG.exec,fr])
theorem aCY{id:Nat}{ops:Array Oper}:
  step P (lone (fr b a ds (.code (.region id ops true)::k)) cs w)=
   .next (lone (fr b a ds (.inRegion ops (Region.schedule (P.follows .mixedOrders) ops (w.tape w.drawn (.order b.fn id)))::k)) cs {w with drawn:=w.drawn+1}):=
 mp (by simp[stepG,stepG.exec,fr,choose,Sem.run,Question.forced,Question.cut])
theorem amv{ops:Array Oper}:step P (lone (fr b a ds (.inRegion ops []::k)) cs w)=.next (lone (fr b a ds k) cs w):=
 mp (by simp[stepG,stepG.exec,fr])
end aDa
def uJ(P:Program)(f:Frame)(w:World)(R:Value->World->Prop):Prop:=
 ∀(c:Frame) (cs:List Frame),∃v w',R v w'/\Steps P (lone f (c::cs) w) (lone (c.finish v) cs w')
theorem uJ.azl{P:Program}{f:FuncId}{args:Array Value}{w:World}{R:Value->World->Prop} (h:Calls P f args w fun e w'=>∃v,e=.returned v/\R v w'):uJ P (Frame.enter P f args .normal) w R:=by
 intro c cs;obtain⟨e,w',j,⟨v,rfl,i⟩,g,_,d⟩:=h (c::cs);exact⟨v,w',i,rv g (.one (step_leave_returned d))⟩
def qf(d:Option Tmp)(v:Value)(a:Array Value):Array Value:=match d with|some d=>a.setIfInBounds d v|none=>a
def CA(P:Program)(o:Oper)(a:Array Value)(w:World)(R:Value->World->Prop):Prop:=
 (∃v w',(execOp (dT a) o).run P w=.ok (.value v) w'/\R v w')∨
 (∃w',(execOp (dT a) o).run P w=.ok .skip w'/\R undef w')∨
 (∃f args c,(execOp (dT a) o).run P w=.ok (.enter f args) c/\uJ P (Frame.enter P f args .normal) c R)∨
 (∃l f t x y c,(execOp (dT a) o).run P w=.ok (.round l f t x y) c/\uJ P (Frame.round l f t x y .normal) c R)
theorem CA.mono{P:Program}{o:Oper}{a:Array Value}{w:World}{R j:Value->World->Prop}(h:CA P o a w R)(d:∀v w,R v w->j v w):CA P o a w j:=by
 rcases h with⟨v,w',e,r⟩|⟨w',e,r⟩|⟨f,g,i,e,r⟩|⟨l,f,t,x,y,i,e,r⟩
 ·exact .inl ⟨v,w',e,d _ _ r⟩
 ·exact .inr (.inl ⟨w',e,d _ _ r⟩)
 ·exact .inr (.inr (.inl ⟨f,g,i,e,fun c cs=>let ⟨v,w',q,s⟩:=r c cs;⟨v,w',d _ _ q,s⟩⟩))
 ·exact .inr (.inr (.inr ⟨l,f,t,x,y,i,e,fun c cs=>let ⟨v,w',q,s⟩:=r c cs;⟨v,w',d _ _ q,s⟩⟩))
theorem afo(b:lr)(a:Array Value)(ds:List Deferred)(ops:Array Oper)(i:Nat)(rest:List Nat)(k:List Item)(v:Value): (fr b a ds (.inRegion ops (i::rest)::k)).finish v=fr b (qf ((ops[i]?).bind (·.dst)) v a) ds (.inRegion ops rest::k):=by
 cases h:(ops[i]?).bind (·.dst)<;>simp[Frame.finish,fr,qf,h]
theorem amu{P:Program}{b:lr}{a:Array Value}{ds:List Deferred}{k:List Item}{cs:List Frame}{w:World}{ops:Array Oper}{i:Nat}{rest:List Nat} (h:((ops[i]?).map (Region.wanted · (yielded ops a))).getD false=false): step P (lone (fr b a ds (.inRegion ops (i::rest)::k)) cs w)=.next (lone (fr b (qf ((ops[i]?).bind (·.dst)) undef a) ds (.inRegion ops rest::k)) cs w):=by
 rw[←afo];exact mp (by
  simp only[fr]at*
  simp[stepG,stepG.exec,h])
theorem aC9{P:Program}{b:lr}{a:Array Value}{ds:List Deferred}{k:List Item}{cs:List Frame}{w:World}{ops:Array Oper}{i:Nat}{rest:List Nat}{o:Oper} (f:ops[i]? =some o)(h:Region.wanted o (yielded ops a)=true)(hd:∀c,o.op≠ .defer c): stepG P true {frame:=fr b a ds (.inRegion ops (i::rest)::k),callers:=cs,status:=.running,dying:=none} w= stepG.apply P true (fr b a ds (.inRegion ops (i::rest)::k)) cs none (execOp (dT a) o) w:=by
 have d:=OE b a ds (.inRegion ops (i::rest)::k);simp only[fr]at d;cases e:b.roundOf with
 |none=>simp[stepG,stepG.exec,stepG.oper,Frame.oper?,fr,f,h,e]at*;rw[d]
 |some l=>cases g:o.op<;>first|exact absurd g (hd _)|(simp[stepG,stepG.exec,stepG.oper,Frame.oper?,fr,f,h,e,g]at*;rw[d])
end Go.ch
namespace Go.ch
structure gp where
 s:S
 h:ay
 gA:List Nat
abbrev jH:=gp->Option (aD×gp)
def uV(σ:bl):List Nat->Option (List Deferred)
 |[]=>some []
 |b::l=>match σ b,uV σ l with
  |some p,some ds=>some ({target:=.collected p.aU,args:=#[]}::ds)
  |_,_=>none
theorem JM{σ σ':bl}(h:ke σ σ'):∀{l:List Nat} {ds:List Deferred},uV σ l=some ds->uV σ' l=some ds
 |[],_,e=>by simpa[uV]using e
 |b::l,ds,e=>by
  simp only[uV]at e⊢
  split at e
  ·rename_i p q ag a
   rw[h _ _ ag,JM h a]
   exact e
  ·simp at e
def jE(P:Program)(σ:bl):Prop:=∀g,g<P.globals.size->∃t,σ g=some ⟨g,0,t⟩
theorem jE.ext{P:Program}{σ σ':bl}(h:jE P σ)(e:ke σ σ'):jE P σ':=fun g a=>let ⟨t,ah⟩:=h g a;⟨t,e _ _ ah⟩
structure xn (P:Program) (ρ:b4) (av:Nat) (σ:bl) (x:gp) (a:Array Value) (ds:List Deferred) (w:World):Prop where
 s:mY ρ σ av x.s a
 h:c6 ρ σ x.h w
 d:uV σ x.gA=some ds
 g:jE P σ
def CU(P:Program)(m:Machine)(b:lr)(a:Array Value)(ds:List Deferred)(k:List Item)(cs:List Frame)(w:World):aD->Prop
 |.hD=>Steps P m (lone (fr b a ds k) cs w)
 |.exit id=>∃eb,exitTo id eb=exitTo id k/\Steps P m (lone (fr b a ds (.code (.exit id)::eb)) cs w)
 |.ret=>∃eb,Steps P m (lone (fr b a ds (.code .ret::eb)) cs w)
theorem CU.LQ{P:Program}{m c:Machine}{b:lr}{a:Array Value}{ds:List Deferred}{k:List Item}{cs:List Frame}{w:World}{x:aD} (s:Steps P m c)(h:CU P c b a ds k cs w x):CU P m b a ds k cs w x:=by
 cases x with
 |hD=>exact s.trans h
 |exit id=>obtain⟨eb,e,t⟩:=h;exact⟨eb,e,s.trans t⟩
 |ret=>obtain⟨eb,t⟩:=h;exact⟨eb,s.trans t⟩
def mc(P:Program)(ρ:b4)(av:Nat)(B:bl->lr->Prop)(c:Code)(F:jH):Prop:=
 ∀(σ:bl) (x:gp) (e:aD) (d:gp),F x=some (e,d)->
 ∀(b:lr),B σ b->∀(k:List Item) (cs:List Frame) (a:Array Value) (ds:List Deferred) (w:World),xn P ρ av σ x a ds w->
 ∃σ' f g w',xn P ρ av σ' d f g w'/\jj σ x.h w σ' d.h w'/\CU P (lone (fr b a ds (.code c::k)) cs w) b f g k cs w' e
def Mk:jH:=fun x=>some (.hD,x)
def UH(id:Nat):jH:=fun x=>some (.exit id,x)
def Yn:jH:=fun x=>some (.ret,x)
def UK:jH:=fun _=>none
def Mi(F a:jH):jH:=fun x=>match F x with
 |some (.hD,b)=>a b
 |r=>r
def JJ(c:S->K)(F a:jH):jH:=fun x=>match c x.s with
 |.bool true=>F x
 |.bool false=>a x
 |_=>none
def Jk(id:Nat)(F:jH):jH:=fun x=>match F x with
 |some (.exit j,a)=>bif Nat.beq j id then some (.hD,a)else some (.exit j,a)
 |r=>r
def BK(F:jH):Nat->jH
 |0=>fun _=>none
 |n+1=>fun x=>match F x with
  |some (.hD,a)=>BK F n a
  |r=>r
section
variable {P:Program} {ρ:b4} {av:Nat} {B:bl->lr->Prop}
def SX(B:bl->lr->Prop):Prop:=∀(σ σ':bl) (b:lr),ke σ σ'->B σ b->B σ' b
def rz(f:FuncId):Option Nat->bl->lr->Prop
 |none,_,b=>b.roundOf=none/\b.fn=f
 |some bo,σ,b=>∃p,σ bo=some p/\b.roundOf=some p.aU/\b.fn=f
theorem rz.G_(f:FuncId)(r:Option Nat):SX (rz f r):=fun σ σ' b a h=>by
 cases r with
 |none=>exact h
 |some bo=>obtain⟨p,H,I⟩:=h;exact⟨p,a _ _ H,I⟩
theorem aCh:mc P ρ av B .skip Mk:=by
 intro σ x e d h b f k cs a ds w c;simp only[Mk,cb,g9]at h;obtain⟨rfl,rfl⟩:=h;exact⟨σ,a,ds,w,c,.refl _ _ _,.one aC2⟩
theorem aCa{l:Nat}:mc P ρ av B (.label l) Mk:=by
 intro σ x e d h b f k cs a ds w c;simp only[Mk,cb,g9]at h;obtain⟨rfl,rfl⟩:=h;exact⟨σ,a,ds,w,c,.refl _ _ _,.one aCQ⟩
theorem Hv{c:Code}:mc P ρ av B c UK:=by
 intro σ x e a h;simp[UK]at h
theorem aB'{id:Nat}:mc P ρ av B (.exit id) (UH id):=by
 intro σ x e d h b f k cs a ds w c;simp only[UH,cb,g9]at h;obtain⟨rfl,rfl⟩:=h;exact⟨σ,a,ds,w,c,.refl _ _ _,k,rfl,.refl _ _⟩
theorem aCf:mc P ρ av B .ret Yn:=by
 intro σ x e d h b f k cs a ds w c;simp only[Yn,cb,g9]at h;obtain⟨rfl,rfl⟩:=h;exact⟨σ,a,ds,w,c,.refl _ _ _,k,.refl _ _⟩
theorem aCg(G_:SX B){c d:Code}{F o:jH}(D:mc P ρ av B c F)(C:mc P ρ av B d o):mc P ρ av B (.seq c d) (Mi F o):=by
 intro σ x e A h b q k cs a ds w t;unfold Mi at h;cases g:F x with
 |none=>rw[g]at h;simp at h
 |some r=>
  obtain⟨ak,p⟩:=r;rw[g]at h;obtain⟨l,bO,n,i,j,f,b2⟩:=D σ x ak p g b q (.code d::k) cs a ds w t;cases ak with
  |hD=>simp only at h;obtain⟨G,cu,s,y,E,z,cL⟩:=C l p e A h b (G_ _ _ _ f.ext q) k cs bO n i j;exact⟨G,cu,s,y,E,f.trans z,.LQ (.head YW b2) cL⟩
  |exit id=>simp only[cb,g9]at h;obtain⟨rfl,rfl⟩:=h;obtain⟨eb,u,m⟩:=b2;exact⟨l,bO,n,i,j,f,eb,by rw[u];rfl,.head YW m⟩
  |ret=>simp only[cb,g9]at h;obtain⟨rfl,rfl⟩:=h;obtain⟨eb,m⟩:=b2;exact⟨l,bO,n,i,j,f,eb,.head YW m⟩
def IS(P:Program)(ρ:b4)(av:Nat)(o:Operand)(x:S->K):Prop:=
 ∀σ s a,jE P σ->mY ρ σ av s a->aE ρ σ (x s)=some (dT a o)
theorem aB9{o:Operand}{t:S->K}{c d:Code}{F n:jH}(r:IS P ρ av o t)(u:mc P ρ av B c F)(s:mc P ρ av B d n): mc P ρ av B (.cond o c d) (JJ t F n):=by
 intro σ x e p h b q k cs a ds w f;have J:=r σ x.s a f.g f.s;unfold JJ at h;split at h
 ·rename_i A;rw[A]at J;simp only[aE,cb]at J;obtain⟨l,bO,m,i,j,g,b2⟩:=u σ x e p h b q k cs a ds w f;exact⟨l,bO,m,i,j,g,.LQ (.one (amr J.symm)) b2⟩
 ·rename_i A;rw[A]at J;simp only[aE,cb]at J;obtain⟨l,bO,m,i,j,g,b2⟩:=s σ x e p h b q k cs a ds w f;exact⟨l,bO,m,i,j,g,.LQ (.one (amr J.symm)) b2⟩
 ·simp at h
theorem aB8{id:Nat}{c:Code}{F:jH}(s:mc P ρ av B c F):mc P ρ av B (.block id c) (Jk id F):=by
 intro σ x e y h b u k cs a ds w q;unfold Jk at h;cases o:F x with
 |none=>rw[o]at h;simp at h
 |some r=>
  obtain⟨ak,t⟩:=r;rw[o]at h;obtain⟨l,bO,n,g,i,d,b2⟩:=s σ x ak t o b u (.inBlock id::k) cs a ds w q;cases ak with
  |hD=>simp only[cb,g9]at h;obtain⟨rfl,rfl⟩:=h;exact⟨l,bO,n,g,i,d,.head Q7 (rv b2 (.one aCO))⟩
  |exit j=>
   simp only[xt]at h;obtain⟨eb,p,m⟩:=b2;by_cases f:j=id
   ·rw[cv f]at h;simp only[cb,g9]at h;obtain⟨rfl,rfl⟩:=h;subst f;refine⟨l,bO,n,g,i,d,.head Q7 (rv m (.one (aCN ?_)))⟩;rw[p];simp[exitTo]
   ·rw[bn f]at h;simp only[cb,g9]at h;obtain⟨rfl,rfl⟩:=h;refine⟨l,bO,n,g,i,d,eb,?_,.head Q7 m⟩;rw[p];have:(id==j)=false:=by simp;exact fun e=>f e.symm
    simp[exitTo,this]
  |ret=>simp only[cb,g9]at h;obtain⟨rfl,rfl⟩:=h;obtain⟨eb,m⟩:=b2;exact⟨l,bO,n,g,i,d,eb,.head Q7 m⟩
theorem aCb(G_:SX B){c:Code}{F:jH}(C:mc P ρ av B c F)(n:Nat):mc P ρ av B (.loop c) (BK F n):=by
 have key:∀(n:Nat) (σ:bl) (x:gp) (e:aD) (d:gp),BK F n x=some (e,d)->∀(b:lr),B σ b->∀(k:List Item) (cs:List Frame) (a:Array Value) (ds:List Deferred) (w:World),xn P ρ av σ x a ds w->
   ∃σ' q t w',xn P ρ av σ' d q t w'/\jj σ x.h w σ' d.h w'/\CU P (lone (fr b a ds (.code c::.inLoop c::k)) cs w) b q t k cs w' e:=by
  intro n;induction n with
  |zero=>intro σ x e d h;simp[BK]at h
  |succ n E=>
   intro σ x e d h b m k cs a ds w p;simp only[BK]at h;cases o:F x with
   |none=>rw[o]at h;simp at h
   |some r=>
    obtain⟨ak,s⟩:=r;rw[o]at h;obtain⟨j,bO,l,g,i,f,b2⟩:=C σ x ak s o b m (.inLoop c::k) cs a ds w p;cases ak with
    |hD=>simp only at h;obtain⟨G,cu,u,z,D,A,cL⟩:=E j s e d h b (G_ _ _ _ f.ext m) k cs bO l g i;exact⟨G,cu,u,z,D,f.trans A,.LQ (rv b2 (.one aCP)) cL⟩
    |exit id=>simp only[cb,g9]at h;obtain⟨rfl,rfl⟩:=h;obtain⟨eb,y,H⟩:=b2;exact⟨j,bO,l,g,i,f,eb,by rw[y];rfl,H⟩
    |ret=>simp only[cb,g9]at h;obtain⟨rfl,rfl⟩:=h;exact⟨j,bO,l,g,i,f,b2⟩
 intro σ x e d h b m k cs a ds w p;obtain⟨j,bO,l,g,i,f,b2⟩:=key n σ x e d h b m k cs a ds w p;exact⟨j,bO,l,g,i,f,.LQ (.one aCR) b2⟩
end
inductive oj where
 |pure (f:List K->Option K)
 |qv (f:List K->ay->Option K)
 |alloc (f:List K->Option em) (ret:List K->Nat->K)
 |q' (f:List K->ay->Option (K×ay))
def xs:oj->List K->ay->Option (K×ay)
 |.pure f,s,h=>match f s with|some v=>some (v,h)|none=>none
 |.qv f,s,h=>match f s h with|some v=>some (v,h)|none=>none
 |.alloc f ret,s,h=>match f s with
  |some x=>bif Nat.blt h.nx en then some (ret s h.nx,h.add x)else none
  |none=>none
 |.q' f,s,h=>f s h
def dW(σ:bl)(b:Nat)(p:lT):bl:=fun j=>if j=b then some p else σ j
theorem ke.dD{σ:bl}{b:Nat}{p:lT}(h:σ b=none):ke σ (dW σ b p):=fun j q a=>by
 unfold dW
 rw[bn]
 ·exact a
 ·intro e;subst e;rw[h]at a;cases a
def fm(o:Oper)(a:Array Value):List Value:=o.op.operands.toList.map (dT a)
def y2(P:Program)(ρ:b4)(o:Oper)(f:List K->ay->Option (K×ay)):Prop:=
 ∀σ s h a w v b,jE P σ->bU ρ σ s=some (fm o a)->c6 ρ σ h w->f s h=some (v,b)->
  CA P o a w fun c w'=>∃σ',aE ρ σ' v=some c/\c6 ρ σ' b w'/\jj σ h w σ' b w'
def xg(P:Program)(ρ:b4)(o:Oper)(f:List K->ay->Option K):Prop:=
 ∀σ s h a w v,jE P σ->bU ρ σ s=some (fm o a)->c6 ρ σ h w->f s h=some v->∃c,aE ρ σ v=some c/\(execOp (dT a) o).run P w=.ok (.value c) w
def ku(P:Program)(ρ:b4)(o:Oper)(f:List K->Option K):Prop:=
 ∀σ s a w v,jE P σ->bU ρ σ s=some (fm o a)->f s=some v->∃c,aE ρ σ v=some c/\(execOp (dT a) o).run P w=.ok (.value c) w
def E6(P:Program)(ρ:b4)(o:Oper)(f:List K->Option em)(ret:List K->Nat->K):Prop:=
 ∀σ s a w x b,jE P σ->bU ρ σ s=some (fm o a)->f s=some x->σ b=none->
  ∃obj tot d c,(execOp (dT a) o).run P w=.ok (.value c) {w with heap:=w.heap.push obj,drawn:=d}/\
   aE ρ (dW σ b ⟨w.heap.size,0,tot⟩) (ret s b)=some c/\io ρ (dW σ b ⟨w.heap.size,0,tot⟩) ⟨w.heap.size,0,tot⟩ (some obj) x
def rM(P:Program)(ρ:b4)(o:Oper):oj->Prop
 |.pure f=>ku P ρ o f
 |.qv f=>xg P ρ o f
 |.alloc f ret=>E6 P ρ o f ret
 |.q' f=>y2 P ρ o f
theorem c6.akA{ρ:b4}{σ:bl}{h:ay}{w w':World}(r:c6 ρ σ h w)(e:w'.heap=w.heap):c6 ρ σ h w':=
 ⟨fun b x A=>by rw[e];exact r.aU b x A,r.inj,r.jy⟩
theorem c6.add{ρ:b4}{σ:bl}{h:ay}{w:World}(r:c6 ρ σ h w){b:Nat}(A:σ b=none)(t:b<en){nx:Nat}(E:h.nx<=nx)(C:b<nx){obj:Obj}{tot d:Nat}{x:em} (u:io ρ (dW σ b ⟨w.heap.size,0,tot⟩) ⟨w.heap.size,0,tot⟩ (some obj) x): c6 ρ (dW σ b ⟨w.heap.size,0,tot⟩) ⟨h.t.set A' b (some x),nx⟩ {w with heap:=w.heap.push obj,drawn:=d}:=by
 have s:∀j,(⟨h.t.set A' b (some x),nx⟩:ay).cK j=if j=b then some x else h.cK j:=fun j=>ay.vb h b j (some x) t
 have D:∀y,h.cK b=some y->False:=fun y l=>by obtain⟨p,ag,_⟩:=r.aU b y l;rw[A]at ag;cases ag
 have old:∀j y,j≠b->h.cK j=some y->∃p,σ j=some p/\p.aU<w.heap.size/\io ρ σ p w.heap[p.aU]? y:=fun j y _ l=>by obtain⟨p,ag,f⟩:=r.aU j y l;refine⟨p,ag,?_,f⟩;refine abe fun B=>?_;rw[RA B]at f;cases y<;>simp[io]at f
 refine⟨fun j y a=>?_,fun j n y o p z a g ag c k=>?_,fun j a=>?_⟩
 ·rw[s]at a;by_cases e:j=b
  ·subst e;rw[cv rfl]at a;cases a;refine⟨⟨w.heap.size,0,tot⟩,by simp[dW],?_⟩;simpa using u
  ·rw[bn e]at a;obtain⟨p,ag,aq,f⟩:=old j y e a;refine⟨p,by simp[dW,e,ag],?_⟩;have:({w with heap:=w.heap.push obj,drawn:=d}:World).heap[p.aU]? =w.heap[p.aU]? :=by simp[MI,p3 aq]
   rw[this];exact f.ext (.dD A)
 ·rw[s]at a g;by_cases e:j=b
  ·subst e;rw[bn (ht k)]at g;obtain⟨q,i,aq,_⟩:=old n o (ht k) g;simp only[dW,cv,cb]at ag;simp only[dW,bn (ht k)]at c;rw[i]at c;cases c;subst ag;simp;omega
  ·rw[bn e]at a;obtain⟨q,i,aq,_⟩:=old j y e a;simp only[dW,bn e]at ag;rw[i]at ag;cases ag;by_cases m:n=b
   ·subst m;simp only[dW,cv,cb]at c;subst c;simp;omega
   ·rw[bn m]at g;simp only[dW,bn m]at c;exact r.inj j n y o _ z a g i c k
 ·have:j≠b:=by simp at a;omega
  simp only[dW,bn this];exact r.jy j (by simp at a;omega)
theorem jj.add{σ:bl}{h:ay}{w:World}{b:Nat}(A:σ b=none)(f:b<en)(i:h.nx<=b){nx:Nat}(k:h.nx<=nx){obj:Obj}{tot d:Nat}{x:em}:
  jj σ h w (dW σ b ⟨w.heap.size,0,tot⟩) ⟨h.t.set A' b (some x),nx⟩ {w with heap:=w.heap.push obj,drawn:=d} where
 ext:=.dD A
 eI:=fun j a g=>by
  by_cases e:j=b
  ·subst e;exact i
  ·simp[dW,e,a]at g
 nx:=k
 size:=am
 kept:=fun r c _=>by simp[MI,p3 c]
 nD:=fun r ⟨j,y,p,a,ag,c⟩=>by
  rw[show(⟨h.t.set A' b (some x),nx⟩:ay).cK j=if j=b then some x else h.cK j from ay.vb h b j (some x) f]at a
  by_cases e:j=b
  ·subst e
   simp only[dW,cv,cb]at ag
   subst ag
   left;simp at c;omega
  ·rw[bn e]at a
   simp only[dW,bn e]at ag
   exact .inr ⟨j,y,p,a,ag,c⟩
 os:=rfl
 output:=rfl
 tape:=rfl
theorem rM.q'{P:Program}{ρ:b4}{o:Oper}:∀{f:oj},rM P ρ o f->y2 P ρ o (xs f)
 |.pure f,g=>by
  intro σ s h a w v n l j b e
  simp only[xs]at e
  split at e
  ·rename_i u hu
   simp at e;obtain⟨rfl,rfl⟩:=e
   obtain⟨c,i,k⟩:=g σ s a w _ l j hu
   exact .inl ⟨c,w,k,σ,i,b,.refl _ _ _⟩
  ·simp at e
 |.qv f,g=>by
  intro σ s h a w v n l j b e
  simp only[xs]at e
  split at e
  ·rename_i u hu
   simp at e;obtain⟨rfl,rfl⟩:=e
   obtain⟨c,i,k⟩:=g σ s h a w _ l j b hu
   exact .inl ⟨c,w,k,σ,i,b,.refl _ _ _⟩
  ·simp at e
 |.alloc f ret,g=>by
  intro σ s h a w v n l j b e
  simp only[xs]at e
  split at e
  ·rename_i u hu
   cases aq:Nat.blt h.nx en with
   |false=>simp[aq]at e
   |true=>
    have m:h.nx<en:=by simpa using aq
    simp[aq]at e
    obtain⟨rfl,rfl⟩:=e
    have A:=b.jy h.nx (aZ _)
    obtain⟨obj,tot,d,c,k,i,p⟩:=g σ s a w u h.nx l j hu A
    exact .inl ⟨c,_,k,_,i,b.add A m (oT _) (Cv _) p,.add A m (aZ _) (oT _)⟩
  ·simp at e
 |.q' f,g=>g
def xE(x:K)(a:Bool):Option Bool:=match x with
 |.bool b=>some (b==a)
 |.sym _=>none
 |_=>some false
structure xl where
 guard:Option ((S->K)×Bool)
 dst:Option Nat
 aK:List (S->K)
 op:oj
def mm(aK:List (S->K))(s:S):List K:=match aK with
 |[]=>[]
 |x::l=>x s::mm l s
def oL(d:Option Nat)(v:K)(s:S):S:=match d with|some d=>put d v s|none=>s
def B3:List xl->S->ay->Option (S×ay)
 |[],s,h=>some (s,h)
 |o::l,s,h=>
  match (match o.guard with|none=>some true|some (x,b)=>xE (x s) b)with
  |some true=>match xs o.op (mm o.aK s) h with
   |some (v,a)=>B3 l (oL o.dst v s) a
   |none=>none
  |some false=>B3 l (oL o.dst pz s) h
  |none=>none
def IT(P:Program)(ρ:b4)(av:Nat):List Operand->List (S->K)->Prop
 |[],[]=>True
 |o::l,x::m=>IS P ρ av o x/\IT P ρ av l m
 |_,_=>False
theorem IT.aE{P:Program}{ρ:b4}{av:Nat}:∀{l:List Operand} {aK:List (S->K)},IT P ρ av l aK->∀{σ:bl} {s:S} {a:Array Value},jE P σ->mY ρ σ av s a->
  bU ρ σ (mm aK s)=some (l.map (dT a))
 |[],[],_,_,_,_,_,_=>rfl
 |o::l,x::m,⟨h,t⟩,σ,s,a,c,b=>by
  simp only[mm,bU,h σ s a c b,t.aE c b,oa]
 |[],_::_,h,_,_,_,_,_=>h.elim
 |_::_,[],h,_,_,_,_,_=>h.elim
structure NO (P:Program) (ρ:b4) (av:Nat) (ops:Array Oper) (o:Oper) (r:xl):Prop where
 op:rM P ρ o r.op
 aK:IT P ρ av o.op.operands.toList r.aK
 dst:r.dst=o.dst
 lt:∀t,o.dst=some t->t<av
 Qe:∀c,o.op≠ .defer c
 guard:match o.guard with
  |none=>r.guard=none
  |some (j,hr)=>∃t,(ops[j]?).bind (·.dst)=some t/\t<av/\r.guard=some (g t,hr)
theorem aaG{P:Program}{ρ:b4}{av:Nat}{ops:Array Oper}{o:Oper}{r:xl}(p:NO P ρ av ops o r){σ:bl}{s:S}{a:Array Value}(k:mY ρ σ av s a){t:Bool} (e:(match r.guard with|none=>some true|some (x,i)=>xE (x s) i)=some t):Region.wanted o (yielded ops a)=t:=by
 have h:=p.guard;unfold Region.wanted;cases m:o.guard with
 |none=>rw[m]at h;simp only at h;rw[h]at e;simp at e;simp[e]
 |some n=>
  obtain⟨j,i⟩:=n;rw[m]at h;simp only at h;obtain⟨u,hu,aq,w⟩:=h;rw[w]at e;simp only at e⊢;have d:=k.2.2 u aq;have z:a[u]? =some (a.getD u undef):=by
   have:u<a.size:=by rw[k.1];exact aq
   simp[Array.getD,this]
  unfold yielded;rw[hu];simp only[Cy,z];generalize a.getD u undef=c at d;generalize g u s=x at d e;cases x<;>simp only[xE,cb,reduceCtorEq]at e<;>simp only[aE]at d;case bool b=>cases d;subst e;cases b<;>cases i<;>rfl
  case str l=>split at d<;>cases d;subst e;rfl
  case fn f x y=>split at d<;>cases d;subst e;rfl
  all_goals
   subst e;first
    |(cases d;rfl)
    |(simp only[ig]at d;obtain⟨q,_,rfl⟩:=d;rfl)
theorem NW{P:Program}{b:lr}{a:Array Value}{ds:List Deferred}{k:List Item}{cs:List Frame}{w:World}{ops:Array Oper}{i:Nat}{rest:List Nat}{o:Oper}{R:Value->World->Prop} (j:ops[i]? =some o)(m:Region.wanted o (yielded ops a)=true)(hd:∀c,o.op≠ .defer c)(h:CA P o a w R):∃v w',R v w'/\Steps P (lone (fr b a ds (.inRegion ops (i::rest)::k)) cs w) (lone (fr b (qf o.dst v a) ds (.inRegion ops rest::k)) cs w'):=by
 have e:=aC9 (P:=P) (b:=b) (ds:=ds) (k:=k) (cs:=cs) (w:=w) (rest:=rest) j m hd;have zy:∀v,(fr b a ds (.inRegion ops (i::rest)::k)).finish v=fr b (qf o.dst v a) ds (.inRegion ops rest::k):=fun v=>by rw[afo,j];rfl
 rcases h with⟨v,w',d,r⟩|⟨w',d,r⟩|⟨f,args,g,d,ahD⟩|⟨l,f,t,x,y,g,d,ahD⟩
 ·refine⟨v,w',r,.one (mp ?_)⟩;rw[e,←zy];simp[stepG.apply,d]
 ·refine⟨undef,w',r,.one (mp ?_)⟩;rw[e,←zy];simp[stepG.apply,d]
 ·have H:step P (lone (fr b a ds (.inRegion ops (i::rest)::k)) cs w)=.next (lone (Frame.enter P f args .normal) (fr b a ds (.inRegion ops (i::rest)::k)::cs) g):=
   mp (by rw[e];simp[stepG.apply,d,fr])
  exact aiZ
 ·have H:step P (lone (fr b a ds (.inRegion ops (i::rest)::k)) cs w)=.next (lone (Frame.round l f t x y .normal) (fr b a ds (.inRegion ops (i::rest)::k)::cs) g):=
   mp (by rw[e];simp[stepG.apply,d])
  exact aiZ
theorem mY.oL{ρ:b4}{σ:bl}{av:Nat}{s:S}{a:Array Value}(h:mY ρ σ av s a){d:Option Nat}(hd:∀t,d=some t->t<av){v:K}{c:Value}(J:aE ρ σ v=some c): mY ρ σ av (ch.oL d v s) (qf d c a):=by
 cases d with
 |none=>exact h
 |some t=>exact h.put (hd t rfl) J
theorem JI(ρ:b4)(σ:bl):aE ρ σ pz=some undef:=by simp[pz,aE,bU,undef]
def NP(P:Program)(ρ:b4)(av:Nat)(ops:Array Oper):List Oper->List xl->Prop
 |[],[]=>True
 |o::l,r::m=>NO P ρ av ops o r/\NP P ρ av ops l m
 |_,_=>False
theorem X5{P:Program}{ρ:b4}{av:Nat}{ops:Array Oper}:∀(l:List Oper) (rs:List xl) (j:Nat),NP P ρ av ops l rs->(∀i,ops[j+i]? =l[i]?)->
  ∀(σ:bl) (s:S) (h:ay) (m:S) (g:ay),B3 rs s h=some (m,g)->
  ∀(b:lr) (k:List Item) (cs:List Frame) (a:Array Value) (ds:List Deferred) (w:World),jE P σ->mY ρ σ av s a->c6 ρ σ h w->
  ∃σ' F w',mY ρ σ' av m F/\c6 ρ σ' g w'/\jj σ h w σ' g w'/\Steps P (lone (fr b a ds (.inRegion ops (List.range' j l.length)::k)) cs w) (lone (fr b F ds k) cs w')
 |[],[],j,_,_,σ,s,h,m,g,e,b,k,cs,a,ds,w,n,f,p=>by
  simp only[B3,cb,g9]at e
  obtain⟨rfl,rfl⟩:=e
  exact⟨σ,a,w,f,p,.refl _ _ _,.one amv⟩
 |o::l,r::rs,j,⟨d,G⟩,D,σ,s,h,m,g,e,b,k,cs,a,ds,w,n,f,p=>by
  have y:ops[j]? =some o:=by simpa using D 0
  have E:∀i,ops[j+1+i]? =l[i]? :=fun i=>by have:=D (i+1);simpa[kr,sz 1 i]using this
  simp only[B3]at e
  split at e
  ·rename_i ah
   have z:=aaG d f ah
   split at e
   ·rename_i v H J
    have M:=d.op.q' σ _ h a w v H n (d.aK.aE n f) p J
    obtain⟨c,L,⟨N,K,I,q⟩,aj⟩:=NW (b:=b) (ds:=ds) (k:=k) (cs:=cs) (rest:=List.range' (j+1) l.length) y z d.Qe M
    rw[d.dst]at e
    obtain⟨A,cu,x,B,u,C,t⟩:=X5 l rs (j+1) G E N _ H m g e b k cs (qf o.dst c a) ds L (n.ext q.ext) ((f.ext q.ext).oL d.lt K) I
    exact⟨A,cu,x,B,u,q.trans C,aj.trans t⟩
   ·simp at e
  ·rename_i ah
   have z:=aaG d f ah
   have aj:=amu (P:=P) (b:=b) (a:=a) (ds:=ds) (k:=k) (cs:=cs) (w:=w) (ops:=ops) (i:=j) (rest:=List.range' (j+1) l.length) (by simp[y,z])
   simp only[y,Cy]at aj
   rw[d.dst]at e
   obtain⟨A,cu,x,B,u,C,t⟩:=X5 l rs (j+1) G E σ _ h m g e b k cs (qf o.dst undef a) ds w n (f.oL d.lt (JI ρ σ)) p
   exact⟨A,cu,x,B,u,C,.head aj t⟩
  ·simp at e
 |[],_::_,_,h,_,_,_,_,_,_,_,_,_,_,_,_,_,_,_,_=>h.elim
 |_::_,[],_,h,_,_,_,_,_,_,_,_,_,_,_,_,_,_,_,_=>h.elim
def QR(rs:List xl):jH:=fun x=>match B3 rs x.s x.h with
 |some (s,h)=>some (.hD,⟨s,h,x.gA⟩)
 |none=>none
theorem aCe{P:Program}{ρ:b4}{av:Nat}{B:bl->lr->Prop}{id:Nat}{ops:Array Oper}{rs:List xl}(f:NP P ρ av ops ops.toList rs):mc P ρ av B (.region id ops false) (QR rs):=by
 intro σ x e q h b _ k cs a ds w c;unfold QR at h;split at h
 ·rename_i n j m;simp only[cb,g9]at h;obtain⟨rfl,rfl⟩:=h;obtain⟨o,bO,g,l,H,d,aj⟩:=X5 ops.toList rs 0 f (fun i=>am) σ x.s x.h n j m b k cs a ds w c.g c.s c.h;refine⟨o,bO,ds,g,⟨l,H,JM d.ext c.d,c.g.ext d.ext⟩,d,.head aCX ?_⟩;simpa[List.range_eq_range']using aj
 ·simp at h
inductive FC (ops:Array Oper):(Nat->Bool)->List Nat->Prop
 |nil {D:Nat->Bool}:(∀i,i<ops.size->D i=true)->FC ops D []
 |cons {D:Nat->Bool} {i:Nat} {o:Oper} {l:List Nat}:ops[i]? =some o->D i=false->(∀e∈o.after.toList,Region.binds .any e=true->D e.on=true)->
  FC ops (fun j=>D j||j==i) l->FC ops D (i::l)
def R3(ops:Array Oper):Prop:=∀i o,ops[i]? =some o->∀e∈o.after.toList,Region.binds .any e=true->e.on<i
theorem aix(D:Nat->Bool):∀n,(∃i,i<n/\D i=false)->∃i,i<n/\D i=false/\∀j,j<i->D j=true
 |0,⟨i,h,_⟩=>by omega
 |n+1,⟨i,h,hi⟩=>by
  by_cases a:∃i,i<n/\D i=false
  ·obtain⟨k,H,I,c⟩:=aix D n a
   exact⟨k,z,I,c⟩
  ·have:i=n:=by
    by_cases e:i<n
    ·exact(a ⟨i,e,hi⟩).elim
    ·omega
   subst this
   refine⟨i,h,hi,fun j b=>?_⟩
   cases hd:D j with
   |true=>rfl
   |false=>exact(a ⟨j,b,hd⟩).elim
def Cd(n:Nat)(D:Nat->Bool):Nat:=((List.range n).filter fun i=> !D i).length
theorem aEH{n:Nat}{D:Nat->Bool}(h:Cd n D=0)(i:Nat)(hi:i<n):D i=true:=by
 unfold Cd at h;have:=HS.1 h;rw[anC]at this;have:=this i (ts.2 hi);simpa using this
theorem afm(D:Nat->Bool)(i:Nat)(c:D i=false):∀(l:List Nat),l.Nodup->i∈l->(l.filter fun j=> !D j).length=(l.filter fun j=> !(D j||j==i)).length+1
 |[],_,h=>by cases h
 |a::l,b,h=>by
  rw[List.nodup_cons]at b
  by_cases e:a=i
  ·subst e
   have:(l.filter fun j=> !(D j||j==a))=l.filter fun j=> !D j:=by
    apply List.filter_congr
    intro j d
    have:j≠a:=fun e=>b.1 (e▸d)
    simp[this]
   rw[aa8,aa8,this]
   simp[c]
  ·have hi:i∈l:=by
    cases h with
    |head=>exact(e rfl).elim
    |tail _ h=>exact h
   have f:=afm D i c l b.2 hi
   simp only[aa8]
   have:(a==i)=false:=by simpa using e
   cases g:D a<;>simp[this]at f⊢ <;>omega
theorem aEG{n i:Nat}{D:Nat->Bool}(hi:i<n)(a:D i=false):Cd n D=Cd n (fun j=>D j||j==i)+1:=
 afm D i a _ List.nodup_range (ts.2 hi)
theorem aiB{ops:Array Oper}(A:R3 ops):∀(q t:Nat) (c:Array Bool) (k:List Nat) (D:Nat->Bool),c.size=ops.size->(∀i,i<ops.size->c.getD i true=D i)->(∀i,ops.size<=i->D i=true∨D i=false)->
  (∀i,i<ops.size->c.getD i false=D i)->Cd ops.size D=q->(∀i,ops.size<=i->D i=false)->
  ∃n,Region.linearise.go .any ops q t c k=k.reverse++n/\FC ops D n
 |0,t,c,k,D,f,H,_,I,hu,C=>⟨[],by simp[Region.linearise.go],.nil fun i hi=>aEH hu i hi⟩
 |q+1,t,c,k,D,f,H,S,I,hu,C=>by
  have J:∃i,i<ops.size/\D i=false:=by
   apply Classical.byContradiction
   intro G
   have:Cd ops.size D=0:=by
    unfold Cd
    rw[HS,anC]
    intro a r
    have r:=ts.1 r
    cases hd:D a with
    |true=>simp
    |false=>exact(G ⟨a,r,hd⟩).elim
   omega
  obtain⟨g,w,L,N⟩:=aix D ops.size J
  rw[Region.linearise.go]
  generalize E:((List.range ops.size).filter fun i=>
    !c.getD i true&&((ops[i]?).map (·.after.all fun e=> !Region.binds .any e||c.getD e.on false)).getD false)=rs
  have P:rs≠[]:=by
   intro M
   have x:g∈rs:=by
    rw[←E,yP]
    refine⟨ts.2 w,?_⟩
    have d:ops[g]? =some ops[g]:=by simp[w]
    simp only[H g w,L,d,ob,H2,MJ,Bool.true_and,ani]
    intro e o
    by_cases m:Region.binds .any e=true
    ·have aq:=A g _ d e (by simpa using o) m
     simp[I e.on z,N e.on aq]
    ·simp[m]
   rw[M]at x;cases x
  have Q:0<rs.length:=by
   cases rs with
   |nil=>exact(P rfl).elim
   |cons a l=>simp
  have aq:=w2 t Q
  have u:rs[t%rs.length]? =some rs[t%rs.length]:=by simp[aq]
  generalize rs[t%rs.length]=i at u
  rw[u]
  simp only
  have B:i∈rs:=Aw u
  rw[←E,yP]at B
  obtain⟨hi,ag⟩:=B
  have hi:=ts.1 hi
  have d:ops[i]? =some ops[i]:=by simp[hi]
  simp only[H i hi,d,ob,H2,dz,Bool.not_eq_true',ani]at ag
  obtain⟨y,F⟩:=ag
  have R:=aiB A q (t/rs.length) (c.setIfInBounds i true) (i::k) (fun j=>D j||j==i) (by simpa using f)
   (fun j b=>by
    by_cases e:j=i
    ·subst e;simp[Array.getD,f,b]
    ·have:=H j b
     have s:(j==i)=false:=by simpa using e
     simp[Array.getD,f,b,RC,ht e,s]at this⊢
     exact this)
   (fun j _=>by cases (D j||j==i)<;>simp)
   (fun j b=>by
    by_cases e:j=i
    ·subst e;simp[Array.getD,f,b]
    ·have:=I j b
     have s:(j==i)=false:=by simpa using e
     simp[Array.getD,f,b,RC,ht e,s]at this⊢
     exact this)
   (by have:=aEG hi y;omega)
   (fun j b=>by
    have:(j==i)=false:=bu
    simp[C j b,this])
  obtain⟨n,O,K⟩:=R
  refine⟨i::n,by rw[O];simp,.cons d y (fun e o m=>?_) K⟩
  have:=F e (by simpa using o)
  rw[m]at this
  have aq:=A i _ d e o m
  rw[I e.on z]at this
  simpa using this
theorem aBS{ops:Array Oper}(A:R3 ops)(t:Nat):FC ops (fun _=>false) (Region.schedule true ops t):=by
 unfold Region.schedule;simp only[Bool.true_or,sA];unfold Region.linearise;obtain⟨b,h,a⟩:=aiB A ops.size t (Array.replicate ops.size false) [] (fun _=>false) am (fun i hi=>by simp[Array.getD,hi]) (fun _ _=>.inr rfl)
  (fun i hi=>by simp[Array.getD,hi]) (by simp only[Cd,MJ];rw[List.filter_eq_self.2 (fun _ _=>rfl)];simp) (fun _ _=>rfl)
 rw[h];simpa using a
mutual
def K.beq:K->K->Bool
 |.int k n,.int j m=>decide (k=j)&&decide (n=m)
 |.bool a,.bool b=>a==b
 |.str a,.str b=>decide (a=b)
 |.jo a b,.jo c d=>Nat.beq a c&&Nat.beq b d
 |.pV,.pV=>true
 |.slice a b c d e,.slice g i h l o=>Nat.beq a g&&Nat.beq b i&&Nat.beq c h&&Nat.beq d l&&decide (e=o)
 |.bS,.bS=>true
 |.map a,.map b=>Nat.beq a b
 |.uo,.uo=>true
 |.fn f a c,.fn r g h=>Nat.beq f r&&K.oo a g&&K.oo c h
 |.rt a,.rt b=>Nat.beq a b
 |.wS,.wS=>true
 |.iface t v,.iface q p=>Nat.beq t q&&K.beq v p
 |.BR,.BR=>true
 |.agg a,.agg b=>K.oo a b
 |.tup a,.tup b=>K.oo a b
 |.sym a,.sym b=>Nat.beq a b
 |.jx a b c d,.jx g i h l=>Nat.beq a g&&Nat.beq b i&&Nat.beq c h&&Nat.beq d l
 |_,_=>false
def K.oo:List K->List K->Bool
 |[],[]=>true
 |a::l,b::m=>K.beq a b&&K.oo l m
 |_,_=>false
end
mutual
theorem K.beq_eq:∀{a b:K},K.beq a b=true->a=b
 |.int k n,b,h=>by cases b<;>simp[K.beq]at h;simp[h]
 |.bool _,b,h=>by cases b<;>simp[K.beq]at h;simp[h]
 |.str _,b,h=>by cases b<;>simp[K.beq]at h;simp[h]
 |.jo _ _,b,h=>by cases b<;>simp[K.beq]at h;simp[h]
 |.pV,b,h=>by cases b<;>simp[K.beq]at h;rfl
 |.slice ..,b,h=>by cases b<;>simp[K.beq]at h;simp[h]
 |.bS,b,h=>by cases b<;>simp[K.beq]at h;rfl
 |.map _,b,h=>by cases b<;>simp[K.beq]at h;simp[h]
 |.uo,b,h=>by cases b<;>simp[K.beq]at h;rfl
 |.fn f x y,b,h=>by
  cases b<;>simp only[K.beq,dz,p0]at h
  obtain⟨⟨H,I⟩,c⟩:=h
  rw[gV H,K.sN I,K.sN c]
 |.rt _,b,h=>by cases b<;>simp[K.beq]at h;simp[h]
 |.wS,b,h=>by cases b<;>simp[K.beq]at h;rfl
 |.iface t v,b,h=>by
  cases b<;>simp only[K.beq,dz,p0]at h
  obtain⟨H,I⟩:=h
  rw[gV H,K.beq_eq I]
 |.BR,b,h=>by cases b<;>simp[K.beq]at h;rfl
 |.agg l,b,h=>by
  cases b<;>simp only[K.beq,p0]at h
  rw[K.sN h]
 |.tup l,b,h=>by
  cases b<;>simp only[K.beq,p0]at h
  rw[K.sN h]
 |.sym _,b,h=>by cases b<;>simp[K.beq]at h;simp[h]
 |.jx ..,b,h=>by cases b<;>simp[K.beq]at h;simp[h]
theorem K.sN:∀{a b:List K},K.oo a b=true->a=b
 |[],[],_=>rfl
 |a::l,b::m,h=>by
  simp only[K.oo,dz]at h
  rw[K.beq_eq h.1,K.sN h.2]
 |[],_::_,h=>by simp[K.oo]at h
 |_::_,[],h=>by simp[K.oo]at h
end
structure fx where
 r:xl
 slots:List Nat
 pre:Nat
inductive hK where
 |skip
 |tf (v:K)
 |ya (f:List K->ay->Option K) (aK:List K) (v:K)
 |ka (b:Nat) (x:em) (v:K)
 |J (v:K) (fJ mF:ay)
def hK.val:hK->K
 |.skip=>pz
 |.tf v=>v
 |.ya _ _ v=>v
 |.ka _ _ v=>v
 |.J v _ _=>v
abbrev rO:=Nat×Nat×em
def uN(h:ay):List rO->ay
 |[]=>h
 |q::l=>uN (h.dD q.2.1 (some q.2.2)) l
def Ke(o:xl)(s:S):Option Bool:=match o.guard with|none=>some true|some (x,a)=>xE (x s) a
def wR(d:fx)(i:Nat)(p:List rO):hK->List rO
 |.J _ _ _=>p.filter fun q=> !d.pre.testBit q.1
 |.ka b x _=>(i,b,x)::p
 |_=>p
def akm(h:ay):hK->ay
 |.J _ _ a=>a
 |_=>h
def EN(d:fx)(s:S)(a:ay)(p:List rO)(rb:Nat):Option hK:=
 match Ke d.r s with
 |none=>none
 |some false=>some .skip
 |some true=>
  match d.r.op with
  |.pure f=>match f (mm d.r.aK s)with|some v=>some (.tf v)|none=>none
  |.qv f=>match f (mm d.r.aK s) a with|some v=>some (.ya f (mm d.r.aK s) v)|none=>none
  |.alloc f ret=>match f (mm d.r.aK s)with|some x=>some (.ka rb x (ret (mm d.r.aK s) rb))|none=>none
  |.q' f=>match f (mm d.r.aK s) (uN a (p.filter fun q=>d.pre.testBit q.1))with
   |some (v,b)=>some (.J v (uN a (p.filter fun q=>d.pre.testBit q.1)) b)
   |none=>none
def Jl(rb:Nat):hK->Nat
 |.ka _ _ _=>rb+1
 |_=>rb
def JU:List fx->Nat->S->ay->List rO->Nat->Option (List hK×S×ay×List rO×Nat)
 |[],_,s,a,p,rb=>some ([],s,a,p,rb)
 |d::l,i,s,a,p,rb=>
  match EN d s a p rb with
  |none=>none
  |some ey=>match JU l (i+1) (oL d.r.dst ey.val s) (akm a ey) (wR d i p ey) (Jl rb ey)with
   |none=>none
   |some (tr,r)=>some (ey::tr,r)
def jd:List fx->List hK->Nat->List (Nat×Nat×ay)
 |d::l,.J _ _ h::tr,i=>(i,d.pre,h)::jd l tr (i+1)
 |_::l,_::tr,i=>jd l tr (i+1)
 |_,_,_=>[]
def zj:List (Nat×Nat×ay)->Bool
 |[]=>true
 |x::l=>l.all (fun y=>y.2.1.testBit x.1)&&zj l
def J5(a:Option K)(v:K):Bool:=match a with|some u=>K.beq u v|none=>false
def De(i pre:Nat)(f:ay->Option K)(v:K):ay->List (Nat×Nat×ay)->Bool
 |h,[]=>J5 (f h) v
 |h,y::l=>bif y.2.1.testBit i then J5 (f h) v else(bif pre.testBit y.1 then true else J5 (f h) v)&&De i pre f v y.2.2 l
def wi(ab:ay)(a:List (Nat×Nat×ay)):List fx->List hK->Nat->Bool
 |d::l,.ya f aK v::tr,i=>De i d.pre (f aK) v ab a&&wi ab a l tr (i+1)
 |_::l,_::tr,i=>wi ab a l tr (i+1)
 |_,_,_=>true
def JT(rs:List fx)(a:Nat):jH:=fun x=>
 bif Nat.blt (x.h.nx+a) en then
  match JU rs 0 x.s ⟨x.h.t,x.h.nx+a⟩ [] x.h.nx with
  |some (tr,s,h,p,rb)=>
   bif Nat.ble rb (x.h.nx+a)&&(let b:=jd rs tr 0;zj b&&wi ⟨x.h.t,x.h.nx+a⟩ b rs tr 0)then some (.hD,⟨s,uN h p,x.gA⟩)else none
  |none=>none
 else none
def Af(av:Nat)(ops:List Oper)(rs:List fx):Bool:=
 let n:=ops.length
 (List.range n).all fun i=>
  match ops[i]?,rs[i]? with
  |some o,some d=>
   (o.after.toList.all fun e=> !Region.binds .any e||decide (e.on<i))&&
   ((List.range n).all fun j=> !d.pre.testBit j||(o.after.toList.any fun e=>Region.binds .any e&&(e.on==j||((rs[e.on]?).map (·.pre.testBit j)).getD false)))&&
   (match d.r.dst with|some t=>decide (t<av)|none=>true)&&
   (d.slots.all fun t=>decide (t<av))&&
   ((
    List.range n).all fun j=>
    match rs[j]? with
    |some a=>match a.r.dst with
     |some t=>i==j|| !(d.slots.contains t||d.r.dst==some t)||(if j<i then d.pre.testBit j else a.pre.testBit i)
     |none=>true
    |none=>true)
  |_,_=>false
def oM:List fx->List hK->Nat->S->S
 |d::l,ey::tr,k+1,s=>oM l tr k (oL d.r.dst ey.val s)
 |_,_,_,s=>s
def rY:List hK->Nat->ay->ay
 |ey::tr,k+1,h=>rY tr k (akm h ey)
 |_,_,h=>h
def mL:List fx->List hK->Nat->Nat->List rO->List rO
 |d::l,ey::tr,i,k+1,p=>mL l tr (i+1) k (wR d i p ey)
 |_,_,_,_,p=>p
def km:List hK->Nat->Nat->Nat
 |ey::tr,k+1,rb=>km tr k (Jl rb ey)
 |_,_,rb=>rb
theorem aeQ:∀{rs:List fx} {i:Nat} {s:S} {a:ay} {p:List rO} {rb:Nat} {tr:List hK} {f:S} {b:ay} {e:List rO} {g:Nat},
  JU rs i s a p rb=some (tr,f,b,e,g)->
  tr.length=rs.length/\f=oM rs tr rs.length s/\b=rY tr rs.length a/\e=mL rs tr i rs.length p/\g=km tr rs.length rb/\
  ∀k d,rs[k]? =some d->∃ey,tr[k]? =some ey/\EN d (oM rs tr k s) (rY tr k a) (mL rs tr i k p) (km tr k rb)=some ey
 |[],i,s,a,p,rb,tr,f,b,e,g,h=>by
  simp only[JU,cb,g9]at h
  obtain⟨rfl,rfl,rfl,rfl,rfl⟩:=h
  simp[oM,rY,mL,km]
 |d::l,i,s,a,p,rb,tr,f,b,e,g,h=>by
  simp only[JU]at h
  split at h
  ·simp at h
  ·rename_i ey y
   split at h
   ·simp at h
   ·rename_i z q j
    obtain⟨bO,cu,a3,a4⟩:=q
    simp only[cb,g9]at h
    obtain⟨rfl,rfl,rfl,rfl,rfl⟩:=h
    obtain⟨H,I,o,n,t,x⟩:=aeQ j
    refine⟨by simp[H],by simpa[oM]using I,by simpa[rY]using o,by simpa[mL]using n,by simpa[km]using t,fun k w c=>?_⟩
    cases k with
    |zero=>
     simp at c;subst c
     exact⟨ey,am,by simpa[oM,rY,mL,km]using y⟩
    |succ k=>
     simp at c
     obtain⟨m,r,u⟩:=x k w c
     exact⟨m,by simpa using r,by simpa[oM,rY,mL,km]using u⟩
def qu(D:Nat->Bool):List fx->List hK->Nat->Nat->K->K
 |d::l,ey::tr,i,t,v=>qu D l tr (i+1) t (if D i=true/\d.r.dst=some t then ey.val else v)
 |_,_,_,_,v=>v
theorem afA{t:Nat}(ah:t<256){d:Option Nat}(hd:∀u,d=some u->u<256)(v:K)(s:S):g t (oL d v s)=if d=some t then v else g t s:=by
 cases d with
 |none=>simp[oL]
 |some u=>
  simp only[oL,cb];by_cases e:u=t
  ·subst e;rw[cv rfl,UZ]
  ·rw[bn e];exact UY t u v s z (by have:=hd u rfl;omega) (ht e)
theorem PT{D D':Nat->Bool}{t:Nat}:∀{rs:List fx} {tr:List hK} {i:Nat} {v:K},(∀j d,rs[j]? =some d->d.r.dst=some t->D (i+j)=D' (i+j))->qu D rs tr i t v=qu D' rs tr i t v
 |[],_,_,_,_=>rfl
 |_::_,[],_,_,_=>rfl
 |d::l,ey::tr,i,v,h=>by
  simp only[qu]
  have ab:=h 0 d am
  have:(if D i=true/\d.r.dst=some t then ey.val else v)=(if D' i=true/\d.r.dst=some t then ey.val else v):=by
   by_cases e:d.r.dst=some t
   ·have:=ab e
    simp at this
    simp[e,this]
   ·simp[e]
  rw[this]
  exact PT fun j b a hd=>by
   have:=h (j+1) b (by simpa using a) hd
   simpa[kr,sz 1 j]using this
theorem PU{D:Nat->Bool}{t:Nat}:∀{rs:List fx} {tr:List hK} {i:Nat} {v:K},(∀j d,rs[j]? =some d->d.r.dst=some t->D (i+j)=false)->qu D rs tr i t v=v
 |[],_,_,_,_=>rfl
 |_::_,[],_,_,_=>rfl
 |d::l,ey::tr,i,v,h=>by
  simp only[qu]
  have ab:=h 0 d am
  have:(if D i=true/\d.r.dst=some t then ey.val else v)=v:=by
   rw[bn]
   rintro⟨H,I⟩
   have:=ab I
   simp at this
   rw[this]at H;cases H
  rw[this]
  exact PU fun j b a hd=>by
   have:=h (j+1) b (by simpa using a) hd
   simpa[kr,sz 1 j]using this
theorem ait{D:Nat->Bool}{t:Nat}:∀{rs:List fx} {tr:List hK} {i k:Nat} {v:K} {d:fx} {ey:hK},rs[k]? =some d->tr[k]? =some ey->d.r.dst=some t->D (i+k)=true->
  (∀j a,k<j->rs[j]? =some a->a.r.dst=some t->D (i+j)=false)->qu D rs tr i t v=ey.val
 |[],_,_,k,_,_,_,h,_,_,_,_=>by simp at h
 |_::_,[],_,k,_,_,_,_,h,_,_,_=>by simp at h
 |q::l,o::tr,i,k,v,d,ey,hd,b,g,c,f=>by
  simp only[qu]
  cases k with
  |zero=>
   simp at hd b
   subst hd;subst b
   simp at c
   rw[cv ⟨c,g⟩]
   exact PU fun j a e hd=>by
    have:=f (j+1) a z (by simpa using e) hd
    simpa[kr,sz 1 j]using this
  |succ k=>
   simp at hd b
   exact ait hd b g (by simpa[kr,sz 1 k]using c) fun j a e n m=>by
    have:=f (j+1) a z (by simpa using n) m
    simpa[kr,sz 1 j]using this
theorem U0{t:Nat}(ah:t<256):∀{rs:List fx} {tr:List hK} {i k:Nat} {s:S},(∀d∈rs,∀u,d.r.dst=some u->u<256)->
  g t (oM rs tr k s)=qu (fun j=>decide (j<i+k)) rs tr i t (g t s)
 |[],_,_,_,_,_=>by simp[oM,qu]
 |_::_,[],_,_,_,_=>by simp[oM,qu]
 |d::l,ey::tr,i,k,s,h=>by
  cases k with
  |zero=>
   simp only[oM,hG]
   rw[PU]
   intro j a _ _
   simp
  |succ k=>
   simp only[oM,qu]
   rw[U0 ah (i:=i+1) fun a b=>h a (i6 _ b),afA ah (h d am)]
   have e:(fun j=>decide (j<i+1+k))=(fun j=>decide (j<i+(k+1))):=by funext j;congr 1;simp;omega
   rw[e]
   congr 1
   simp
def ri(h:ay):List (Nat×Nat×ay)->ay
 |[]=>h
 |y::l=>ri y.2.2 l
theorem G3(h:ay):∀(l m:List (Nat×Nat×ay)),ri h (l++m)=ri (ri h l) m
 |[],_=>rfl
 |y::l,m=>by simp[ri,G3 y.2.2 l m]
def pc:List fx->List hK->Nat->Nat->List (Nat×Nat×ay)
 |d::l,ey::tr,i,k+1=>(match ey with|.J _ _ h=>[(i,d.pre,h)]|_=>[])++pc l tr (i+1) k
 |_,_,_,_=>[]
theorem W8:∀{rs:List fx} {tr:List hK} {i k:Nat} {h:ay},tr.length=rs.length->ri h (pc rs tr i k)=rY tr k h
 |[],[],_,_,_,_=>rfl
 |d::l,ey::tr,i,0,h,_=>rfl
 |d::l,ey::tr,i,k+1,h,a=>by
  simp only[pc,rY,G3]
  rw[W8 (by simpa using a)]
  cases ey<;>rfl
 |[],_::_,_,_,_,a=>by simp at a
 |_::_,[],_,_,_,a=>by simp at a
theorem agV:∀{rs:List fx} {tr:List hK} {i k:Nat} {d:fx} {v:K} {b a:ay},rs[k]? =some d->tr[k]? =some (.J v b a)->
  ∃B,jd rs tr i=pc rs tr i k++(i+k,d.pre,a)::B
 |[],_,_,_,_,_,_,_,h,_=>by simp at h
 |_::_,[],_,_,_,_,_,_,_,h=>by simp at h
 |g::l,c::tr,i,0,d,v,b,a,hd,ah=>by
  simp at hd ah;subst hd;subst ah
  exact⟨jd l tr (i+1),by simp[jd,pc]⟩
 |g::l,c::tr,i,k+1,d,v,b,a,hd,ah=>by
  simp at hd ah
  obtain⟨B,f⟩:=agV (i:=i+1) hd ah
  refine⟨B,?_⟩
  have e:i+1+k=i+(k+1):=z
  rw[e]at f
  cases c<;>simp[jd,pc,f]
theorem Bp:∀{rs:List fx} {tr:List hK} {i:Nat} {y:Nat×Nat×ay},y∈jd rs tr i->∃k d v a,y.1=i+k/\rs[k]? =some d/\tr[k]? =some (.J v a y.2.2)/\y.2.1=d.pre
 |[],_,_,_,h=>by simp[jd]at h
 |_::_,[],_,_,h=>by simp[jd]at h
 |e::l,c::tr,i,y,h=>by
  have b:y∈jd l tr (i+1)->∃k d v a,y.1=i+k/\(e::l)[k]? =some d/\(c::tr)[k]? =some (.J v a y.2.2)/\y.2.1=d.pre:=fun h=>by
   obtain⟨k,d,v,a,H,I,g,f⟩:=Bp h
   exact⟨k+1,d,v,a,z,by simpa using I,by simpa using g,f⟩
  cases c with
  |J v a j=>
   simp only[jd,gl]at h
   rcases h with h|h
   ·subst h;exact⟨0,e,v,a,am,am,am,rfl⟩
   ·exact b h
  |skip=>exact b (by simpa[jd]using h)
  |tf _=>exact b (by simpa[jd]using h)
  |ya _ _ _=>exact b (by simpa[jd]using h)
  |ka _ _ _=>exact b (by simpa[jd]using h)
theorem ad6:∀{l d B:List (Nat×Nat×ay)} {x:Nat×Nat×ay},zj l=true->l=d++x::B->(∀y∈d,x.2.1.testBit y.1=true)/\(∀y∈B,y.2.1.testBit x.1=true)
 |[],d,B,x,_,h=>by simp at h
 |ae::l,[],B,x,b,h=>by
  simp at h
  obtain⟨rfl,rfl⟩:=h
  simp only[zj,dz,hs]at b
  exact⟨(fun y c=>by cases c),b.1⟩
 |ae::l,a::d,B,x,b,h=>by
  simp at h
  obtain⟨rfl,rfl⟩:=h
  simp only[zj,dz,hs]at b
  obtain⟨H,I⟩:=ad6 b.2 rfl
  refine⟨fun y c=>?_,I⟩
  cases c with
  |head=>exact b.1 x am
  |tail _ c=>exact H y c
theorem UA{a:Option K}{v:K}(h:J5 a v=true):a=some v:=by
 unfold J5 at h;split at h
 ·rw[K.beq_eq h]
 ·cases h
theorem ad4{i pre:Nat}{f:ay->Option K}{v:K}:∀{b2 cL:List (Nat×Nat×ay)} {h:ay},De i pre f v h (b2++cL)=true->(∀y∈b2,y.2.1.testBit i=false)->(∀y∈cL,pre.testBit y.1=false)->
  f (ri h b2)=some v
 |[],[],h,a,_,_=>UA (by simpa[De,ri]using a)
 |[],y::cL,h,a,_,I=>by
  simp only[vF,De]at a
  have:=I y am
  cases b:y.2.1.testBit i with
  |true=>simp[b]at a;exact UA a
  |false=>simp[b,this]at a;exact UA a.1
 |y::b2,cL,h,a,H,I=>by
  simp only[RJ,De,H y am,iK,dz]at a
  rw[ri]
  exact ad4 a.2 (fun ae c=>H ae (i6 _ c)) I
theorem ad5{ab:ay}{b:List (Nat×Nat×ay)}:∀{rs:List fx} {tr:List hK} {i k:Nat} {d:fx} {f:List K->ay->Option K} {aK:List K} {v:K},wi ab b rs tr i=true->rs[k]? =some d->tr[k]? =some (.ya f aK v)->
  De (i+k) d.pre (f aK) v ab b=true
 |[],_,_,_,_,_,_,_,_,h,_=>by simp at h
 |_::_,[],_,_,_,_,_,_,_,_,h=>by simp at h
 |e::l,c::tr,i,0,d,f,aK,v,a,hd,ah=>by
  simp at hd ah;subst hd;subst ah
  simp only[wi,dz]at a
  exact a.1
 |e::l,c::tr,i,k+1,d,f,aK,v,a,hd,ah=>by
  simp at hd ah
  have g:wi ab b l tr (i+1)=true:=by cases c<;>simp[wi]at a<;>first|exact a|exact a.2
  have:=ad5 g hd ah
  simpa[kr,sz 1 k]using this
theorem ak6:∀{rs:List fx} {tr:List hK} {i k:Nat} {p:List rO} {q:rO},(∀q∈p,q.1<i)->q∈mL rs tr i k p->
  (q∈p∨ ∃m v,m<k/\q.1=i+m/\tr[m]? =some (.ka q.2.1 q.2.2 v))/\∀y∈pc rs tr i k,q.1<y.1->y.2.1.testBit q.1=false
 |[],_,_,_,_,_,_,h=>⟨.inl (by simpa[mL]using h),fun y e=>by simp[pc]at e⟩
 |_::_,[],_,_,_,_,_,h=>⟨.inl (by simpa[mL]using h),fun y e=>by simp[pc]at e⟩
 |d::l,ey::tr,i,0,p,q,_,h=>⟨.inl (by simpa[mL]using h),fun y e=>by simp[pc]at e⟩
 |d::l,ey::tr,i,k+1,p,q,ag,h=>by
  simp only[mL]at h
  have j:∀q∈wR d i p ey,q.1<i+1:=fun ae f=>by
   cases ey with
   |J v a b=>simp only[wR,yP]at f;have:=ag ae f.1;omega
   |ka b x v=>
    simp only[wR,gl]at f
    rcases f with rfl|f
    ·simp
    ·have:=ag ae f;omega
   |skip=>have:=ag ae f;omega
   |tf _=>have:=ag ae f;omega
   |ya _ _ _=>have:=ag ae f;omega
  obtain⟨H,I⟩:=ak6 j h
  refine⟨?_,fun y e g=>?_⟩
  ·rcases H with H|⟨m,v,a,b,c⟩
   ·cases ey with
    |J v a b=>simp only[wR,yP]at H;exact .inl H.1
    |ka b x v=>
     simp only[wR,gl]at H
     rcases H with rfl|H
     ·exact .inr ⟨0,v,z,am,am⟩
     ·exact .inl H
    |skip=>exact .inl H
    |tf _=>exact .inl H
    |ya _ _ _=>exact .inl H
   ·exact .inr ⟨m+1,v,z,z,by simpa using c⟩
  ·simp only[pc,nJ]at e
   rcases e with e|e
   ·cases ey with
    |J v a b=>
     simp at e
     subst e
     rcases H with H|⟨m,o,n,r,s⟩
     ·simp only[wR,yP]at H
      simpa using H.2
     ·simp at g;omega
    |skip=>simp at e
    |tf _=>simp at e
    |ya _ _ _=>simp at e
    |ka _ _ _=>simp at e
   ·exact I y e g
theorem Eu:∀{rs:List fx} {tr:List hK} {i k:Nat} {p:List rO},(∀q∈p,q.1<i)->p.Pairwise (fun a b=>a.1≠b.1)->(mL rs tr i k p).Pairwise (fun a b=>a.1≠b.1)
 |[],_,_,_,_,_,h=>by simpa[mL]using h
 |_::_,[],_,_,_,_,h=>by simpa[mL]using h
 |d::l,ey::tr,i,0,p,_,h=>by simpa[mL]using h
 |d::l,ey::tr,i,k+1,p,ag,h=>by
  simp only[mL]
  cases ey with
  |J v a b=>exact Eu (fun ae c=>by simp only[wR,yP]at c;have:=ag ae c.1;omega) (h.filter _)
  |ka b x v=>
   refine Eu (fun ae c=>?_) ?_
   ·simp only[wR,gl]at c
    rcases c with rfl|c
    ·simp
    ·have:=ag ae c;omega
   ·simp only[wR,MX]
    exact⟨fun ae c=>by have:=ag ae c;simp;omega,h⟩
  |skip=>exact Eu (fun ae c=>by have:=ag ae c;omega) h
  |tf _=>exact Eu (fun ae c=>by have:=ag ae c;omega) h
  |ya _ _ _=>exact Eu (fun ae c=>by have:=ag ae c;omega) h
theorem Yf:∀{tr:List hK} {k rb:Nat},rb<=km tr k rb
 |[],_,_=>by simp[km]
 |ey::tr,0,_=>by simp[km]
 |ey::tr,k+1,rb=>by
  simp only[km]
  exact db (by cases ey<;>simp[Jl]) Yf
theorem QM:∀{tr:List hK} {k rb b:Nat} {x:em} {v:K},tr[k]? =some (.ka b x v)->km tr (k+1) rb=km tr k rb+1
 |[],_,_,_,_,_,h=>by simp at h
 |ey::tr,0,_,_,_,_,h=>by simp at h;subst h;cases tr<;>simp[km,Jl]
 |ey::tr,k+1,rb,b,x,v,h=>by
  simp at h
  rw[km]
  exact QM (rb:=Jl rb ey) h
theorem QL:∀{tr:List hK} {j k rb:Nat},j<=k->km tr j rb<=km tr k rb
 |[],_,_,_,_=>by simp[km]
 |ey::tr,0,k,rb,_=>by simpa[km]using Yf
 |ey::tr,j+1,0,rb,h=>by omega
 |ey::tr,j+1,k+1,rb,h=>by simp only[km];exact QL z
def Fa(slots:List Nat)(x:S->K):Prop:=∀s a,(∀t∈slots,g t s=g t a)->x s=x a
structure abx (P:Program) (ρ:b4) (av:Nat) (ops:Array Oper) (o:Oper) (d:fx):Prop where
 r:NO P ρ av ops o d.r
 aK:∀x∈d.r.aK,Fa d.slots x
 dQ:∀x hr,d.r.guard=some (x,hr)->Fa d.slots x
theorem am3{slots:List Nat}{s a:S}(h:∀t∈slots,g t s=g t a):∀{aK:List (S->K)},(∀x∈aK,Fa slots x)->mm aK s=mm aK a
 |[],_=>rfl
 |x::l,b=>by
  simp only[mm]
  rw[b x am s a h,am3 h fun y c=>b y (i6 _ c)]
structure qV (av:Nat) (ops:Array Oper) (rs:List fx):Prop where
 len:rs.length=ops.size
 Tt:R3 ops
 pre:∀(i:Nat) (o:Oper) (d:fx) (j:Nat),ops[i]? =some o->rs[i]? =some d->j<ops.size->d.pre.testBit j=true->∃e∈o.after.toList,Region.binds .any e=true/\(e.on=j∨ ∃dw:fx,rs[e.on]? =some dw/\dw.pre.testBit j=true)
 dst:∀(i:Nat) (d:fx) (t:Nat),rs[i]? =some d->d.r.dst=some t->t<av
 aCp:∀(i:Nat) (d:fx) (t:Nat),rs[i]? =some d->t∈d.slots->t<av
 aep:∀(i j:Nat) (d dw:fx) (t:Nat),rs[i]? =some d->rs[j]? =some dw->dw.r.dst=some t->i≠j->(t∈d.slots∨d.r.dst=some t)->if j<i then d.pre.testBit j=true else dw.pre.testBit i=true
theorem aC7{av:Nat}{ops:Array Oper}{rs:List fx}(g:rs.length=ops.size)(h:Af av ops.toList rs=true):qV av ops rs:=by
 unfold Af at h;simp only[ji,hs,ts]at h;have f:∀(i:Nat) (d:fx),rs[i]? =some d->∃o,ops[i]? =some o/\i<ops.size:=fun i d hd=>by have hi:i<rs.length:=(j2.1 hd).1;rw[g]at hi;exact⟨ops[i],by simp[hi],hi⟩
 have p:∀(i:Nat) (o:Oper),ops[i]? =some o->i<ops.size/\∃d,rs[i]? =some d:=fun i o b=>by have hi:i<ops.size:=(hl.1 b).1;refine⟨hi,?_⟩;rw[←g]at hi;exact⟨rs[i],by simp[hi]⟩
 refine⟨g,?_,?_,?_,?_,?_⟩
 ·intro i o b e k A;obtain⟨hi,d,hd⟩:=p i o b;have a:=h i hi;rw[Cj,b,hd]at a;simp only[dz]at a;obtain⟨⟨⟨⟨H,_⟩,_⟩,_⟩,_⟩:=a;rw[hs]at H;have:=H e k;simpa[A]using this
 ·intro i o d j b hd l A;obtain⟨hi,_⟩:=p i o b;have a:=h i hi;rw[Cj,b,hd]at a;simp only[dz]at a;obtain⟨⟨⟨⟨_,H⟩,_⟩,_⟩,_⟩:=a;rw[hs]at H;have:=H j (ts.2 l);simp only[A,RE,Bool.false_or,HO,dz,ML,beq_iff_eq]at this;obtain⟨e,k,u,I⟩:=this;refine⟨e,k,u,?_⟩;rcases I with I|I
  ·exact .inl I
  ·right;cases n:rs[e.on]? with
   |none=>simp[n]at I
   |some m=>simp[n]at I;exact⟨m,rfl,I⟩
 ·intro i d t hd ah;obtain⟨o,b,hi⟩:=f i d hd;have a:=h i hi;rw[Cj,b,hd]at a;simp only[dz]at a;obtain⟨⟨⟨_,H⟩,_⟩,_⟩:=a;rw[ah]at H;simpa using H
 ·intro i d t hd ah;obtain⟨o,b,hi⟩:=f i d hd;have a:=h i hi;rw[Cj,b,hd]at a;simp only[dz]at a;obtain⟨⟨_,H⟩,_⟩:=a;rw[hs]at H;simpa using H t ah
 ·intro i j d m t hd q ah s c;obtain⟨o,b,hi⟩:=f i d hd;obtain⟨x,w,l⟩:=f j m q;have a:=h i hi;rw[Cj,b,hd]at a;simp only[dz]at a;obtain⟨_,H⟩:=a;rw[hs]at H;have:=H j (ts.2 l);rw[q]at this;simp only[ah]at this;have ak:(i==j)=false:=by simpa using s
  have r:(d.slots.contains t||d.r.dst==some t)=true:=by
   rcases c with c|c
   ·simp[c]
   ·simp[c]
  rw[ak,r]at this;simp only[RE,Bool.or_self,Bool.false_or]at this;split at this
  ·rename_i aq;rw[cv aq];exact this
  ·rename_i aq;rw[bn aq];exact this
theorem qV.lt{av:Nat}{ops:Array Oper}{rs:List fx}(aj:qV av ops rs):∀(i:Nat) (d:fx) (j:Nat),rs[i]? =some d->j<ops.size->d.pre.testBit j=true->j<i:=by
 intro i;induction i using Nat.strongRecOn with
 |_ i f=>
  intro d j hd a A;have hi:i<ops.size:=by rw[←aj.len];exact(j2.1 hd).1
  obtain⟨e,b,l,h⟩:=aj.pre i ops[i] d j (by simp[hi]) hd a A;have aq:=aj.Tt i ops[i] (by simp[hi]) e b l;rcases h with h|⟨c,k,g⟩
  ·omega
  ·have:=f e.on aq c j k a g;omega
def CF(ops:Array Oper)(D:Nat->Bool):Prop:=∀i o,ops[i]? =some o->D i=true->∀e∈o.after.toList,Region.binds .any e=true->D e.on=true
theorem qV.Uo{av:Nat}{ops:Array Oper}{rs:List fx}(aj:qV av ops rs){D:Nat->Bool}(g:CF ops D):∀(i:Nat) (d:fx) (j:Nat),rs[i]? =some d->D i=true->j<ops.size->d.pre.testBit j=true->D j=true:=by
 intro i;induction i using Nat.strongRecOn with
 |_ i l=>
  intro d j hd m b A;have hi:i<ops.size:=by rw[←aj.len];exact(j2.1 hd).1
  obtain⟨e,a,f,h⟩:=aj.pre i ops[i] d j (by simp[hi]) hd b A;have aq:=aj.Tt i ops[i] (by simp[hi]) e a f;have c:=g i ops[i] (by simp[hi]) m e a f;rcases h with h|⟨k,o,n⟩
  ·exact h▸c
  ·exact l e.on aq k j o c b n
def EE(D:Nat->Bool):List fx->List hK->Nat->S->S
 |d::l,ey::tr,i,s=>EE D l tr (i+1) (if D i=true then oL d.r.dst ey.val s else s)
 |_,_,_,s=>s
theorem U1{D:Nat->Bool}{t:Nat}(ah:t<256):∀{rs:List fx} {tr:List hK} {i:Nat} {s:S},(∀d∈rs,∀u,d.r.dst=some u->u<256)->g t (EE D rs tr i s)=qu D rs tr i t (g t s)
 |[],_,_,_,_=>rfl
 |_::_,[],_,_,_=>rfl
 |d::l,ey::tr,i,s,h=>by
  simp only[EE,qu]
  rw[U1 ah fun b c=>h b (i6 _ c)]
  congr 1
  by_cases a:D i=true
  ·rw[cv a,afA ah (h d am)];simp[a]
  ·rw[bn a];simp[a]
theorem c6.insert{ρ:b4}{σ:bl}{h:ay}{w:World}(r:c6 ρ σ h w){b:Nat}{p:lT}{x:em}(ag:σ b=some p)(u:io ρ σ p w.heap[p.aU]? x)(k:¬k8 σ h p.aU)(t:b<en): c6 ρ σ (h.dD b (some x)) w:=by
 have s:=fun j=>ay.vb h b j (some x) t;refine⟨fun j y a=>?_,fun j i y o q n a c d f l=>?_,fun j a=>r.jy j a⟩
 ·rw[s]at a;by_cases e:j=b
  ·subst e;rw[cv rfl]at a;cases a;exact⟨p,ag,u⟩
  ·rw[bn e]at a;exact r.aU j y a
 ·rw[s]at a c;by_cases e:j=b
  ·subst e;rw[bn (ht l)]at c;rw[ag]at d;cases d;intro g;exact k ⟨i,o,n,c,f,g.symm⟩
  ·rw[bn e]at a;by_cases m:i=b
   ·subst m;rw[ag]at f;cases f;intro g;exact k ⟨j,y,q,a,d,g⟩
   ·rw[bn m]at c;exact r.inj j i y o q n a c d f l
theorem k8.dD{σ:bl}{h:ay}{b:Nat}{x:em}{r:Nat}(d:b<en)(f:k8 σ (h.dD b (some x)) r):k8 σ h r∨ ∃p,σ b=some p/\p.aU=r:=by
 obtain⟨j,y,p,a,ag,c⟩:=f;rw[ay.vb h b j (some x) d]at a;by_cases e:j=b
 ·subst e;exact .inr ⟨p,ag,c⟩
 ·rw[bn e]at a;exact .inl ⟨j,y,p,a,ag,c⟩
theorem c6.uN{ρ:b4}{σ:bl}{w:World}:∀{l:List rO} {h:ay},c6 ρ σ h w->l.Pairwise (fun a b=>a.1≠b.1)->(∀q∈l,q.2.1<en)->
  (∀q∈l,∃p,σ q.2.1=some p/\io ρ σ p w.heap[p.aU]? q.2.2/\¬k8 σ h p.aU)->
  (∀q∈l,∀y∈l,q.1≠y.1->∀p e,σ q.2.1=some p->σ y.2.1=some e->p.aU≠e.aU)->
  c6 ρ σ (ch.uN h l) w/\(ch.uN h l).nx=h.nx/\∀r,k8 σ (ch.uN h l) r->k8 σ h r∨ ∃q∈l,∃p,σ q.2.1=some p/\p.aU=r
 |[],h,m,_,_,_,_=>⟨m,rfl,fun r o=>.inl o⟩
 |q::l,h,m,n,x,u,hi=>by
  rw[MX]at n
  obtain⟨p,ag,o,D⟩:=u q am
  have k:=x q am
  have H:=m.insert ag o D k
  obtain⟨a,b,c⟩:=c6.uN (l:=l) H n.2 (fun ae d=>x ae (i6 _ d))
   (fun ae d=>by
    obtain⟨e,i,B,C⟩:=u ae (i6 _ d)
    refine⟨e,i,B,fun j=>?_⟩
    rcases j.dD k with j|⟨s,t,f⟩
    ·exact C j
    ·exact hi q am ae (i6 _ d) (n.1 ae d) s e t i f)
   (fun ae d z A=>hi ae (i6 _ d) z (i6 _ A))
  refine⟨a,b,fun r g=>?_⟩
  rcases c r g with g|⟨ae,d,e,i,f⟩
  ·rcases g.dD k with g|⟨s,t,f⟩
   ·exact .inl g
   ·exact .inr ⟨q,am,s,t,f⟩
  ·exact .inr ⟨ae,i6 _ d,e,i,f⟩
structure nM (P:Program) (ρ:b4) (av:Nat) (ops:Array Oper) (rs:List fx) (tr:List hK) (bX:S) (bx ab:ay) (k0:bl) (jh:World)
  (D:Nat->Bool) (σ:bl) (a:Array Value) (w:World):Prop where
 q1:CF ops D
 Dj:∀i,ops.size<=i->D i=false
 lm:a.size=av
 i5:∀t,t<av->aE ρ σ (qu D rs tr 0 t (g t bX))=some (a.getD t undef)
 ag:∃b2 cL,jd rs tr 0=b2++cL/\(∀y∈b2,D y.1=true)/\(∀y∈cL,D y.1=false)/\c6 ρ σ (ri ab b2) w/\ab.nx<=(ri ab b2).nx/\
  (∀(j b:Nat) (x:em) (v:K),tr[j]? =some (.ka b x v)->D j=true->(∀y∈b2,y.2.1.testBit j=false)->
   ∃p,σ b=some p/\p.aU<w.heap.size/\jh.heap.size<=p.aU/\io ρ σ p w.heap[p.aU]? x/\¬k8 σ (ri ab b2) p.aU)/\
  (∀(j fK b df:Nat) (x cD:em) (v dO:K) (p bQ:lT),tr[j]? =some (.ka b x v)->tr[fK]? =some (.ka df cD dO)->j≠fK->D j=true->D fK=true->(∀y∈b2,y.2.1.testBit j=false)->(∀y∈b2,y.2.1.testBit fK=false)->
   σ b=some p->σ df=some bQ->p.aU≠bQ.aU)/\
  (∀r,k8 σ (ri ab b2) r->jh.heap.size<=r∨k8 k0 bx r)
 Ak:∀(j b:Nat) (x:em) (v:K),tr[j]? =some (.ka b x v)->D j=false->σ b=none
 wn:jE P σ
 ext:ke k0 σ
 eI:∀b,k0 b=none->σ b≠none->bx.nx<=b
 size:jh.heap.size<=w.heap.size
 kept:∀r,r<jh.heap.size->¬k8 k0 bx r->w.heap[r]? =jh.heap[r]?
 os:w.os=jh.os
 output:w.output=jh.output
 tape:w.tape=jh.tape
section
variable {P:Program} {ρ:b4} {av:Nat} {ops:Array Oper} {rs:List fx} {tr:List hK} {bX:S} {bx ab:ay} {k0:bl} {jh:World}
abbrev rn(D:Nat->Bool)(i:Nat):Nat->Bool:=fun j=>D j||j==i
theorem nE(D:Nat->Bool){i j:Nat}(h:j≠i):rn D i j=D j:=by
 have:(j==i)=false:=by simpa using h
 simp[rn,this]
theorem TR{D:Nat->Bool}(d:CF ops D){i:Nat}{o:Oper}(g:ops[i]? =some o)(h:∀e∈o.after.toList,Region.binds .any e=true->D e.on=true):CF ops (rn D i):=by
 intro j f a c e b A;by_cases ak:j=i
 ·subst ak;rw[g]at a;cases a;simp[rn,h e b A]
 ·rw[nE D ak]at c;simp[rn,d j f a c e b A]
theorem Un{D:Nat->Bool}(hd:∀i,ops.size<=i->D i=false){i:Nat}{o:Oper}(b:ops[i]? =some o):∀j,ops.size<=j->rn D i j=false:=by
 intro j a;have hi:i<ops.size:=(hl.1 b).1;rw[nE D z];exact hd j a
theorem BM{D:Nat->Bool}(aj:qV av ops rs)(c:CF ops D){i j:Nat}{d a:fx}{t:Nat}(hd:rs[i]? =some d)(b:rs[j]? =some a)(ah:a.r.dst=some t)(aq:i<j)(f:D i=false) (e:t∈d.slots∨d.r.dst=some t):D j=false:=by
 have:=aj.aep i j d a t hd b ah z e;rw[bn z]at this;cases g:D j with
 |false=>rfl
 |true=>
  have hi:i<ops.size:=by rw[←aj.len];exact(j2.1 hd).1
  have:=aj.Uo c j a i b g hi this;rw[f]at this;cases this
theorem aaf{D:Nat->Bool}(aj:qV av ops rs)(n:CF ops D){i:Nat}{o:Oper}{d:fx}{ey:hK}(hd:rs[i]? =some d)(x:tr[i]? =some ey)(m:d.r.dst=o.dst)(w:D i=false) {σ:bl}{a:Array Value}{c:Value}(l:a.size=av)(r:∀t,t<av->aE ρ σ (qu D rs tr 0 t (g t bX))=some (a.getD t undef))(J:aE ρ σ ey.val=some c):∀t,t<av->aE ρ σ (qu (rn D i) rs tr 0 t (g t bX))=some ((qf o.dst c a).getD t undef):=by
 intro t ah;by_cases e:d.r.dst=some t
 ·rw[ait (k:=i) hd x e (by simp[rn]) fun j s aq b f=>by
   rw[gm,nE D z]
   exact BM aj n hd b f aq w (.inr e),J]
  rw[←m,e];simp[qf,Array.getD,l,ah]
 ·rw[PT (D':=D) fun j s b f=>by
   rw[gm]
   refine nE D fun ak=>?_
   subst ak
   rw[hd]at b;cases b
   exact e f,r t ah]
  rw[←m];cases q:d.r.dst with
  |none=>rfl
  |some u=>have:u≠t:=fun ak=>e (by rw[q,ak]);simp[qf,Array.getD,l,ah,RC,this]
theorem nM.alq{D:Nat->Bool}{σ:bl}{a:Array Value}{w:World}(aj:qV av ops rs)(v:nM P ρ av ops rs tr bX bx ab k0 jh D σ a w){i:Nat}{o:Oper}{d:fx}{ey:hK}(r:ops[i]? =some o)(hd:rs[i]? =some d)(n:tr[i]? =some ey) (wA:d.r.dst=o.dst)(X:D i=false)(Z:∀e∈o.after.toList,Region.binds .any e=true->D e.on=true)(O:∀b x u,ey≠ .ka b x u)(Q:∀u B mF,ey≠ .J u B mF){c:Value}(J:aE ρ σ ey.val=some c): nM P ρ av ops rs tr bX bx ab k0 jh (rn D i) σ (qf o.dst c a) w:=by
 obtain⟨b2,cL,H,I,N,M,U,Y,W,V⟩:=v.ag;have q:∀y∈jd rs tr 0,y.1≠i:=fun y l e=>by obtain⟨k,dw,dO,B,ak,aJ,s,_⟩:=Bp l;have:k=i:=z;subst this;rw[n]at s;cases s;exact Q _ _ _ rfl
 have m:∀(j b:Nat) (x:em) (u:K),tr[j]? =some (.ka b x u)->j≠i:=fun j b x u f e=>by subst e;rw[n]at f;cases f;exact O _ _ _ rfl
 refine {v with q1:=TR v.q1 r Z,Dj:=Un v.Dj r,lm:=?_,i5:=aaf aj v.q1 hd n wA X v.lm v.i5 J,ag:=?_,Ak:=?_}
 ·have:=v.lm;cases o.dst<;>simp[qf,this]
 ·refine⟨b2,cL,H,fun y l=>?_,fun y l=>?_,M,U,fun j b x u f g L=>?_,fun j C b A x t u F p T f E R g G=>?_,V⟩
  ·rw[nE D (q y (by rw[H];simp[l]))];exact I y l
  ·rw[nE D (q y (by rw[H];simp[l]))];exact N y l
  ·rw[nE D (m j b x u f)]at g;exact Y j b x u f g L
  ·rw[nE D (m j b x u f)]at g;rw[nE D (m C A t F E)]at G;exact W j C b A x t u F p T f E R g G
 ·intro j b x u f g;rw[nE D (m j b x u f)]at g;exact v.Ak j b x u f g
end
theorem c6.lt{ρ:b4}{σ:bl}{h:ay}{w:World}(r:c6 ρ σ h w){b:Nat}{x:em}(A:h.cK b=some x):∃p,σ b=some p/\p.aU<w.heap.size/\io ρ σ p w.heap[p.aU]? x:=by
 obtain⟨p,ag,a⟩:=r.aU b x A;refine⟨p,ag,abe fun c=>?_,a⟩;rw[RA c]at a;cases x<;>simp[io]at a
theorem c6.az9{ρ:b4}{σ:bl}{h:ay}{w:World}(r:c6 ρ σ h w){k:Nat}(c:k8 σ h k):k<w.heap.size:=by
 obtain⟨b,x,p,H,I,rfl⟩:=c;obtain⟨q,a,aq,_⟩:=r.lt H;rw[I]at a;cases a;exact aq
theorem c6.push{ρ:b4}{σ:bl}{h:ay}{w:World}(r:c6 ρ σ h w){b:Nat}(A:σ b=none)(aq:b<h.nx){obj:Obj}{p:lT}{d:Nat}: c6 ρ (dW σ b p) h {w with heap:=w.heap.push obj,drawn:=d}:=by
 have f:∀j y,h.cK j=some y->j≠b:=fun j y a e=>by subst e;obtain⟨q,c,_⟩:=r.aU j y a;rw[A]at c;cases c
 refine⟨fun j y a=>?_,fun j g y l q s a i c k n=>?_,fun j a=>?_⟩
 ·obtain⟨q,c,m,o⟩:=r.lt a;refine⟨q,by simp[dW,f j y a,c],?_⟩;have:({w with heap:=w.heap.push obj,drawn:=d}:World).heap[q.aU]? =w.heap[q.aU]? :=by simp[MI,p3 m]
  rw[this];exact o.ext (.dD A)
 ·simp only[dW,bn (f j y a)]at c;simp only[dW,bn (f g l i)]at k;exact r.inj j g y l q s a i c k n
 ·rw[dW,bn z];exact r.jy j a
theorem k8.X1{ρ:b4}{σ:bl}{h:ay}{w:World}(r:c6 ρ σ h w){b:Nat}(A:σ b=none){p:lT}{k:Nat}(d:k8 (dW σ b p) h k):k8 σ h k:=by
 obtain⟨j,y,q,c,a,e⟩:=d;have:j≠b:=fun e=>by subst e;obtain⟨q,a,_⟩:=r.aU j y c;rw[A]at a;cases a
 rw[dW,bn this]at a;exact⟨j,y,q,c,a,e⟩
theorem amp{g:Type}{D:g->Bool}:∀{b2 cL c B:List g} {x:g},b2++cL=c++x::B->(∀y∈b2,D y=true)->(∀y∈cL,D y=false)->(∀y∈c,D y=true)->D x=false->b2=c/\cL=x::B
 |[],cL,[],B,x,h,_,_,_,_=>⟨rfl,by simpa using h⟩
 |[],cL,a::c,B,x,h,_,I,f,_=>by
  simp at h
  have i:=I a (by rw[h];simp)
  rw[f a am]at i;cases i
 |b::b2,cL,[],B,x,h,H,_,_,d=>by
  simp at h
  obtain⟨rfl,_⟩:=h
  rw[H b am]at d;cases d
 |b::b2,cL,a::c,B,x,h,H,I,f,d=>by
  simp at h
  obtain⟨rfl,h⟩:=h
  obtain⟨ak,j⟩:=amp h (fun y e=>H y (i6 _ e)) I (fun y e=>f y (i6 _ e)) d
  exact⟨by rw[ak],j⟩
section
variable {P:Program} {ρ:b4} {av:Nat} {ops:Array Oper} {rs:List fx} {tr:List hK} {bX:S} {bx ab:ay} {k0:bl} {jh:World}
structure Fw (tr:List hK) (ee hi:Nat):Prop where
 ee:∀(j b:Nat) (x:em) (v:K),tr[j]? =some (.ka b x v)->ee<=b
 hi:∀(j b:Nat) (x:em) (v:K),tr[j]? =some (.ka b x v)->b<hi
 inj:∀(j fK b:Nat) (x cD:em) (v dO:K),tr[j]? =some (.ka b x v)->tr[fK]? =some (.ka b cD dO)->j=fK
theorem nM.alloc{D:Nat->Bool}{σ:bl}{a:Array Value}{w:World}(aj:qV av ops rs)(bo:Fw tr bx.nx ab.nx)(v:nM P ρ av ops rs tr bX bx ab k0 jh D σ a w){i:Nat}{o:Oper}{d:fx}{b:Nat}{x:em}{u:K}(bI:ops[i]? =some o)(hd:rs[i]? =some d)(s:tr[i]? =some (.ka b x u)) (wA:d.r.dst=o.dst)(ev:D i=false)(hB:∀e∈o.after.toList,Region.binds .any e=true->D e.on=true){obj:Obj}{tot dn:Nat}{c:Value} (J:aE ρ (dW σ b ⟨w.heap.size,0,tot⟩) u=some c)(c':io ρ (dW σ b ⟨w.heap.size,0,tot⟩) ⟨w.heap.size,0,tot⟩ (some obj) x): nM P ρ av ops rs tr bX bx ab k0 jh (rn D i) (dW σ b ⟨w.heap.size,0,tot⟩) (qf o.dst c a) {w with heap:=w.heap.push obj,drawn:=dn}:=by
 obtain⟨b2,cL,H,I,af,M,bZ,fo,eX,eN⟩:=v.ag;have A:σ b=none:=v.Ak i b x u s ev;have L:ke σ (dW σ b ⟨w.heap.size,0,tot⟩):=.dD A;have LL:∀y∈jd rs tr 0,y.1≠i:=fun y B e=>by obtain⟨k,dw,O,fJ,ak,aJ,bv,_⟩:=Bp B;have:k=i:=z;subst this;rw[s]at bv;cases bv
 have Gv:b<(ri ab b2).nx:=iz (bo.hi i b x u s) bZ;have old:∀(j f:Nat) (l:em) (O:K),tr[j]? =some (.ka f l O)->j≠i->f≠b:=fun j f l O g C e=>by subst e;exact C (bo.inj j i f l x O u g s)
 refine {q1:=TR v.q1 bI hB,Dj:=Un v.Dj bI,lm:=?_,i5:=aaf aj v.q1 hd s wA ev v.lm (fun t ah=>tT L (v.i5 t ah)) J,ag:=?_,Ak:=?_,wn:=v.wn.ext L,ext:=v.ext.trans L,eI:=?_,size:=?_,kept:=?_,os:=v.os,output:=v.output,tape:=v.tape}
 ·have:=v.lm;cases o.dst<;>simp[qf,this]
 ·refine⟨b2,cL,H,fun y B=>?_,fun y B=>?_,M.push A Gv,bZ,fun j f l n g m G=>?_,fun j R X W dy Z u1 u2 p Y g N C m T G jU ag Q=>?_,fun r V=>eN r (V.X1 M A)⟩
  ·rw[nE D (LL y (by rw[H];simp[B]))];exact I y B
  ·rw[nE D (LL y (by rw[H];simp[B]))];exact af y B
  ·by_cases e:j=i
   ·subst e;rw[s]at g;cases g;refine⟨⟨w.heap.size,0,tot⟩,by simp[dW],am,v.size,by simpa using c',fun U=>?_⟩;exact absurd (M.az9 (U.X1 M A)) am
   ·rw[nE D e]at m;obtain⟨p,F,E,ep,kA,ro⟩:=fo j f l n g m G;refine⟨p,L _ _ F,bu,ep,?_,fun U=>ro (U.X1 M A)⟩;have:({w with heap:=w.heap.push obj,drawn:=dn}:World).heap[p.aU]? =w.heap[p.aU]? :=by simp[MI,p3 E]
    rw[this];exact kA.ext L
  ·have jy:∀(k f:Nat) (l:em) (n:K) (q:lT),tr[k]? =some (.ka f l n)->k≠i->rn D i k=true->(∀y∈b2,y.2.1.testBit k=false)->dW σ b ⟨w.heap.size,0,tot⟩ f=some q->σ f=some q/\q.aU<w.heap.size:=fun k f l n q ad V7 Kj ae az=>by rw[nE D V7]at Kj;obtain⟨p,F,E,_⟩:=fo k f l n ad Kj ae;rw[dW,bn (old k f l n ad V7),F]at az;cases az;exact⟨F,E⟩
   by_cases e:j=i
   ·subst e;rw[s]at g;cases g;simp only[dW,cv,cb]at ag;subst ag;obtain⟨_,E⟩:=jy R W Z u2 Y N (ht C) T jU Q;simp;omega
   ·by_cases cw:R=i
    ·subst cw;rw[s]at N;cases N;simp only[dW,cv,cb]at Q;subst Q;obtain⟨_,E⟩:=jy j X dy u1 p g e m G ag;simp;omega
    ·obtain⟨F,_⟩:=jy j X dy u1 p g e m G ag;obtain⟨E,_⟩:=jy R W Z u2 Y N cw T jU Q;rw[nE D e]at m;rw[nE D cw]at T;exact eX j R X W dy Z u1 u2 p Y g N C m T G jU F E
 ·intro j f l n g m;have C:j≠i:=fun e=>by subst e;simp[rn]at m
  rw[nE D C]at m;rw[dW,bn (old j f l n g C)];exact v.Ak j f l n g m
 ·intro f Kf qh;by_cases e:f=b
  ·subst e;exact bo.ee i f x u s
  ·rw[dW,bn e]at qh;exact v.eI f Kf qh
 ·have:=v.size;simp;omega
 ·intro r V vm;have:({w with heap:=w.heap.push obj,drawn:=dn}:World).heap[r]? =w.heap[r]? :=by have:=v.size;simp[MI,show r≠w.heap.size by omega]
  rw[this];exact v.kept r V vm
end
section
variable {P:Program} {ρ:b4} {av:Nat} {ops:Array Oper} {rs:List fx} {tr:List hK} {bX:S} {bx ab:ay} {k0:bl} {jh:World}
theorem qV.NX{D:Nat->Bool}(aj:qV av ops rs)(g:CF ops D){i:Nat}{o:Oper}{d:fx}(k:ops[i]? =some o)(hd:rs[i]? =some d)(c:∀e∈o.after.toList,Region.binds .any e=true->D e.on=true){j:Nat}(b:j<ops.size)(A:d.pre.testBit j=true):D j=true:=by
 obtain⟨e,a,f,h⟩:=aj.pre i o d j k hd b A;rcases h with h|⟨l,n,m⟩
 ·exact h▸c e a f
 ·exact aj.Uo g e.on l j n (c e a f) b m
theorem nM.amb{D:Nat->Bool}{σ:bl}{a:Array Value}{w:World}(aj:qV av ops rs)(s:tr.length=rs.length)(v:nM P ρ av ops rs tr bX bx ab k0 jh D σ a w){k:Nat}{b2:List (Nat×Nat×ay)}(r:b2=pc rs tr 0 k) (f:∀y∈b2,y∈jd rs tr 0){q:rO}(j:q∈mL rs tr 0 k []):∃u,tr[q.1]? =some (.ka q.2.1 q.2.2 u)/\q.1<k/\q.1<ops.size/\∀y∈b2,y.2.1.testBit q.1=false:=by
 obtain⟨H,I⟩:=ak6 am j;rcases H with H|⟨m,u,i,e,ah⟩
 ·cases H
 ·have c:q.1=m:=z;rw[c];have d:m<ops.size:=by rw[←aj.len,←s];exact(j2.1 ah).1
  refine⟨u,ah,i,d,fun y b=>?_⟩;by_cases aq:m<y.1
  ·have:=I y (r▸b) z
   rwa [c]at this
  ·cases A:y.2.1.testBit m with
   |false=>rfl
   |true=>obtain⟨o,n,x,B,ak,g,t,l⟩:=Bp (f y b);rw[l]at A;have:=aj.lt o n m g d A;omega
theorem nM.q'{D:Nat->Bool}{σ:bl}{a:Array Value}{w:World}(aj:qV av ops rs)(uj:tr.length=rs.length)(bo:Fw tr bx.nx ab.nx)(x0:ab.nx<en)(dx:bx.nx<=ab.nx)(KB:zj (jd rs tr 0)=true) (v:nM P ρ av ops rs tr bX bx ab k0 jh D σ a w){i:Nat}{o:Oper}{d:fx}{u:K}{G M:ay}(O:ops[i]? =some o)(hd:rs[i]? =some d)(jm:tr[i]? =some (.J u G M)) (wA:d.r.dst=o.dst)(ev:D i=false)(hB:∀e∈o.after.toList,Region.binds .any e=true->D e.on=true)(aq:G=uN (rY tr i ab) ((mL rs tr 0 i []).filter fun q=>d.pre.testBit q.1)): c6 ρ σ G w/\∀(σ':bl) (w':World) (c:Value),aE ρ σ' u=some c->c6 ρ σ' M w'->jj σ G w σ' M w'->nM P ρ av ops rs tr bX bx ab k0 jh (rn D i) σ' (qf o.dst c a) w':=by
 obtain⟨b2,cL,H,I,af,aM,bZ,T,eX,eN⟩:=v.ag;have hi:i<ops.size:=(hl.1 O).1;obtain⟨B,L⟩:=agV (i:=0) hd jm;rw[gm]at L;obtain⟨U',an⟩:=ad6 KB L;have Lg:∀y∈jd rs tr 0,y.1<ops.size:=fun y aR=>by exact ajT
 have Ki:∀y∈pc rs tr 0 i,D y.1=true:=fun y aR=>aj.NX v.q1 O hd hB (Lg y (by rw[L];simp[aR])) (U' y aR);obtain⟨ak,aJ⟩:=amp (D:=fun y:Nat×Nat×ay=>D y.1) (H.symm.trans L) I af Ki ev;have kL:ri ab b2=rY tr i ab:=by rw[ak];exact W8 uj
 have ao:∀y∈B,i<y.1:=fun y aR=>by obtain⟨e5,dw,dO,Pg,g2,Z,q6,u'⟩:=Bp (show y∈jd rs tr 0 by rw[L];simp[aR]);have:=an y aR;rw[u']at this;have:=aj.lt e5 dw i Z hi this;omega
 have N:∀q∈(mL rs tr 0 i []).filter fun q=>d.pre.testBit q.1,∃u,tr[q.1]? =some (.ka q.2.1 q.2.2 u)/\D q.1=true/\d.pre.testBit q.1=true/\∀y∈b2,y.2.1.testBit q.1=false:=fun q m=>by rw[yP]at m;obtain⟨k,bO,cu,a3,a4⟩:=v.amb aj uj ak (fun y aR=>by rw[H];simp[aR]) m.1;exact⟨k,bO,aj.NX v.q1 O hd hB a3 m.2,m.2,a4⟩
 obtain⟨b',dt,eq⟩:=c6.uN (l:=(mL rs tr 0 i []).filter fun q=>d.pre.testBit q.1) aM ((Eu am .nil).filter _)
  (fun q m=>by obtain⟨k,bO,_⟩:=N q m;exact RT (bo.hi _ _ _ _ bO) x0)
  (fun q m=>by
   obtain⟨k,bO,cu,a3,a4⟩:=N q m
   obtain⟨p,F,X,co,nQ,V⟩:=T _ _ _ _ bO cu a4
   exact⟨p,F,nQ,V⟩)
  (fun q m ic jf b5 p Q ag R=>by
   obtain⟨k,bO,cu,a3,a4⟩:=N q m
   obtain⟨aw,zc,zd,ax,Tf⟩:=N ic jf
   exact eX _ _ _ _ _ _ _ _ _ _ bO zc b5 cu zd a4 Tf ag R)
 rw[kL,←aq]at b' dt eq;refine⟨b',fun σ' w' c J bw g=>?_⟩;have nD:∀r,k8 σ G r->jh.heap.size<=r∨k8 k0 bx r:=fun r n=>by
  rcases eq r n with n|⟨q,m,p,ag,e⟩
  ·exact eN r (kL▸n)
  ·obtain⟨k,bO,cu,a3,a4⟩:=N q m;obtain⟨Q,F,X,co,nQ,V⟩:=T _ _ _ _ bO cu a4;rw[ag]at F;cases F;exact .inl (e▸co)
 have ar:ab.nx<=G.nx:=by rw[dt,←kL];exact bZ
 have W:∀(j b:Nat) (x:em) (k:K),tr[j]? =some (.ka b x k)->j≠i:=fun j b x k f e=>by subst e;rw[jm]at f;cases f
 have au:∀(j b:Nat) (x:em) (k:K) (p:lT),tr[j]? =some (.ka b x k)->D j=true->(∀y∈b2,y.2.1.testBit j=false)->d.pre.testBit j=false->σ b=some p->¬k8 σ (rY tr i ab) p.aU->¬k8 σ G p.aU:=fun j b x k p f s E ap ag vm C=>by
  rcases eq _ C with C|⟨q,m,Q,R,e⟩
  ·exact vm C
  ·obtain⟨u2,bO,cu,a3,a4⟩:=N q m;refine eX _ _ _ _ _ _ _ _ Q p bO f (fun e=>?_) cu s a4 E R ag e;rw[e,ap]at a3;cases a3
 have ad:∀j,(∀y∈pc rs tr 0 i++[(i,d.pre,M)],y.2.1.testBit j=false)->(∀y∈b2,y.2.1.testBit j=false)/\d.pre.testBit j=false:=fun j f=>⟨fun y aR=>f y (by rw[←ak];simp[aR]),f (i,d.pre,M) am⟩;refine {q1:=TR v.q1 O hB,Dj:=Un v.Dj O,lm:=?_,i5:=aaf aj v.q1 hd jm wA ev v.lm (fun t ah=>tT g.ext (v.i5 t ah)) J,ag:=?_,Ak:=?_,wn:=v.wn.ext g.ext,ext:=v.ext.trans g.ext,eI:=?_,size:=db v.size g.size,kept:=?_,os:=g.os.trans v.os,output:=g.output.trans v.output,tape:=g.tape.trans v.tape}
 ·have:=v.lm;cases o.dst<;>simp[qf,this]
 ·refine⟨pc rs tr 0 i++[(i,d.pre,M)],B,by rw[L];simp,fun y aR=>?_,fun y aR=>?_,?_,?_,fun j b x k f s E=>?_,fun j Y b df x cD u1 u2 p Q f f_ b5 s wq E jU ag R=>?_,fun r n=>?_⟩
  ·simp only[nJ,Cs]at aR;rcases aR with aR|rfl
   ·simp[rn,Ki y aR]
   ·simp[rn]
  ·have:=ao y aR;rw[nE D z];exact af y (by rw[aJ];simp[aR])
  ·rw[G3];exact bw
  ·rw[G3];exact db ar g.nx
  ·obtain⟨U,lI⟩:=ad j E;rw[nE D (W j b x k f)]at s;obtain⟨p,F,X,co,nQ,V⟩:=T j b x k f s U;rw[kL]at V;have gZ:=au j b x k p f s U lI F V;refine⟨p,g.ext _ _ F,iz X g.size,co,?_,fun C=>?_⟩
   ·rw[g.kept _ X gZ];exact nQ.ext g.ext
   ·rw[G3]at C;rcases g.nD _ C with C|C
    ·omega
    ·exact gZ C
  ·obtain⟨U,_⟩:=ad j E;obtain⟨ai,_⟩:=ad Y jU;rw[nE D (W j b x u1 f)]at s;rw[nE D (W Y df cD u2 f_)]at wq;obtain⟨q,F,_⟩:=T j b x u1 f s U;obtain⟨ic,ae,_⟩:=T Y df cD u2 f_ wq ai;have g2:=g.ext _ _ F;have Z:=g.ext _ _ ae;rw[ag]at g2;cases g2;rw[R]at Z;cases Z;exact eX j Y b df x cD u1 u2 p Q f f_ b5 s wq U ai F ae
  ·rw[G3]at n;rcases g.nD r n with n|n
   ·exact .inl (db v.size n)
   ·exact nD r n
 ·intro j b x k f s;rw[nE D (W j b x k f)]at s;have A:=v.Ak j b x k f s;cases E:σ' b with
  |none=>rfl
  |some p=>have:=g.eI b A (by simp[E]);have:=bo.hi j b x k f;omega
 ·intro b A fq;cases E:σ b with
  |none=>have:=g.eI b E fq;omega
  |some p=>exact v.eI b A (by simp[E])
 ·intro r n vm;rw[g.kept r (iz n v.size) fun C=>?_,v.kept r n vm];rcases nD r C with h|h
  ·omega
  ·exact vm h
theorem nM.qv{D:Nat->Bool}{σ:bl}{a:Array Value}{w:World}(aj:qV av ops rs)(n:wi ab (jd rs tr 0) rs tr 0=true) (v:nM P ρ av ops rs tr bX bx ab k0 jh D σ a w){i:Nat}{o:Oper}{d:fx}{f:List K->ay->Option K}{aK:List K}{u:K}(g:ops[i]? =some o)(hd:rs[i]? =some d)(r:tr[i]? =some (.ya f aK u))(m:D i=false) (q:∀e∈o.after.toList,Region.binds .any e=true->D e.on=true):∃h,c6 ρ σ h w/\f aK h=some u:=by
 obtain⟨b2,cL,H,I,l,k,s,z,x,t⟩:=v.ag;have hi:i<ops.size:=(hl.1 g).1;have c:=ad5 n hd r;rw[gm,H]at c;have j:∀y∈jd rs tr 0,y.1<ops.size:=fun y aR=>by exact ajT
 refine⟨_,k,ad4 c (fun y aR=>?_) fun y aR=>?_⟩
 ·cases A:y.2.1.testBit i with
  |false=>rfl
  |true=>obtain⟨e5,dw,dO,Pg,ak,aJ,bv,cT⟩:=Bp (show y∈jd rs tr 0 by rw[H];simp[aR]);rw[cT]at A;have b:=I y aR;rw[ak,gm]at b;have:=aj.Uo v.q1 e5 dw i aJ b hi A;rw[m]at this;cases this
 ·cases A:d.pre.testBit y.1 with
  |false=>rfl
  |true=>have:=aj.NX v.q1 g hd q (j y (by rw[H];simp[aR])) A;rw[l y aR]at this;cases this
end
def AB(P:Program)(ρ:b4)(av:Nat)(ops:Array Oper):List Oper->List fx->Prop
 |[],[]=>True
 |o::l,r::m=>abx P ρ av ops o r/\AB P ρ av ops l m
 |_,_=>False
theorem AB.at{P:Program}{ρ:b4}{av:Nat}{ops:Array Oper}:∀{l:List Oper} {rs:List fx},AB P ρ av ops l rs->rs.length=l.length/\∀{i:Nat} {o:Oper} {d:fx},l[i]? =some o->rs[i]? =some d->abx P ρ av ops o d
 |[],[],_=>⟨rfl,fun h=>by simp at h⟩
 |o::l,r::m,⟨h,t⟩=>by
  obtain⟨H,I⟩:=t.at
  refine⟨by simp[H],fun {i c b} a hd=>?_⟩
  cases i with
  |zero=>simp at a hd;subst a;subst hd;exact h
  |succ i=>simp at a hd;exact I a hd
 |[],_::_,h=>h.elim
 |_::_,[],h=>h.elim
theorem ayZ{rs:List fx}{s:S}{m:ay}{rb:Nat}{tr:List hK}(h:∀(k:Nat) (d:fx),rs[k]? =some d->∃ey,tr[k]? =some ey/\EN d (oM rs tr k s) (rY tr k m) (mL rs tr 0 k []) (km tr k rb)=some ey) (i:tr.length=rs.length){hi:Nat}(o:km tr rs.length rb<=hi):Fw tr rb hi:=by
 have f:∀(j b:Nat) (x:em) (v:K),tr[j]? =some (.ka b x v)->b=km tr j rb/\j<rs.length:=fun j b x v a=>by
  have aq:j<rs.length:=by rw[←i];exact(j2.1 a).1
  obtain⟨ey,H,I⟩:=h j rs[j] (by simp[aq]);rw[a]at H;cases H;refine⟨?_,aq⟩;unfold EN at I;split at I
  ·cases I
  ·cases I
  ·split at I
   ·split at I<;>simp at I
   ·split at I<;>simp at I
   ·split at I
    ·simp at I;exact I.1.symm
    ·simp at I
   ·split at I<;>simp at I
 refine⟨fun j b x v a=>?_,fun j b x v a=>?_,fun j c b x l v n a g=>?_⟩
 ·rw[(f j b x v a).1];exact Yf
 ·obtain⟨e,aq⟩:=f j b x v a;have H:=QM (rb:=rb) a;have I:km tr (j+1) rb<=km tr rs.length rb:=QL z;omega
 ·obtain⟨e,_⟩:=f j b x v a;obtain⟨q,_⟩:=f c b l n g;have H:=QM (rb:=rb) a;have I:=QM (rb:=rb) g;rcases RU j c with aq|aq|aq
  ·have:km tr (j+1) rb<=km tr c rb:=QL z;omega
  ·exact aq
  ·have:km tr (c+1) rb<=km tr j rb:=QL z;omega
section
variable {P:Program} {ρ:b4} {av:Nat} {ops:Array Oper} {rs:List fx} {tr:List hK} {bX:S} {bx ab:ay} {k0:bl} {jh:World}
theorem nM.step(J:AB P ρ av ops ops.toList rs)(aj:qV av ops rs)(zC:av<=256)(uj:tr.length=rs.length)(bo:Fw tr bx.nx ab.nx)(x0:ab.nx<en)(dx:bx.nx<=ab.nx)(K:zj (jd rs tr 0)=true)(fS:wi ab (jd rs tr 0) rs tr 0=true) (fB:∀(k:Nat) (d:fx),rs[k]? =some d->∃ey,tr[k]? =some ey/\EN d (oM rs tr k bX) (rY tr k ab) (mL rs tr 0 k []) (km tr k bx.nx)=some ey) {D:Nat->Bool}{σ:bl}{a:Array Value}{w:World}(v:nM P ρ av ops rs tr bX bx ab k0 jh D σ a w){i:Nat}{o:Oper}(bI:ops[i]? =some o)(ev:D i=false) (hB:∀e∈o.after.toList,Region.binds .any e=true->D e.on=true)(b:lr)(ds:List Deferred)(k:List Item)(cs:List Frame)(rest:List Nat):∃σ' H w',nM P ρ av ops rs tr bX bx ab k0 jh (rn D i) σ' H w'/\Steps P (lone (fr b a ds (.inRegion ops (i::rest)::k)) cs w) (lone (fr b H ds (.inRegion ops rest::k)) cs w'):=by
 have hi:i<ops.size:=(hl.1 bI).1;have hd:∃d,rs[i]? =some d:=⟨rs[i]'(by rw[aj.len];exact hi),by simp[aj.len,hi]⟩;obtain⟨d,hd⟩:=hd;have uW:=J.at.2 (by rw[Cj];exact bI) hd;obtain⟨ey,jm,l⟩:=fB i d hd;have B:∀s∈rs,∀u,s.r.dst=some u->u<256:=fun s l2 u hu=>by obtain⟨j,y⟩:=HW.1 l2;have:=aj.dst j s u y hu;omega
 have F:mY ρ σ av (EE D rs tr 0 bX) a:=⟨v.lm,zC,fun t ah=>by rw[U1 z B];exact v.i5 t ah⟩;have I:∀t∈d.slots,g t (EE D rs tr 0 bX)=g t (oM rs tr i bX):=fun t ah=>by
  have ad:=aj.aCp i d t hd ah;rw[U1 z B,U0 (i:=0) z B];refine PT fun j s y E=>?_;simp only[gm];rcases RU j i with aq|rfl|aq
  ·have:=aj.aep i j d s t hd y E z (.inl ah);rw[cv aq]at this;have N:j<ops.size:=z;simp[aj.NX v.q1 bI hd hB N this,aq]
  ·simp[ev]
  ·rw[BM aj v.q1 hd y E aq ev (.inl ah)];have:¬j<i:=z;simp[this]
 have W:mm d.r.aK (EE D rs tr 0 bX)=mm d.r.aK (oM rs tr i bX):=am3 I uW.aK;have A:bU ρ σ (mm d.r.aK (oM rs tr i bX))=some (fm o a):=by rw[←W];exact uW.r.aK.aE v.wn F
 have kN:Ke d.r (EE D rs tr 0 bX)=Ke d.r (oM rs tr i bX):=by
  unfold Ke;cases q:d.r.guard with
  |none=>rfl
  |some Q=>obtain⟨x,hr⟩:=Q;simp only;rw[uW.dQ x hr q _ _ I]
 have G:∀t,Ke d.r (oM rs tr i bX)=some t->Region.wanted o (yielded ops a)=t:=fun t ah=>aaG uW.r F (by rw[←kN]at ah;exact ah);unfold EN at l;split at l
 ·cases l
 ·rename_i q;have e4:=G _ q;simp at l;subst l;have V:=amu (P:=P) (b:=b) (a:=a) (ds:=ds) (k:=k) (cs:=cs) (w:=w) (ops:=ops) (i:=i) (rest:=rest) (by simp[bI,e4]);simp only[bI,Cy]at V;exact⟨σ,_,w,v.alq aj bI hd jm uW.r.dst ev hB (fun _ _ _ h=>by cases h) (fun _ _ _ h=>by cases h) (JI ρ σ),.one V⟩
 ·rename_i q;have e4:=G _ q;have m:=uW.r.op;split at l
  ·rename_i f n;rw[n]at m;split at l
   ·rename_i u hu;simp at l;subst l;obtain⟨c,L,Y⟩:=m σ _ a w u v.wn A hu;exact ajm
   ·simp at l
  ·rename_i f n;rw[n]at m;split at l
   ·rename_i u hu;simp at l;subst l;obtain⟨X,C,U⟩:=v.qv aj fS bI hd jm ev hB;obtain⟨c,L,Y⟩:=m σ _ X a w u v.wn A C U;exact ajm
   ·simp at l
  ·rename_i f ret n;rw[n]at m;split at l
   ·rename_i x O;simp at l;subst l;obtain⟨obj,tot,dn,c,Y,L,Z⟩:=m σ _ a w x _ v.wn A O (v.Ak i _ _ _ jm ev);obtain⟨gq,w',⟨rfl,rfl⟩,V⟩:=NW (R:=fun gq w'=>gq=c/\w'={w with heap:=w.heap.push obj,drawn:=dn}) (b:=b) (ds:=ds) (k:=k) (cs:=cs) (rest:=rest) bI e4 uW.r.Qe (.inl ⟨c,_,Y,rfl,rfl⟩);exact⟨_,_,_,v.alloc aj bo bI hd jm uW.r.dst ev hB L Z,V⟩
   ·simp at l
  ·rename_i f n;rw[n]at m;split at l
   ·rename_i u mF hu;simp at l;subst l;obtain⟨C,T⟩:=v.q' aj uj bo x0 dx K bI hd jm uW.r.dst ev hB rfl;have cx:=m σ _ _ a w u mF v.wn A C hu;obtain⟨c,w',⟨σ',L,q9,M⟩,V⟩:=NW (b:=b) (ds:=ds) (k:=k) (cs:=cs) (rest:=rest) bI e4 uW.r.Qe cx;exact⟨σ',_,w',T σ' w' c L q9 M,V⟩
   ·simp at l
theorem nM.run(f:AB P ρ av ops ops.toList rs)(aj:qV av ops rs)(z:av<=256)(x:tr.length=rs.length)(bo:Fw tr bx.nx ab.nx)(y:ab.nx<en)(o:bx.nx<=ab.nx)(h:zj (jd rs tr 0)=true)(t:wi ab (jd rs tr 0) rs tr 0=true) (s:∀(k:Nat) (d:fx),rs[k]? =some d->∃ey,tr[k]? =some ey/\EN d (oM rs tr k bX) (rY tr k ab) (mL rs tr 0 k []) (km tr k bx.nx)=some ey) (b:lr)(ds:List Deferred)(k:List Item)(cs:List Frame):∀{e:List Nat} {D:Nat->Bool} {σ:bl} {a:Array Value} {w:World},FC ops D e->nM P ρ av ops rs tr bX bx ab k0 jh D σ a w->∃D' σ' c w',(∀i,i<ops.size->D' i=true)/\nM P ρ av ops rs tr bX bx ab k0 jh D' σ' c w'/\Steps P (lone (fr b a ds (.inRegion ops e::k)) cs w) (lone (fr b c ds k) cs w'):=by
 intro e D σ a w j v;induction j generalizing σ a w with
 |nil g=>exact⟨_,σ,a,w,g,v,.one amv⟩
 |cons m r u _ p=>obtain⟨B,bO,A,q,n⟩:=v.step f aj z x bo y o h t s m r u b ds k cs _;obtain⟨D',σ',c,w',H,I,l⟩:=p q;exact⟨D',σ',c,w',H,I,n.trans l⟩
end
theorem aB_{P:Program}{ρ:b4}{av:Nat}{B:bl->lr->Prop}{id:Nat}{ops:Array Oper}{rs:List fx}{f:Nat}(an:P.follows .mixedOrders=true)(L:AB P ρ av ops ops.toList rs)(J:Af av ops.toList rs=true): mc P ρ av B (.region id ops true) (JT rs f):=by
 intro σ x e cD h b _ k cs a ds w c;have T:rs.length=ops.size:=by have:=L.at.1;simpa using this
 have aj:=aC7 T J;unfold JT at h;cases aq:Nat.blt (x.h.nx+f) en with
 |false=>simp[aq]at h
 |true=>
  have x0:x.h.nx+f<en:=by simpa using aq
  simp only[aq,er]at h;split at h
  ·rename_i tr gO bf G tg eD;obtain⟨A,fA,hL,W,np,Y⟩:=aeQ eD;cases D:(Nat.ble tg (x.h.nx+f)&&(let N:=jd rs tr 0;zj N&&wi ⟨x.h.t,x.h.nx+f⟩ N rs tr 0))with
   |false=>rw[D]at h;simp at h
   |true=>
    rw[D]at h;simp only[er,cb,g9]at h;obtain⟨rfl,rfl⟩:=h;simp only[dz]at D;obtain⟨c1,c2,c3⟩:=D;have c1:tg<=x.h.nx+f:=gP c1;have bo:Fw tr x.h.nx (x.h.nx+f):=ayZ Y A (by rw[←np];exact c1);have ad:c6 ρ σ ⟨x.h.t,x.h.nx+f⟩ {w with drawn:=w.drawn+1}:=⟨c.h.aU,c.h.inj,fun j m=>c.h.jy j (by simp at m;omega)⟩;have v0:nM P ρ av ops rs tr x.s x.h ⟨x.h.t,x.h.nx+f⟩ σ {w with drawn:=w.drawn+1} (fun _=>false) σ a {w with drawn:=w.drawn+1}:=
     {q1:=fun _ _ _ h=>by cases h
      Dj:=fun _ _=>rfl
      lm:=c.s.1
      i5:=fun t ah=>by
       rw[PU fun _ _ _ _=>rfl]
       exact c.s.2.2 t ah
      ag:=⟨[],jd rs tr 0,rfl,(fun y o=>by cases o),(fun _ _=>rfl),ad,aZ _,(fun _ _ _ _ _ h=>by cases h),(fun _ _ _ _ _ _ _ _ _ _ _ _ _ h=>by cases h),fun r n=>.inr n⟩
      Ak:=fun j b x v m _=>c.h.jy b (bo.ee j b x v m)
      wn:=c.g
      ext:=.refl _
      eI:=fun _ H I=>(I H).elim
      size:=aZ _
      kept:=fun _ _ _=>rfl
      os:=rfl
      output:=rfl
      tape:=rfl}
    obtain⟨D',σ',dI,w',F,v,J⟩:=nM.run L aj c.s.2.1 A bo x0 am c2 c3 Y b ds k cs (aBS aj.Tt (w.tape w.drawn (.order b.fn id))) v0;obtain⟨b2,cL,H,I,af,O,R,K,eX,U⟩:=v.ag;have Lg:∀y∈jd rs tr 0,y.1<ops.size:=fun y o=>by obtain⟨e5,s,dO,Pg,ak,aJ,bv,cT⟩:=Bp o;rw[←T];have:=(j2.1 aJ).1;omega
    have xX:cL=[]:=by
     cases cL with
     |nil=>rfl
     |cons y l=>have Q:=af y am;rw[F y.1 (Lg y (by rw[H];simp))]at Q;cases Q
    have ae:jd rs tr 0=pc rs tr 0 rs.length:=by
     have:∀{rs:List fx} {tr:List hK} {i:Nat},tr.length=rs.length->jd rs tr i=pc rs tr i rs.length:=by
      intro rs;induction rs with
      |nil=>intro tr i _;cases tr<;>rfl
      |cons d l e1=>
       intro tr i M;cases tr with
       |nil=>simp at M
       |cons ey tr=>have:=e1 (tr:=tr) (i:=i+1) (by simpa using M);cases ey<;>simp[jd,pc,this]
     exact this A
    have Z:b2=pc rs tr 0 rs.length:=by rw[xX]at H;simp at H;rw[←H,ae]
    have kL:ri ⟨x.h.t,x.h.nx+f⟩ b2=bf:=by rw[Z,W8 A,hL]
    have C:∀q∈G,∃u,tr[q.1]? =some (.ka q.2.1 q.2.2 u)/\D' q.1=true/\∀y∈b2,y.2.1.testBit q.1=false:=fun q g=>by rw[W]at g;obtain⟨u,bO,cu,a3,a4⟩:=v.amb aj A Z (fun y o=>by rw[H];simp[o]) g;exact⟨u,bO,F _ a3,a4⟩
    rw[kL]at O R K U;obtain⟨b',dt,eq⟩:=c6.uN (l:=G) O (by rw[W];exact Eu am .nil)
     (fun q g=>by obtain⟨u,bO,_⟩:=C q g;exact RT (bo.hi _ _ _ _ bO) x0)
     (fun q g=>by
      obtain⟨V,bO,cu,a4⟩:=C q g
      obtain⟨p,E,bF,co,X,sM⟩:=K _ _ _ _ bO cu a4
      exact⟨p,E,X,sM⟩)
     (fun q g ic jf b5 p G ag ew=>by
      obtain⟨V,bO,cu,a4⟩:=C q g
      obtain⟨al,zc,zd,Tf⟩:=C ic jf
      exact eX _ _ _ _ _ _ _ _ _ _ bO zc b5 cu zd a4 Tf ag ew)
    have KE:∀s∈rs,∀u,s.r.dst=some u->u<256:=fun s l2 u hu=>by obtain⟨j,m⟩:=HW.1 l2;have:=aj.dst j s u m hu;have:=c.s.2.1;omega
    refine⟨σ',dI,ds,w',⟨⟨v.lm,c.s.2.1,fun t ah=>?_⟩,b',JM v.ext c.d,v.wn⟩,?_,?_⟩
    ·have:=c.s.2.1;simp only[fA];rw[U0 (i:=0) z KE,←v.i5 t ah];congr 1;refine PT fun j s m _=>?_;have V4:=(j2.1 m).1;have xG:=F j z;simp[xG,V4]
    ·exact
      {ext:=v.ext
       eI:=v.eI
       nx:=by
          simp only[dt];have:x.h.nx<=x.h.nx+f:=z
          exact db this R
       size:=v.size
       kept:=v.kept
       nD:=fun r n=>by
        rcases eq r n with n|⟨q,g,p,ag,e⟩
        ·exact U r n
        ·obtain⟨V,bO,cu,a4⟩:=C q g
         obtain⟨eo,E,bF,co,X,sM⟩:=K _ _ _ _ bO cu a4
         rw[ag]at E;cases E
         exact .inl (e▸co)
       os:=v.os
       output:=v.output
       tape:=v.tape}
    ·have ai:Region.schedule (P.follows .mixedOrders) ops (w.tape w.drawn (.order b.fn id))=Region.schedule true ops (w.tape w.drawn (.order b.fn id)):=by rw[an]
     refine .head aCY ?_;rw[ai];exact J
  ·simp at h
end Go.ch
namespace Go.ch
open Go.Proofs.Tryz
def Qs:Value->Option K
 |.int k n=>some (.int k n)
 |.bool b=>some (.bool b)
 |.string s=>some (.str (s.data.toList.map UInt8.toNat))
 |.pointer none=>some .pV
 |.slice none 0 0=>some .bS
 |.map none=>some .uo
 |.nilFunc=>some .wS
 |.nilIface=>some .BR
 |_=>none
def qw:List Value->Option (List K)
 |[]=>some []
 |v::l=>match Qs v,qw l with
  |some x,some y=>some (x::y)
  |_,_=>none
def ofValue:Value->Option K
 |.agg cs=>(qw cs.toList).map .agg
 |.tuple cs=>(qw cs.toList).map .tup
 |v=>Qs v
theorem arn(s:ByteArray):fz (s.data.toList.map UInt8.toNat)=s:=by
 unfold fz;rw[HV];have:(UInt8.ofNat∘UInt8.toNat)=id:=by funext x;simp
 rw[this];simp
theorem aqN(l:List UInt8):(l.map UInt8.toNat).all (fun n=>n<256)=true:=by
 rw[hs];intro n a;obtain⟨b,_,rfl⟩:=yQ.1 a;simpa using M4 b
theorem aky{ρ:b4}{σ:bl}{v:Value}{x:K}(h:Qs v=some x):aE ρ σ x=some v:=by
 unfold Qs at h;split at h<;>cases h<;>simp[aE,arn,aqN,-List.all_map]
theorem BV{ρ:b4}{σ:bl}:∀{l:List Value} {x:List K},qw l=some x->bU ρ σ x=some l
 |[],x,h=>by simp[qw]at h;subst h;rfl
 |v::l,x,h=>by
  simp only[qw]at h
  split at h
  ·rename_i a b c A
   simp at h;subst h
   simp[bU,aky c,BV A]
  ·simp at h
theorem akz{ρ:b4}{σ:bl}{v:Value}{x:K}(h:ofValue v=some x):aE ρ σ x=some v:=by
 unfold ofValue at h;split at h
 ·exact ajo
 ·exact ajo
 ·exact aky h
def JL(v:K)(_:S):K:=v
def rm(av a:Nat):Operand->Option (S->K)
 |.tmp t=>if t<av then some (g t)else none
 |.const v=>match ofValue v with|some c=>some (JL c)|none=>none
 |.global i=>if i<a then some (JL (.jo i 0))else none
 |.func f=>some (JL (.fn f [] []))
def BX(av a:Nat):List Operand->Option (List (S->K))
 |[]=>some []
 |o::l=>match rm av a o,BX av a l with
  |some x,some y=>some (x::y)
  |_,_=>none
theorem Qu{P:Program}{ρ:b4}{av:Nat}{o:Operand}{x:S->K}(h:rm av P.globals.size o=some x):IS P ρ av o x:=by
 intro σ s a c b;cases o with
 |tmp t=>
  simp only[rm]at h;split at h
  ·cases h;exact b.2.2 t ‹_›
  ·cases h
 |const v=>
  simp only[rm]at h;split at h
  ·cases h;exact akz ‹_›
  ·cases h
 |global i=>
  simp only[rm]at h;split at h
  ·cases h;obtain⟨t,ah⟩:=c i ‹_›;simp[JL,aE,ah,dT]
  ·cases h
 |func f=>simp only[rm]at h;cases h;simp[JL,aE,bU,dT]
theorem akM{P:Program}{ρ:b4}{av:Nat}:∀{l:List Operand} {aK:List (S->K)},BX av P.globals.size l=some aK->IT P ρ av l aK
 |[],aK,h=>by simp[BX]at h;subst h;trivial
 |o::l,aK,h=>by
  simp only[BX]at h
  split at h
  ·rename_i x y a b
   cases h
   exact⟨Qu a,akM b⟩
  ·cases h
def B7:List Operand->List Nat
 |[]=>[]
 |.tmp t::l=>t::B7 l
 |_::l=>B7 l
theorem akL{av d:Nat}:∀{l:List Operand} {aK:List (S->K)},BX av d l=some aK->∀{slots:List Nat},(∀t∈B7 l,t∈slots)->∀x∈aK,Fa slots x
 |[],aK,h,_,_=>by simp[BX]at h;subst h;intro x a;cases a
 |o::l,aK,h,slots,c=>by
  simp only[BX]at h
  split at h
  ·rename_i x y a g
   cases h
   intro ae b
   cases b with
   |head=>
    intro s j e
    cases o with
    |tmp t=>
     simp only[rm]at a
     split at a
     ·cases a;exact e t (c t (by simp[B7]))
     ·cases a
    |const v=>
     simp only[rm]at a
     split at a
     ·cases a;rfl
     ·cases a
    |global i=>
     simp only[rm]at a
     split at a
     ·cases a;rfl
     ·cases a
    |func f=>simp only[rm]at a;cases a;rfl
   |tail _ b=>
    refine akL g (fun t ah=>c t ?_) ae b
    cases o<;>simp[B7,ah]
  ·cases h
theorem iW{ρ:b4}{σ:bl}{x:K}{l:List Value}(h:bU ρ σ [x]=some l):∃c,aE ρ σ x=some c/\l=[c]:=by
 simp only[bU]at h;split at h
 ·rename_i a b d A;cases h;simp at A;subst A;exact⟨a,d,rfl⟩
 ·cases h
theorem uT{ρ:b4}{σ:bl}{x:K}{m:List K}{l:List Value}(h:bU ρ σ (x::m)=some l):∃c r,aE ρ σ x=some c/\bU ρ σ m=some r/\l=c::r:=by
 simp only[bU]at h;split at h
 ·rename_i a b d A;cases h;exact⟨a,b,d,A,rfl⟩
 ·cases h
theorem j6{ρ:b4}{σ:bl}{x y:K}{l:List Value}(h:bU ρ σ [x,y]=some l):∃c d,aE ρ σ x=some c/\aE ρ σ y=some d/\l=[c,d]:=by
 obtain⟨c,r,H,I,rfl⟩:=uT h;obtain⟨d,a,rfl⟩:=iW I;exact⟨c,d,H,a,rfl⟩
theorem T0{ρ:b4}{σ:bl}{x y ae:K}{l:List Value}(h:bU ρ σ [x,y,ae]=some l):∃c d e,aE ρ σ x=some c/\aE ρ σ y=some d/\aE ρ σ ae=some e/\l=[c,d,e]:=by
 obtain⟨c,r,H,I,rfl⟩:=uT h;obtain⟨d,e,b,a,rfl⟩:=j6 I;exact⟨c,d,e,H,b,a,rfl⟩
section
variable {P:Program} {ρ:b4}
def zV:List K->Option K
 |[x]=>some x
 |_=>none
theorem akc{o:Oper}{x:Operand}(h:o.op=.move x∨o.op=.assign x):ku P ρ o zV:=by
 intro σ s a w v f e J;unfold zV at J;split at J
 ·cases J;obtain⟨c,d,b⟩:=iW e;refine⟨c,d,?_⟩;rcases h with h|h<;>
  ·simp[fm,h,Op.operands]at b;simp[execOp,h,b]
 ·cases J
def LX:List K->Option K
 |[.bool true,x,_]=>some x
 |[.bool false,_,y]=>some y
 |_=>none
theorem aAw{o:Oper}{x y ae:Operand}(h:o.op=.pick x y ae):ku P ρ o LX:=by
 intro σ s a w v j g J;unfold LX at J;split at J
 ·cases J;obtain⟨c,d,e,b,hd,i,f⟩:=T0 g;simp[fm,h,Op.operands]at f;obtain⟨rfl,rfl,rfl⟩:=f;simp only[aE,cb]at b;exact⟨_,hd,by simp[execOp,h,←b,asBool]⟩
 ·cases J;obtain⟨c,d,e,b,hd,i,f⟩:=T0 g;simp[fm,h,Op.operands]at f;obtain⟨rfl,rfl,rfl⟩:=f;simp only[aE,cb]at b;exact⟨_,i,by simp[execOp,h,←b,asBool]⟩
 ·cases J
def UJ(i:Nat):List K->Option K
 |[.tup l]=>l[i]?
 |_=>none
theorem ats{o:Oper}{x:Operand}{i:Nat}(h:o.op=.extract x i):ku P ρ o (UJ i):=by
 intro σ s a w v k e J;unfold UJ at J;split at J
 ·obtain⟨c,b,d⟩:=iW e;simp[fm,h,Op.operands]at d;simp only[aE,ig]at b;obtain⟨cs,g,rfl⟩:=b;obtain⟨y,f,j⟩:=xy g J;refine⟨y,j,?_⟩;simp[execOp,h,d,Instr.extract,f]
 ·cases J
def aiQ(f:FuncId)(n:Nat)(l:List K):Option K:=some (.fn f (l.take n) (l.drop n))
theorem ayh{o:Oper}{f:FuncId}{first b:Array Operand}(h:o.op=.makeFunc (.func f) first b):ku P ρ o (aiQ f first.size):=by
 intro σ s a w v e c J;cases J;simp only[fm,h,Op.operands,Array.toList_append,w1]at c;have H:=sU first.size c;have I:=tS first.size c;have ak:(List.map (dT a) first.toList++List.map (dT a) b.toList).take first.size=List.map (dT a) first.toList:=by rw[List.take_left'];simp
 have d:(List.map (dT a) first.toList++List.map (dT a) b.toList).drop first.size=List.map (dT a) b.toList:=by rw[List.drop_left'];simp
 rw[ak]at H;rw[d]at I;refine⟨.func (.func f) (first.map (dT a)) (b.map (dT a)),by simp[aE,H,I];constructor<;>(apply vE;simp),?_⟩;simp[execOp,h,Instr.makeFunc]
def WQ(t:TypeId):List K->Option K
 |[x]=>some (.iface t x)
 |_=>none
theorem aw1{o:Oper}{t:TypeId}{x:Operand}(h:o.op=.makeInterface t x){d:TypeDesc}(hu:P.underlying t=some d)(hd:∀i,d≠ .interface i):ku P ρ o (WQ t):=by
 intro σ s a w v j f J;unfold WQ at J;split at J
 ·cases J;obtain⟨c,e,b⟩:=iW f;simp[fm,h,Op.operands]at b;refine⟨.iface t c,by simp[aE,e],?_⟩;have g:(Instr.makeInterface t c).run P w=.ok (.iface t c) w:=by simp only[Instr.makeInterface,d',underlying,Ar,dX,hu,eQ]
  simp[execOp,h,b,g]
 ·cases J
end
end Go.ch
namespace Go.ch
def uw{a:Type}(n:Nat)(k:Nat->a):a:=match n with
 |0=>k 0
 |p+1=>k (Nat.succ p)
theorem yr{a:Type}(n:Nat)(k:Nat->a):uw n k=k n:=by cases n<;>rfl
def Hz{a:Type}(n:Int)(k:Int->a):a:=match n with
 |.ofNat m=>uw m fun m=>k (.ofNat m)
 |.negSucc m=>uw m fun m=>k (.negSucc m)
theorem Q_{a:Type}(n:Int)(k:Int->a):Hz n k=k n:=by cases n<;>simp[Hz,yr]
def Mn{b:Type}:List Nat->(List Nat->b)->b
 |[],k=>k []
 |a::l,k=>uw a fun a=>Mn l fun l=>k (a::l)
theorem Y1{b:Type}:∀(l:List Nat) (k:List Nat->b),Mn l k=k l
 |[],_=>rfl
 |a::l,k=>by simp[Mn,yr,Y1 l]
theorem adS{a b:Nat}(h:¬a<b):Nat.blt a b=false:=by
 cases A:Nat.blt a b with
 |false=>rfl
 |true=>exact absurd (by simpa using A) h
def Tg:Int->Int->Int
 |.ofNat a,.ofNat b=>.ofNat (Nat.add a b)
 |a,b=>a+b
theorem aqH(a b:Int):Tg a b=a+b:=by cases a<;>cases b<;>rfl
def Ra:Int->Int->Int
 |.ofNat a,.ofNat b=>bif Nat.ble b a then .ofNat (Nat.sub a b)else .ofNat a- .ofNat b
 |a,b=>a-b
theorem amD(a b:Int):Ra a b=a-b:=by
 cases a<;>cases b<;>try rfl
 rename_i a b;simp only[Ra];cases h:Nat.ble b a with
 |false=>rfl
 |true=>have:=gP h;show Int.ofNat (a-b)=Int.ofNat a-Int.ofNat b;simp;omega
def ta:Int->Int->Bool
 |.ofNat a,.ofNat b=>Nat.blt a b
 |a,b=>decide (a<b)
theorem BP(a b:Int):ta a b=decide (a<b):=by
 cases a<;>cases b<;>try rfl
 rename_i a b;simp only[ta];by_cases h:a<b
 ·rw[show Nat.blt a b=true by simpa using h];symm;simp[h]
 ·rw[adS h];symm;simp;omega
def uZ:Int->Int->Bool
 |.ofNat a,.ofNat b=>Nat.beq a b
 |a,b=>decide (a=b)
theorem A9(a b:Int):uZ a b=decide (a=b):=by
 cases a<;>cases b<;>try rfl
 rename_i a b;simp only[uZ];by_cases h:a=b
 ·subst h;simp
 ·rw[FP h];symm;simp;omega
def aaH(k:IntKind)(n:Int):Int:=match k,n with
 |.i64,.ofNat m=>bif Nat.ble m 9223372036854775807 then .ofNat m else IntKind.i64.wrap (.ofNat m)
 |k,n=>k.wrap n
theorem aEY(k:IntKind)(n:Int):aaH k n=k.wrap n:=by
 unfold aaH;split
 ·rename_i m;cases h:Nat.ble m 9223372036854775807 with
  |false=>rfl
  |true=>have:=gP h;symm;exact oQ _ ⟨by simp only[Co];omega,by simp only[Co];omega⟩
 ·rfl
def sk(k:IntKind)(n:Int):Option K:=Hz (aaH k n) fun r=>some (.int k r)
theorem Lj(k:IntKind)(n:Int):sk k n=some (.int k (k.wrap n)):=by simp[sk,Q_,aEY]
def PN(k:IntKind)(n:Int):Option K:=Hz n fun r=>some (.int k r)
theorem ah5(k:IntKind)(n:Int):PN k n=some (.int k n):=by simp[PN,Q_]
def tk:List Nat->List Nat->Bool
 |[],[]=>true
 |a::l,b::m=>Nat.beq a b&&tk l m
 |_,_=>false
theorem Q9:∀(a b:List Nat),tk a b=decide (a=b)
 |[],[]=>by simp[tk]
 |[],_::_=>by simp[tk]
 |_::_,[]=>by simp[tk]
 |a::l,b::m=>by
  simp only[tk,Q9 l m]
  by_cases h:a=b
  ·subst h;simp
  ·rw[FP h];simp[h]
def yq:List Nat->List Nat->Bool
 |_,[]=>false
 |[],_::_=>true
 |a::l,b::m=>Nat.blt a b||(Nat.beq a b&&yq l m)
def jn(s:List Nat):Prop:=s.all (fun n=>n<256)=true
theorem qd{ρ:b4}{σ:bl}{s:List Nat}{c:Value}(h:aE ρ σ (.str s)=some c):jn s/\c=.string (fz s):=by
 simp only[aE]at h;split at h
 ·cases h;exact⟨‹_›,rfl⟩
 ·cases h
theorem aeo{ρ:b4}{σ:bl}{s:List Nat}(h:jn s):aE ρ σ (.str s)=some (.string (fz s)):=by
 simp only[aE];exact cv h
theorem N7(s:List Nat):(fz s).toList=s.map UInt8.ofNat:=by
 rw[yI];simp[fz]
theorem zY{a:Nat}{l:List Nat}(h:jn (a::l)):a<256/\jn l:=by
 unfold jn at*;simpa using h
theorem aiR:∀{a b:List Nat},jn a->jn b->a.map UInt8.ofNat=b.map UInt8.ofNat->a=b
 |[],[],_,_,_=>rfl
 |[],_::_,_,_,h=>by simp at h
 |_::_,[],_,_,h=>by simp at h
 |a::l,b::m,c,A,h=>by
  obtain⟨f,g⟩:=zY c
  obtain⟨d,e⟩:=zY A
  simp only[oa,pk]at h
  have ak:a=b:=by
   have:=ih UInt8.toNat h.1
   simpa[abm,ry f,ry d]using this
  rw[ak,aiR g e h.2]
theorem OC{a b:List Nat}(c:jn a)(A:jn b):((fz a).toList==(fz b).toList)=tk a b:=by
 rw[Q9,N7,N7];by_cases h:a=b
 ·subst h;simp
 ·have:¬a.map UInt8.ofNat=b.map UInt8.ofNat:=fun e=>h (aiR c A e);simp[h,this]
theorem aiL:∀{a b:List Nat},jn a->jn b->Op.bytesLess (a.map UInt8.ofNat) (b.map UInt8.ofNat)=yq a b
 |_,[],_,_=>by simp[Op.bytesLess,yq]
 |[],_::_,_,_=>by simp[Op.bytesLess,yq]
 |a::l,b::m,f,A=>by
  obtain⟨d,j⟩:=zY f
  obtain⟨c,i⟩:=zY A
  simp only[oa,Op.bytesLess,yq,aiL j i]
  have ak:decide (UInt8.ofNat a<UInt8.ofNat b)=Nat.blt a b:=by
   have:(UInt8.ofNat a<UInt8.ofNat b)↔a<b:=by
    rw[anT]
    simp[abm,ry d,ry c]
   by_cases h:a<b
   ·rw[show Nat.blt a b=true by simpa using h];simp[this,h]
   ·rw[adS h];simp[this,h]
  have g:(UInt8.ofNat a==UInt8.ofNat b)=Nat.beq a b:=by
   by_cases h:a=b
   ·subst h;simp
   ·rw[FP h]
    have:UInt8.ofNat a≠UInt8.ofNat b:=fun e=>h (by
     have:=ih UInt8.toNat e
     simpa[abm,ry d,ry c]using this)
    simpa using this
  rw[ak,g]
theorem azs{a b:List Nat}(c:jn a)(A:jn b):jn (a++b):=by
 unfold jn at*;simp only[List.all_append,c,A,Bool.and_self]
theorem arl(a b:List Nat):fz a++fz b=fz (a++b):=by
 apply HH;simp[fz,ByteArray.data_append]
theorem Jm(a:List Nat):(fz a).size=a.length:=by simp[fz,ByteArray.size]
def Jh(op:BinOp)(k:IntKind)(a b:Int):Option K:=match op with
 |.add=>sk k (Tg a b)
 |.sub=>sk k (Ra a b)
 |.mul=>sk k (a*b)
 |.quo=>bif uZ b 0 then none else sk k (a.tdiv b)
 |.rem=>bif uZ b 0 then none else PN k (a.tmod b)
 |.eql=>some (.bool (uZ a b))
 |.neq=>some (.bool (!uZ a b))
 |.lss=>some (.bool (ta a b))
 |.leq=>some (.bool (!ta b a))
 |.gtr=>some (.bool (ta b a))
 |.geq=>some (.bool (!ta a b))
 |.and=>sk k ((BitVec.ofInt k.bits a&&& BitVec.ofInt k.bits b).toNat)
 |.or=>sk k ((BitVec.ofInt k.bits a|||BitVec.ofInt k.bits b).toNat)
 |.xor=>sk k ((BitVec.ofInt k.bits a^^^BitVec.ofInt k.bits b).toNat)
 |.andNot=>sk k ((BitVec.ofInt k.bits a&&& ~~~BitVec.ofInt k.bits b).toNat)
 |_=>none
def YM(op:BinOp)(k:IntKind)(a b:Int):Option K:=
 bif ta b 0 then none else match op with
 |.shl=>sk k (a*2^(min b.toNat k.bits))
 |.shr=>PN k (a.fdiv (2^(min b.toNat k.bits)))
 |_=>none
def Ji(op:BinOp)(a b:List Nat):Option K:=match op with
 |.add=>bif Nat.ble (a.length+b.length) 9223372036854775807 then Mn (a++b) fun r=>some (.str r)else none
 |.eql=>some (.bool (tk a b))
 |.neq=>some (.bool (!tk a b))
 |.lss=>some (.bool (yq a b))
 |.leq=>some (.bool (yq a b||tk a b))
 |.gtr=>some (.bool (!(yq a b||tk a b)))
 |.geq=>some (.bool (!yq a b))
 |_=>none
def BJ:BinOp->Bool
 |.shl=>true
 |.shr=>true
 |_=>false
def sO(op:BinOp):List K->Option K
 |[.int k a,.int j b]=>bif BJ op then YM op k a b else bif decide (k=j)then Jh op k a b else none
 |[.str a,.str b]=>Ji op a b
 |_=>none
section
variable {P:Program} {ρ:b4}
theorem Ds{op:BinOp}{t:TypeId}{x y:Operand}{a b:Value}{w:World}(H:a≠ .nilIface∨b≠ .nilIface)(I:∀c d,¬(a=.agg c/\b=.agg d)): (eqGuard op t x y a b).run P w=.ok () w:=by
 unfold eqGuard;cases op<;>simp;all_goals(split<;>simp_all)
theorem aq9{op:BinOp}{t:TypeId}{k:IntKind}{a b:Int}{v:K}{w:World}(d:BJ op=false)(h:Jh op k a b=some v):∃c,(∀σ,aE ρ σ v=some c)/\(binOp op t (.int k a) (.int k b)).run P w=.ok c w:=by
 cases op<;>simp only[BJ,Bool.true_eq_false]at d<;>simp only[Jh,Lj,ah5,cb,reduceCtorEq]at h;case quo=>cases ax:uZ b 0<;>simp[ax]at h;exact aj6
 case rem=>cases ax:uZ b 0<;>simp[ax]at h;exact aj6
 all_goals
  subst h;refine⟨_,fun _=>rfl,?_⟩;first
   |simp[binOp,Op.intArith,aqH];done
   |simp[binOp,Op.intArith,amD];done
   |simp[binOp,Op.intArith];done
   |simp[binOp,Op.intBits];done
   |(simp[binOp,Op.intCmp,A9,BP,-Int.not_lt];done)
   |(simp only[binOp,Op.intCmp,A9,BP,ne_eq,abn,oV,eQ];congr 2;done)
   |(simp only[binOp,Op.intCmp,A9,BP,ne_eq,abn,oV,eQ];congr 2;by_cases q:a=b<;>simp[q,bne]<;>done)
   |(simp only[binOp,Op.intCmp,A9,BP,ne_eq,abn,oV,eQ];congr 2;rw[←decide_not];exact RY.2 z)
theorem aB7{op:BinOp}{t:TypeId}{k j:IntKind}{a b:Int}{v:K}{w:World}(e:BJ op=true)(h:YM op k a b=some v):∃c,(∀σ,aE ρ σ v=some c)/\(binOp op t (.int k a) (.int j b)).run P w=.ok c w:=by
 unfold YM at h;cases A:ta b 0 with
 |true=>simp[A]at h
 |false=>
  rw[BP]at A;have d:¬b<0:=by simpa using A
  have f:ta b 0=false:=by rw[BP];exact A
  rw[f]at h;cases op<;>simp[BJ]at e<;>simp[Lj,ah5]at h
  ·subst h;exact⟨_,fun _=>rfl,by simp[binOp,Op.shift,d]⟩
  ·subst h;exact⟨_,fun _=>rfl,by simp[binOp,Op.shift,d]⟩
theorem aq_{op:BinOp}{t:TypeId}{a b:List Nat}{v:K}{w:World}(e:jn a)(A:jn b)(h:Ji op a b=some v):∃c,(∀σ,aE ρ σ v=some c)/\(binOp op t (.string (fz a)) (.string (fz b))).run P w=.ok c w:=by
 have f:∀op,(∀r,op≠BinOp.shl∨r)->binOp op t (.string (fz a)) (.string (fz b))=Op.stringOp op (fz a) (fz b):=fun op _=>by cases op<;>rfl
 have f:binOp op t (.string (fz a)) (.string (fz b))=Op.stringOp op (fz a) (fz b):=by cases op<;>rfl
 rw[f];have ak:=OC e A;have g:Op.bytesLess (fz a).toList (fz b).toList=yq a b:=by rw[N7,N7];exact aiL e A
 cases op<;>simp only[Ji,cb,reduceCtorEq]at h;case add=>
  cases d:Nat.ble (a.length+b.length) 9223372036854775807 with
  |false=>simp[d]at h
  |true=>have:=gP d;simp[d,Y1]at h;subst h;refine⟨_,fun σ=>aeo (azs e A),?_⟩;have i:IntKind.i64.max=9223372036854775807:=rfl;simp only[Op.stringOp,Jm,i];rw[bn z,arl];rfl
 all_goals
  subst h;exact⟨_,fun _=>rfl,by simp[Op.stringOp,ak,g]⟩
theorem adQ{o:Oper}{op:BinOp}{t A:TypeId}{x y:Operand}(h:o.op=.binOp op t x y A):ku P ρ o (sO op):=by
 intro σ s a w v B n J;unfold sO at J;split at J
 ·rename_i k p j q;obtain⟨c,d,g,hd,b⟩:=j6 n;simp[fm,h,Op.operands]at b;simp only[aE,cb]at g hd;obtain⟨H,I⟩:=b;rw[←g]at H;rw[←hd]at I;have i:(eqGuard op t x y (.int k p) (.int j q)).run P w=.ok () w:=Ds (.inl am) am;cases l:BJ op with
  |true=>rw[l]at J;obtain⟨r,e,f⟩:=aB7 (P:=P) (ρ:=ρ) (t:=t) (j:=j) (w:=w) l J;exact⟨r,e σ,by simp[execOp,h,H,I,i,f]⟩
  |false=>
   rw[l]at J;simp only[iK]at J;by_cases m:k=j
   ·subst m;simp at J;obtain⟨r,e,f⟩:=aq9 (P:=P) (ρ:=ρ) (t:=t) (w:=w) l J;exact⟨r,e σ,by simp[execOp,h,H,I,i,f]⟩
   ·simp[m]at J
 ·obtain⟨c,d,g,hd,b⟩:=j6 n;simp[fm,h,Op.operands]at b;obtain⟨u,rfl⟩:=qd g;obtain⟨z,rfl⟩:=qd hd;obtain⟨H,I⟩:=b;have i:∀p q,(eqGuard op t x y (.string p) (.string q)).run P w=.ok () w:=fun p q=>Ds (.inl am) am;obtain⟨r,e,f⟩:=aq_ (P:=P) (ρ:=ρ) (t:=t) (w:=w) u z J;exact⟨r,e σ,by simp[execOp,h,H,I,i,f]⟩
 ·cases J
def aao(op:UnOp):List K->Option K
 |[.int k n]=>match op with
  |.neg=>sk k (Ra 0 n)
  |.xor=>sk k ((BitVec.ofInt k.bits (if k.signed then-1 else k.max)^^^BitVec.ofInt k.bits n).toNat)
  |_=>none
 |[.bool b]=>match op with
  |.not=>some (.bool (!b))
  |_=>none
 |_=>none
theorem aEE{o:Oper}{op:UnOp}{t:TypeId}{x:Operand}(h:o.op=.unOp op t x):ku P ρ o (aao op):=by
 intro σ s a w v f e J;unfold aao at J;split at J
 ·obtain⟨c,d,b⟩:=iW e;simp[fm,h,Op.operands]at b;simp only[aE,cb]at d;rw[←d]at b;split at J
  ·simp[Lj]at J;subst J;exact⟨_,rfl,by simp[execOp,h,b,Op.unary,Op.intArith,amD]⟩
  ·simp[Lj]at J;subst J;exact⟨_,rfl,by simp[execOp,h,b,Op.unary,Op.intBits]⟩
  ·cases J
 ·obtain⟨c,d,b⟩:=iW e;simp[fm,h,Op.operands]at b;simp only[aE,cb]at d;rw[←d]at b;split at J
  ·cases J;exact⟨_,rfl,by simp[execOp,h,b,Op.unary]⟩
  ·cases J
 ·cases J
end
theorem xr(r o i:Nat):(⟨r,o,none⟩:Addr).add i=⟨r,o+i,none⟩:=by
 unfold Addr.add;split
 ·rename_i h;subst h;rfl
 ·rfl
theorem c6.cells{ρ:b4}{σ:bl}{h:ay}{w:World}(r:c6 ρ σ h w){b:Nat}{elem:TypeId}{vs:List K}{c wr:Bool}(A:h.cK b=some (.cells elem vs c wr)):∃p arr bg cs,σ b=some p/\w.heap[p.aU]? =some (.cells arr elem bg)/\arr.size=p.dA+p.tot/\vs.length<=p.tot/\(c=true->vs.length=p.tot/\p.dA=0)/\bU ρ σ vs=some cs/\ (∀i,i<vs.length->w.cell? ⟨p.aU,p.dA+i,none⟩=cs[i]?)/\(∀i,i<vs.length->arr[p.dA+i]? =cs[i]?)/\ (wr=true->∀i,p.dA<=i->i<arr.size->w.frozen? ⟨p.aU,i,none⟩=false):=by
 obtain⟨p,ag,arr,bg,H,I,e,d,⟨cs,f,a⟩,j⟩:=r.aU b _ A;refine⟨p,arr,bg,cs,ag,H,I,e,d,f,fun i hi=>?_,a,fun g i hi aq=>?_⟩
 ·simp only[World.cell?,H];simpa using a i hi
 ·simp only[World.frozen?,H];have:=j g i hi aq;obtain⟨ee,k⟩:=bg;simp at this⊢;exact this
theorem al1{P:Program}{w:World}(r o:Nat):∀(n i:Nat) (a:Array Value) (cs:List Value),cs.length=n->(∀j,j<n->w.cell? ⟨r,o+(i+j),none⟩=cs[j]?)->
  (loadCellsFrom ⟨r,o,none⟩ i n a).run P w=.ok (a++cs.toArray) w
 |0,i,a,cs,b,_=>by
  have:cs=[]:=HS.1 b
  subst this
  simp[loadCellsFrom]
 |n+1,i,a,[],b,_=>by simp at b
 |n+1,i,a,c::cs,b,h=>by
  have ab:=h 0 z
  simp at ab
  rw[loadCellsFrom]
  simp only[d',xr,run_load,ab,dX]
  rw[al1 r o n (i+1) (a.push c) cs (by simpa using b) fun j d=>by
   have:=h (j+1) z
   simpa[kr,sz 1 j]using this]
  simp
theorem Me{P:Program}{w:World}(r o n:Nat)(cs:List Value)(a:cs.length=n)(h:∀j,j<n->w.cell? ⟨r,o+j,none⟩=cs[j]?): (loadCells ⟨r,o,none⟩ n).run P w=.ok cs.toArray w:=by
 unfold loadCells;rw[al1 r o n 0 #[] cs a (by simpa using h)];simp
def K.cells:K->List K
 |.agg l=>l
 |v=>[v]
def tM:TypeDesc->Bool
 |.struct _=>true
 |.array _ _=>true
 |_=>false
theorem QY{P:Program}{w:World}{t:TypeId}{d:TypeDesc}(hu:P.underlying t=some d):(isAgg t).run P w=.ok (tM d) w:=by
 simp only[isAgg,underlying,d',Ar,dX,hu,eQ];cases d<;>rfl
def BN(agg:Bool)(n:Nat):List K->ay->Option K
 |[.jo b off],h=>match h.cK b with
  |some (.cells _ vs _ _)=>bif agg then(bif Nat.ble (off+n) vs.length then some (.agg ((vs.drop off).take n))else none)else vs[off]?
  |some (.aC _ vs)=>bif agg then(bif Nat.ble (off+n) vs.length then some (.agg ((vs.drop off).take n))else none)else vs[off]?
  |_=>none
 |_,_=>none
section
variable {P:Program} {ρ:b4}
theorem aiI{o:Oper}{t:TypeId}{x:Operand}(h:o.op=.load t x){d:TypeDesc}{i:TypeInfo}(hu:P.underlying t=some d)(hi:P.info? t=some i): xg P ρ o (BN (tM d) i.size):=by
 intro σ s R a w v Q F G J;unfold BN at J;split at J
 ·rename_i b off;split at J
  ·rename_i elem vs T wr A;obtain⟨c,e,g⟩:=iW F;simp[fm,h,Op.operands]at g;simp only[aE,ig]at e;obtain⟨B,D,rfl⟩:=e;obtain⟨p,arr,bg,cs,ag,H,I,O,N,l,n,K,S⟩:=G.cells A;obtain rfl:p=B:=gn (ag.symm.trans D);have m:=QY (w:=w) hu;have C:(sizeOf t).run P w=.ok i.size w:=by simp[sizeOf,typeInfo,hi]
   generalize tM d=u at J m;have M:=me l;cases u with
   |true=>
    simp only[er]at J;cases f:Nat.ble (off+i.size) vs.length with
    |false=>simp[f]at J
    |true=>
     have f:=gP f;rw[show Nat.ble (off+i.size) vs.length=true from H0 f]at J;simp only[er,cb]at J;subst J;refine⟨.agg ((cs.drop off).take i.size).toArray,by simp[aE,sU i.size (tS off l)],?_⟩;have r:=Me (P:=P) (w:=w) p.aU (p.dA+off) i.size ((cs.drop off).take i.size) bu fun j y=>by rw[kr,n (off+j) z];simp[oS,y]
     simp[execOp,h,g,Instr.loadAt,Instr.sureAddr,loadVar,m,C,r]
   |false=>simp only[iK]at J;obtain⟨c,e,E⟩:=xy l J;have aq:off<vs.length:=(j2.1 J).1;have q:=n off aq;rw[e]at q;exact⟨c,E,by simp[execOp,h,g,Instr.loadAt,Instr.sureAddr,loadVar,m,q]⟩
  ·rename_i elem vs A;obtain⟨c,e,g⟩:=iW F;simp[fm,h,Op.operands]at g;simp only[aE,ig]at e;obtain⟨B,D,rfl⟩:=e;obtain⟨p,ag,cs,l,H,K⟩:=G.aU b _ A;obtain rfl:p=B:=gn (ag.symm.trans D);have m:=QY (w:=w) hu;have C:(sizeOf t).run P w=.ok i.size w:=by simp[sizeOf,typeInfo,hi]
   have M:=me l;have n:∀k,k<vs.length->w.cell? ⟨p.aU,p.dA+k,none⟩=cs[k]? :=fun k L=>by simp only[World.cell?,H];exact K k L
   generalize tM d=u at J m;cases u with
   |true=>
    simp only[er]at J;cases f:Nat.ble (off+i.size) vs.length with
    |false=>simp[f]at J
    |true=>
     have f:=gP f;rw[show Nat.ble (off+i.size) vs.length=true from H0 f]at J;simp only[er,cb]at J;subst J;refine⟨.agg ((cs.drop off).take i.size).toArray,by simp[aE,sU i.size (tS off l)],?_⟩;have r:=Me (P:=P) (w:=w) p.aU (p.dA+off) i.size ((cs.drop off).take i.size) bu fun j y=>by rw[kr,n (off+j) z];simp[oS,y]
     simp[execOp,h,g,Instr.loadAt,Instr.sureAddr,loadVar,m,C,r]
   |false=>simp only[iK]at J;obtain⟨c,e,E⟩:=xy l J;have aq:off<vs.length:=(j2.1 J).1;have q:=n off aq;rw[e]at q;exact⟨c,E,by simp[execOp,h,g,Instr.loadAt,Instr.sureAddr,loadVar,m,q]⟩
  ·cases J
 ·cases J
end
def sw(c:Array Value)(o:Nat):List Value->Array Value
 |[]=>c
 |v::l=>sw (c.setIfInBounds o v) (o+1) l
theorem Mm:∀(l:List Value) (c:Array Value) (o:Nat),(sw c o l).size=c.size
 |[],_,_=>rfl
 |v::l,c,o=>by simp[sw,Mm l]
theorem Q3:∀(l:List Value) (c:Array Value) (o j:Nat),o+l.length<=c.size->(sw c o l)[j]? =if o<=j/\j<o+l.length then l[j-o]? else c[j]?
 |[],c,o,j,_=>by simp[sw];intro H I;omega
 |v::l,c,o,j,h=>by
  simp at h
  rw[sw,Q3 l _ _ _ bu]
  by_cases H:j=o
  ·subst H
   rw[bn z,cv am]
   simp[yF]
   omega
  ·by_cases I:o+1<=j/\j<o+1+l.length
   ·rw[cv I,cv bu]
    have:j-o=(j-(o+1))+1:=z
    rw[this];simp
   ·rw[bn I,bn bu]
    simp[yF,ht H]
def gj(w:World)(r:Nat)(o:Obj):World:={w with heap:=w.heap.setIfInBounds r o}
theorem aBY{w:World}{r o:Nat}{arr:Array Value}{elem:TypeId}{bg:Nat×Nat}{v:Value}(h:w.heap[r]? =some (.cells arr elem bg)):w.setCell ⟨r,o,none⟩ v=gj w r (.cells (arr.setIfInBounds o v) elem bg):=by
 unfold World.setCell gj;congr 1;have aq:r<w.heap.size:=(hl.1 h).1;have a:w.heap[r]=.cells arr elem bg:=(hl.1 h).2;apply MH;intro i;by_cases e:i=r
 ·subst e;simp[yF,aq,Array.getElem_modify,a]
 ·simp[RB,yF,ht e,e]
theorem aB2(w:World)(r:Nat)(a b:Obj):gj (gj w r a) r b=gj w r b:=by simp[gj]
theorem YH{w:World}{r:Nat}{o:Obj}(h:r<w.heap.size):(gj w r o).heap[r]? =some o:=by simp[gj,h]
theorem aB1{w:World}{r:Nat}{o:Obj}(h:w.heap[r]? =some o):gj w r o=w:=by
 unfold gj;have:w.heap.setIfInBounds r o=w.heap:=by
  apply MH;intro i;by_cases e:i=r
  ·subst e;have aq:i<w.heap.size:=(hl.1 h).1;simp[yF,aq];have:=(hl.1 h).2;exact this.symm
  ·simp[yF,ht e]
 rw[this]
theorem Yv{P:Program}(r o:Nat)(elem:TypeId)(bg:Nat×Nat):∀(l:List Value) (i:Nat) (w:World) (arr:Array Value),w.heap[r]? =some (.cells arr elem bg)->(∀v∈l,Ep v=true)->
  (∀j,j<l.length->o+(i+j)<arr.size/\¬(bg.1<=o+(i+j)/\o+(i+j)<bg.2))->
  (storeCells ⟨r,o,none⟩ l i).run P w=.ok () (gj w r (.cells (sw arr (o+i) l) elem bg))
 |[],i,w,arr,a,_,_=>by simp[storeCells,sw,aB1 a]
 |v::l,i,w,arr,a,H,I=>by
  have aq:r<w.heap.size:=(hl.1 a).1
  obtain⟨c,b⟩:=I 0 am
  simp only[hG]at c b
  have d:v.oneCell'=true:=by
   have:=H v am
   cases v<;>simp_all [Ep,Value.oneCell']
  have g:w.cell? ⟨r,o+i,none⟩=some arr[o+i]:=by simp[World.cell?,a,c]
  have k:w.frozen? ⟨r,o+i,none⟩=false:=by
   simp only[World.frozen?,a]
   obtain⟨ee,hi⟩:=bg
   simp at b⊢
   exact b
  have f:(store ⟨r,o+i,none⟩ v).run P w=.ok () (gj w r (.cells (arr.setIfInBounds (o+i) v) elem bg)):=by
   rw[run_store P w _ v _ d,g]
   simp only[k,p0,oV]
   rw[aBY a]
  rw[storeCells]
  simp only[d',xr,f,dX]
  rw[Yv r o elem bg l (i+1) _ (arr.setIfInBounds (o+i) v) (YH aq) (fun u hu=>H u (i6 _ hu)) fun j e=>by
   have:=I (j+1) (by simpa using e)
   simpa[kr,sz 1 j]using this]
  rw[aB2,sw,kr]
def yo(vs:List K)(o:Nat)(l:List K):List K:=vs.take o++(l++vs.drop (o+l.length))
theorem c6.put{ρ:b4}{σ:bl}{h:ay}{w:World}(r:c6 ρ σ h w){b:Nat}{p:lT}{d x:em}(A:h.cK b=some d)(ag:σ b=some p)(t:b<en){o:Obj}(aq:p.aU<w.heap.size) (C:io ρ σ p (some o) x):c6 ρ σ (h.dD b (some x)) (gj w p.aU o)/\jj σ h w σ (h.dD b (some x)) (gj w p.aU o):=by
 have i:=fun j=>ay.vb h b j (some x) t;have st:∀j y q,j≠b->h.cK j=some y->σ j=some q->(gj w p.aU o).heap[q.aU]? =w.heap[q.aU]? :=fun j y q e a c=>by have:=r.inj j b y d q p a A c ag e;exact Xr
 refine⟨⟨fun j y a=>?_,fun j n y J q F a E c G B=>?_,fun j a=>r.jy j a⟩,?_⟩
 ·rw[i]at a;by_cases e:j=b
  ·subst e;rw[cv rfl]at a;cases a;exact⟨p,ag,by rw[YH aq];exact C⟩
  ·rw[bn e]at a;obtain⟨q,c,D⟩:=r.aU j y a;exact⟨q,c,by rw[st j y q e a c];exact D⟩
 ·have l:∀k ae,(h.dD b (some x)).cK k=some ae->∃g,h.cK k=some g:=fun k ae f=>by
   rw[i]at f;by_cases e:k=b
   ·subst e;exact⟨d,A⟩
   ·rw[bn e]at f;exact⟨ae,f⟩
  obtain⟨ae,z⟩:=l j y a;obtain⟨g,s⟩:=l n J E;exact r.inj j n ae g q F z s c G B
 ·refine⟨.refl _,fun _ H I=>(I H).elim,aZ _,by simp[gj],fun k f u=>?_,fun k ⟨j,y,q,a,c,e⟩=>?_,rfl,rfl,rfl⟩
  ·have:p.aU≠k:=fun e=>u ⟨b,d,p,A,ag,e⟩;simp[gj,yF,this]
  ·rw[i]at a;by_cases m:j=b
   ·subst m;exact .inr ⟨j,d,q,A,c,e⟩
   ·rw[bn m]at a;exact .inr ⟨j,y,q,a,c,e⟩
def pd:K->Bool
 |.agg _=>false
 |.tup _=>false
 |_=>true
theorem ah'{ρ:b4}{σ:bl}{v:K}{c:Value}(h:pd v=true)(a:aE ρ σ v=some c):Ep c=true:=by
 cases v<;>simp[pd]at h<;>simp only[aE]at a;case str l=>split at a<;>cases a;rfl
 case fn f x y=>split at a<;>cases a;rfl
 case sym i=>split at a<;>cases a;assumption
 all_goals first
  |(cases a;rfl)
  |(simp only[ig]at a;obtain⟨q,_,rfl⟩:=a;rfl)
theorem JD{ρ:b4}{σ:bl}:∀{l:List K} {cs:List Value},l.all pd=true->bU ρ σ l=some cs->∀c∈cs,Ep c=true
 |[],cs,_,h,c,a=>by simp[bU]at h;subst h;cases a
 |v::l,cs,b,h,c,a=>by
  obtain⟨x,r,H,I,rfl⟩:=uT h
  simp only[List.all_cons,dz]at b
  cases a with
  |head=>exact ah' b.1 H
  |tail _ a=>exact JD b.2 I c a
theorem T2{ρ:b4}{σ:bl}{v:K}{c:Value}(h:v.cells.all pd=true)(a:aE ρ σ v=some c):bU ρ σ v.cells=some c.cells.toList:=by
 cases v<;>simp only[K.cells]at h⊢;case agg l=>simp only[aE,ig]at a;obtain⟨x,b,rfl⟩:=a;simpa[Value.cells]using b
 case tup l=>simp[pd]at h
 all_goals
  have:=ah' (by simpa using h) a;simp only[bU,a];cases c<;>simp[Ep]at this<;>simp[Value.cells]
def YZ(n:Nat):List K->ay->Option (K×ay)
 |[.jo b off,v],h=>match h.cK b with
  |some (.cells elem vs a true)=>
   bif Nat.beq v.cells.length n&&Nat.ble (off+n) vs.length&&v.cells.all pd&&Nat.blt b en then
    some (pz,h.dD b (some (.cells elem (yo vs off v.cells) a true)))else none
  |_=>none
 |_,_=>none
theorem Q4{vs l:List K}{o:Nat}(h:o+l.length<=vs.length):(yo vs o l).length=vs.length:=by
 simp[yo];omega
theorem ael{ρ:b4}{σ:bl}{vs l:List K}{cs a:List Value}{o:Nat}(H:bU ρ σ vs=some cs)(I:bU ρ σ l=some a):bU ρ σ (yo vs o l)=some (cs.take o++(a++cs.drop (o+l.length))):=
 uS (sU o H) (uS I (tS _ H))
theorem amo{cs a:List Value}{o j:Nat}(h:o+a.length<=cs.length):(cs.take o++(a++cs.drop (o+a.length)))[j]? =if o<=j/\j<o+a.length then a[j-o]? else cs[j]? :=by
 by_cases H:j<o
 ·rw[bn z,w0 bu];simp[oS,H]
 ·rw[yM bu];have e:(cs.take o).length=o:=bu;rw[e];by_cases I:j<o+a.length
  ·rw[cv z,w0 z]
  ·rw[bn z,yM z,HR];congr 1;omega
theorem c6.aaI{ρ:b4}{σ:bl}{h:ay}{w:World}(r:c6 ρ σ h w){b:Nat}{elem:TypeId}{vs:List K}{d:Bool}(A:h.cK b=some (.cells elem vs d true))(t:b<en){off:Nat}{l:List K}{a:List Value}(g:bU ρ σ l=some a) (f:off+l.length<=vs.length)(n:∀c∈a,Ep c=true):∃p w',σ b=some p/\(∀(P:Program),(storeCells ⟨p.aU,p.dA+off,none⟩ a).run P w=.ok () w')/\ c6 ρ σ (h.dD b (some (.cells elem (yo vs off l) d true))) w'/\jj σ h w σ (h.dD b (some (.cells elem (yo vs off l) d true))) w':=by
 obtain⟨p,arr,bg,cs,ag,H,I,s,o,k,F,C,B⟩:=r.cells A;have aq:p.aU<w.heap.size:=(hl.1 H).1;have D:=me g;have J:=me k;have m:∀i,p.dA<=i->i<arr.size->¬(bg.1<=i/\i<bg.2):=fun i hi aq=>by have:=B rfl i hi aq;simp only[World.frozen?,H]at this;obtain⟨ee,G⟩:=bg;simp at this⊢;exact this
 have y:∀(P:Program),(storeCells ⟨p.aU,p.dA+off,none⟩ a).run P w=.ok () (gj w p.aU (.cells (sw arr (p.dA+off) a) elem bg)):=fun P=>by have:=Yv (P:=P) p.aU (p.dA+off) elem bg a 0 w arr H n fun j E=>⟨z,m _ z z⟩;simpa using this
 have x:io ρ σ p (some (.cells (sw arr (p.dA+off) a) elem bg)) (.cells elem (yo vs off l) d true):=by
  refine⟨_,bg,rfl,by rw[Mm];exact I,by rw[Q4 f];exact s,fun ah=>by rw[Q4 f];exact o ah,⟨_,ael k g,fun i hi=>?_⟩,fun _ i hi aq=>?_⟩
  ·rw[Q4 f]at hi;rw[Q3 _ _ _ _ z,←D,amo z];by_cases e:off<=i/\i<off+a.length
   ·rw[cv e,cv z];congr 1;omega
   ·rw[bn e,bn z];exact C i hi
  ·rw[Mm]at aq;exact m i hi aq
 obtain⟨q,u⟩:=r.put A ag t aq x;exact⟨p,_,ag,y,q,u⟩
section
variable {P:Program} {ρ:b4}
theorem aDb{o:Oper}{t:TypeId}{x y:Operand}(h:o.op=.store t x y){i:TypeInfo}(hi:P.info? t=some i):y2 P ρ o (YZ i.size):=by
 intro σ s B a w v C r j k J;unfold YZ at J;split at J
 ·rename_i b off u;split at J
  ·rename_i elem vs D A;cases e:(Nat.beq u.cells.length i.size&&Nat.ble (off+i.size) vs.length&&u.cells.all pd&&Nat.blt b en)with
   |false=>rw[e]at J;simp at J
   |true=>
    rw[e]at J;simp only[er,cb,g9]at J;obtain⟨rfl,rfl⟩:=J;simp only[dz]at e;obtain⟨⟨⟨c1,c2⟩,c3⟩,c4⟩:=e;have c1:=gV c1;have c2:=gP c2;have c4:b<en:=by simpa using c4
    obtain⟨c,d,e,hd,g⟩:=j6 j;simp[fm,h,Op.operands]at g;obtain⟨b2,cL⟩:=g;have f:=T2 c3 hd;obtain⟨p,w',ag,n,q,l⟩:=k.aaI (off:=off) A c4 f z (JD c3 f);simp only[aE,ag,ob,cb]at e;subst e;have m:d.cells.size=i.size:=by have:=me f;simp at this;omega
    refine .inr (.inl ⟨w',?_,σ,JI ρ σ,q,l⟩);simp[execOp,h,b2,cL,Instr.storeAt,Instr.sureAddr,storeVar,sizeOf,typeInfo,hi,m,n]
  ·cases J
 ·cases J
end
section
variable {P:Program} {ρ:b4}
theorem gF{w:World}{t:TypeId}{d:TypeDesc}(h:P.underlying t=some d):(underlying t).run P w=.ok d w:=by simp[underlying,h]
theorem n6{w:World}{t:TypeId}{i:TypeInfo}(h:P.info? t=some i):(sizeOf t).run P w=.ok i.size w:=by simp[sizeOf,typeInfo,h]
def J9(off:Nat):List K->Option K
 |[.jo b o]=>some (.jo b (o+off))
 |_=>none
theorem uU{σ:bl}{b o:Nat}{c:Value}(h:aE ρ σ (.jo b o)=some c):∃p,σ b=some p/\c=.pointer (some ⟨p.aU,p.dA+o,none⟩):=by
 exact ai6
theorem xz{σ:bl}{b o n e:Nat}{cap:Option Nat}{c:Value}(h:aE ρ σ (.slice b o n e cap)=some c):∃p,σ b=some p/\c=.slice (some ⟨p.aU,p.dA+o,none⟩) n (i9 p o e cap):=by
 exact ai6
theorem m0{σ:bl}{k:IntKind}{n:Int}{c:Value}(h:aE ρ σ (.int k n)=some c):c=.int k n:=by
 simp only[aE,cb]at h;exact h.symm
theorem atw{o:Oper}{t:TypeId}{x:Operand}{i:Nat}(h:o.op=.fieldAddr t x i){d:Array Field}{f:Field}{e:TypeInfo}(hu:P.underlying t=some (.struct d))(l:d[i]? =some f)(hi:P.info? f.type=some e)(k:e.size≠0): ku P ρ o (J9 f.offset):=by
 intro σ s a w v m j J;unfold J9 at J;split at J
 ·cases J;obtain⟨c,g,b⟩:=iW j;simp[fm,h,Op.operands]at b;obtain⟨p,ag,rfl⟩:=uU g;refine⟨.pointer (some ⟨p.aU,p.dA+(_+f.offset),none⟩),by simp[aE,ag];rfl,?_⟩;simp[execOp,h,b,Instr.fieldAt,gF hu,l,Instr.sureAddr,fieldPlace,n6 hi,k,xr,kr]
 ·cases J
def GV(n:Nat):List K->Option K
 |[.slice b o len _ _,.int _ i]=>match i with
  |.ofNat m=>bif Nat.blt m len then uw (o+m*n) fun q=>some (.jo b q)else none
  |_=>none
 |_=>none
theorem aw2{o:Oper}{t e:TypeId}{x y:Operand}(h:o.op=.indexAddr t x y){f:TypeInfo}(hu:P.underlying t=some (.slice e))(hi:P.info? e=some f):ku P ρ o (GV f.size):=by
 intro σ s a w v q n J;unfold GV at J;split at J
 ·rename_i b off len r cap k i;split at J
  ·rename_i m;cases aq:Nat.blt m len with
   |false=>simp[aq]at J
   |true=>
    have j:m<len:=by simpa using aq
    simp[aq,yr]at J;subst J;obtain⟨c,d,l,hd,g⟩:=j6 n;simp[fm,h,Op.operands]at g;obtain⟨p,ag,rfl⟩:=xz l;obtain rfl:=m0 hd;obtain⟨b2,cL⟩:=g;refine⟨.pointer (some ⟨p.aU,p.dA+(off+m*f.size),none⟩),by simp[aE,ag],?_⟩;simp[execOp,h,b2,cL,Instr.indexAt,asIntOf,gF hu,n6 hi,j,xr,kr]
  ·cases J
 ·cases J
def WS(len n:Nat):List K->Option K
 |[.jo b o,.int _ i]=>match i with
  |.ofNat m=>bif Nat.blt m len then uw (o+m*n) fun q=>some (.jo b q)else none
  |_=>none
 |_=>none
theorem aw3{o:Oper}{t e:TypeId}{len:Nat}{x y:Operand}(h:o.op=.indexAddr t x y){f:TypeInfo}(hu:P.underlying t=some (.array len e))(hi:P.info? e=some f):ku P ρ o (WS len f.size):=by
 intro σ s a w v q n J;unfold WS at J;split at J
 ·rename_i b off k i;split at J
  ·rename_i m;cases aq:Nat.blt m len with
   |false=>simp[aq]at J
   |true=>
    have j:m<len:=by simpa using aq
    simp[aq,yr]at J;subst J;obtain⟨c,d,l,hd,g⟩:=j6 n;simp[fm,h,Op.operands]at g;obtain⟨p,ag,rfl⟩:=uU l;obtain rfl:=m0 hd;obtain⟨b2,cL⟩:=g;refine⟨.pointer (some ⟨p.aU,p.dA+(off+m*f.size),none⟩),by simp[aE,ag],?_⟩;simp[execOp,h,b2,cL,Instr.indexAt,asIntOf,gF hu,n6 hi,Instr.sureAddr,j,xr,kr]
  ·cases J
 ·cases J
def LM:List K->Option K
 |[.jo b o]=>some (.jo b o)
 |[.fn f x y]=>some (.fn f x y)
 |[.rt b]=>some (.rt b)
 |[.iface t v]=>some (.iface t v)
 |_=>none
theorem ay4{o:Oper}{x:Operand}(h:o.op=.nilCheck x):ku P ρ o LM:=by
 intro σ s a w v b V J;unfold LM at J;split at J<;>cases J
 ·obtain⟨c,L,O⟩:=iW V;simp[fm,h,Op.operands]at O;obtain⟨p,ag,rfl⟩:=uU L;exact⟨_,L,by simp[execOp,h,O]⟩
 ·obtain⟨c,L,O⟩:=iW V;simp[fm,h,Op.operands]at O;have kJ:=L;simp only[aE]at L;split at L<;>cases L;exact⟨_,kJ,by simp[execOp,h,O]⟩
 ·exact ajz
 ·exact ajz
theorem Qb{σ:bl}{b:Nat}(A:σ b=none){w:World}{elem:TypeId}{vs:List K}{cs:List Value}(a:bU ρ σ vs=some cs): io ρ (dW σ b ⟨w.heap.size,0,vs.length⟩) ⟨w.heap.size,0,vs.length⟩ (some (.cells cs.toArray elem)) (.cells elem vs true true):=by
 refine⟨cs.toArray,(0,0),rfl,by simp[me a],aZ _,fun _=>⟨rfl,rfl⟩,⟨cs,pD (.dD A) a,fun i _=>am⟩,fun _ i _ _=>am⟩
def Tl(elem:TypeId)(zs:List K):List K->Option em
 |[]=>some (.cells elem zs true true)
 |_=>none
def Hk(_:List K)(b:Nat):K:=.jo b 0
theorem aqO{o:Oper}{t:TypeId}(h:o.op=.alloc t){i:TypeInfo}{ae:Value}{zs:List K}(hi:P.info? t=some i)(e:i.zero=some ae)(f:qw ae.cells.toList=some zs):E6 P ρ o (Tl t zs) Hk:=by
 intro σ s a w x b j g c A;unfold Tl at c;split at c
 ·cases c;have d:=BV (ρ:=ρ) (σ:=σ) f;refine⟨.cells ae.cells t,zs.length,w.drawn,.pointer (some ⟨w.heap.size,0,none⟩),?_,by simp[Hk,aE,dW],by simpa using Qb (w:=w) (elem:=t) A d⟩;simp[execOp,h,Instr.alloc,zeroValue,typeInfo,hi,e,newVar,newRow]
 ·cases c
def TB(elem:TypeId):List K->Option em
 |[v]=>bif v.cells.all pd then some (.cells elem v.cells true true)else none
 |_=>none
theorem ara{o:Oper}{t:TypeId}{x:Operand}(h:o.op=.box t x):E6 P ρ o (TB t) Hk:=by
 intro σ s a w y b k g d A;unfold TB at d;split at d
 ·rename_i v;cases e:v.cells.all pd with
  |false=>simp[e]at d
  |true=>simp[e]at d;subst d;obtain⟨c,i,f⟩:=iW g;simp[fm,h,Op.operands]at f;have j:=T2 e i;refine⟨.cells c.cells t,v.cells.length,w.drawn,.pointer (some ⟨w.heap.size,0,none⟩),?_,by simp[Hk,aE,dW],by simpa using Qb (w:=w) (elem:=t) A j⟩;simp[execOp,h,f,Instr.box,newVar,newRow]
 ·cases d
def tV:List (Nat×Nat)->List K->List K->Option (List K)
 |[],[],cs=>some cs
 |(off,n)::a,v::vs,cs=>
  bif Nat.beq v.cells.length n&&Nat.ble (off+n) cs.length&&v.cells.all pd then tV a vs (yo cs off v.cells)else none
 |_,_,_=>none
theorem aft(off:Nat):∀(l:List Value) (k:Nat) (c:Array Value),(l.zipIdx k).foldl (fun cs (x:Value×Nat)=>cs.setIfInBounds (off+x.2) x.1) c=sw c (off+k) l
 |[],_,_=>rfl
 |v::l,k,c=>by
  simp only[List.zipIdx_cons,HQ,sw]
  rw[aft off l (k+1),kr]
theorem aCK{cs:List Value}{a:List Value}{o:Nat}(h:o+a.length<=cs.length):sw cs.toArray o a=(cs.take o++(a++cs.drop (o+a.length))).toArray:=by
 apply MH;intro j;rw[Q3 _ _ _ _ (by simpa using h)];simp only[RL];rw[amo h]
theorem OF{σ:bl}{place:Nat->Option (Nat×Nat)}:∀{parts:List (Nat×Operand)} {g:List (Nat×Nat)} {vs cs:List K} {a:Array Value} {aK:List Value} {r:List K},(parts.map fun p=>place p.1)=g.map some->bU ρ σ vs=some (parts.map fun p=>dT a p.2)->
  bU ρ σ cs=some aK->tV g vs cs=some r->∃f,bU ρ σ r=some f/\Instr.fill place aK.toArray (parts.map fun p=>(p.1,dT a p.2))=some f.toArray
 |[],[],vs,cs,a,aK,r,_,J,b,h=>by
  cases vs with
  |nil=>simp[tV]at h;subst h;exact⟨aK,b,rfl⟩
  |cons v vs=>simp[tV]at h
 |[],_::_,_,_,_,_,_,ag,_,_,_=>by simp at ag
 |_::_,[],_,_,_,_,_,ag,_,_,_=>by simp at ag
 |(i,x)::parts,(off,n)::g,vs,cs,a,aK,r,ag,J,b,h=>by
  simp only[oa,pk]at ag
  cases vs with
  |nil=>simp[tV]at h
  |cons v vs=>
   simp only[tV]at h
   cases d:(Nat.beq v.cells.length n&&Nat.ble (off+n) cs.length&&v.cells.all pd)with
   |false=>rw[d]at h;simp at h
   |true=>
    rw[d]at h
    simp only[er]at h
    simp only[dz]at d
    obtain⟨⟨ce,eb⟩,eV⟩:=d
    have ce:=gV ce
    have eb:=gP eb
    obtain⟨c,s,H,I,e⟩:=uT J
    simp only[oa,pk]at e
    obtain⟨e,q⟩:=e
    have k:=T2 eV H
    have j:=me k
    simp at j
    have t:=me b
    obtain⟨f,ak,m⟩:=OF (place:=place) ag.2 (q▸I) (ael (o:=off) b k) h
    refine⟨f,ak,?_⟩
    simp only[oa,Instr.fill,ag.1,e]
    have A:(decide (c.cells.size≠n)||decide (off+c.cells.size>aK.toArray.size))=false:=bu
    rw[A]
    simp only[p0,oV]
    have l:(c.cells.zipIdx.foldl (fun cs (x:Value×Nat)=>cs.setIfInBounds (off+x.2) x.1) aK.toArray)=(aK.take off++(c.cells.toList++aK.drop (off+v.cells.length))).toArray:=by
     rw[←ank,Array.toList_zipIdx,aft off c.cells.toList 0,hG,aCK bu]
     simp[j]
    rw[l]
    exact m
end
section
variable {P:Program} {ρ:b4}
theorem afl:∀{b:List (Nat×Nat)} {vs cs r:List K},tV b vs cs=some r->r.length=cs.length
 |[],[],cs,r,h=>by simp[tV]at h;subst h;rfl
 |[],_::_,cs,r,h=>by simp[tV]at h
 |_::_,[],cs,r,h=>by simp[tV]at h
 |(off,n)::b,v::vs,cs,r,h=>by
  simp only[tV]at h
  cases a:(Nat.beq v.cells.length n&&Nat.ble (off+n) cs.length&&v.cells.all pd)with
  |false=>rw[a]at h;simp at h
  |true=>
   rw[a]at h
   simp only[er]at h
   simp only[dz]at a
   obtain⟨⟨ce,eb⟩,eV⟩:=a
   have ce:=gV ce
   have eb:=gP eb
   rw[afl h,Q4 z]
def Hi(P:Program):List Field->Option (List (Nat×Nat))
 |[]=>some []
 |f::a=>match P.info? f.type,Hi P a with
  |some i,some r=>some ((f.offset,i.size)::r)
  |_,_=>none
theorem al3{w:World}:∀{a:List Field} {r:List (Nat×Nat)},Hi P a=some r->(a.mapM fun f=>do pure (f.offset,←sizeOf f.type):Sem (List (Nat×Nat))).run P w=.ok r w
 |[],r,h=>by simp[Hi]at h;subst h;simp
 |f::a,r,h=>by
  simp only[Hi]at h
  split at h
  ·rename_i i c hi b
   cases h
   simp only[abc,d',n6 hi,dX,eQ]
   rw[al3 b]
   rfl
  ·cases h
def FR(zs:List K)(a:List (Nat×Nat))(vs:List K):Option K:=match tV a vs zs with
 |some r=>some (.agg r)
 |none=>none
theorem X9(parts:Array (Nat×Operand))(a:Array Value):(parts.map fun(i,x)=>(i,dT a x)).toList=parts.toList.map fun p=>(p.1,dT a p.2):=am
theorem arf{o:Oper}{t:TypeId}{parts:Array (Nat×Operand)}(h:o.op=.build t parts){i:TypeInfo}{ae:Value}{zs:List K}{c:Array Field}{b j:List (Nat×Nat)}(hi:P.info? t=some i)(n:i.zero=some ae)(q:qw ae.cells.toList=some zs) (hu:P.underlying t=some (.struct c))(k:Hi P c.toList=some b)(ag:(parts.toList.map fun p=>b[p.1]?)=j.map some):ku P ρ o (FR zs j):=by
 intro σ s a w v u d J;unfold FR at J;split at J
 ·rename_i r l;cases J;simp only[fm,h,Op.operands,HV]at d;obtain⟨g,H,I⟩:=OF (place:=(b.toArray[·]?)) (parts:=parts.toList) (a:=a) (by simpa using ag) (by simpa[MM]using d) (BV q) l;refine⟨.agg g.toArray,by simp[aE,H],?_⟩;have m:(c.mapM fun f=>do pure (f.offset,←sizeOf f.type):Sem (Array (Nat×Nat))).run P w=.ok b.toArray w:=by rw[aaQ];simp only[aaY];rw[al3 k];rfl
  have A:(Instr.build t (parts.map fun(i,x)=>(i,dT a x))).run P w=.ok (.agg g.toArray) w:=by simp only[Instr.build,d',zeroValue,typeInfo,Ar,dX,hi,eQ,n,gF hu];rw[m];simp only[dX,X9];have e:ae.cells=ae.cells.toList.toArray:=am;rw[e,I];rfl
  simp[execOp,h,A]
 ·cases J
theorem ard{o:Oper}{t e:TypeId}{len:Nat}{parts:Array (Nat×Operand)}(h:o.op=.build t parts){i b:TypeInfo}{ae:Value}{zs:List K}{f:List (Nat×Nat)}(hi:P.info? t=some i)(k:i.zero=some ae)(l:qw ae.cells.toList=some zs) (hu:P.underlying t=some (.array len e))(j:P.info? e=some b)(ag:f=parts.toList.map fun p=>(p.1*b.size,b.size)):ku P ρ o (FR zs f):=by
 intro σ s a w v m c J;unfold FR at J;split at J
 ·rename_i r g;cases J;simp only[fm,h,Op.operands,HV]at c;obtain⟨d,H,I⟩:=OF (place:=fun i=>some (i*b.size,b.size)) (parts:=parts.toList) (a:=a) (by subst ag;simp[MM]) (by simpa[MM]using c) (BV l) g;refine⟨.agg d.toArray,by simp[aE,H],?_⟩;have A:(Instr.build t (parts.map fun(i,x)=>(i,dT a x))).run P w=.ok (.agg d.toArray) w:=by simp only[Instr.build,d',zeroValue,typeInfo,Ar,dX,hi,eQ,k,gF hu,n6 j];simp only[X9];have e:ae.cells=ae.cells.toList.toArray:=am;rw[e,I];rfl
  simp[execOp,h,A]
 ·cases J
def TD(elem:TypeId)(a:List K)(b:List (Nat×Nat))(vs:List K):Option em:=match tV b vs a with
 |some r=>some (.cells elem r true true)
 |none=>none
def YR(len esz:Nat)(_:List K)(b:Nat):K:=.slice b 0 len esz none
theorem are{o:Oper}{t e:TypeId}{len:Nat}{parts:Array (Nat×Operand)}(h:o.op=.buildSlice t len parts){c:TypeInfo}{ae:Value}{f:List K}{m:List (Nat×Nat)}(hu:P.underlying t=some (.slice e))(k:P.info? e=some c)(u:c.zero=some ae) (F:len*c.size<=2^24)(y:c.size≠0)(q:qw ((Array.range (len*c.size)).map ((if len*c.size=0 then #[]else ae.cells)[· %(if len*c.size=0 then #[]else ae.cells).size]!)).toList=some f) (ag:m=parts.toList.map fun p=>(p.1*c.size,c.size)):E6 P ρ o (TD e f m) (YR len c.size):=by
 intro σ s a w x b E g d A;unfold TD at d;split at d
 ·rename_i r j;cases d;simp only[fm,h,Op.operands,HV]at g;have n:=BV (ρ:=ρ) (σ:=σ) q;obtain⟨l,H,I⟩:=OF (place:=fun i=>some (i*c.size,c.size)) (parts:=parts.toList) (a:=a) (by subst ag;simp[MM]) (by simpa[MM]using g) n j;have C:r.length=len*c.size:=by rw[afl j,←me n];simp
  have B:=Qb (ρ:=ρ) (w:=w) (elem:=e) A H;refine⟨.cells l.toArray e,r.length,w.drawn,.slice (some ⟨w.heap.size,0,none⟩) len len,?_,?_,B⟩
  ·have D:(Instr.buildSlice t len (parts.map fun(i,x)=>(i,dT a x))).run P w=.ok (.slice (some ⟨w.heap.size,0,none⟩) len len) {w with heap:=w.heap.push (.cells l.toArray e),drawn:=w.drawn}:=by
    simp only[Instr.buildSlice,d',gF hu,n6 k,dX,X9];rw[bn z];by_cases ab:len*c.size=0
    ·simp only[ab,sA]at I⊢;simp only[d',eQ,dX,ano]at I⊢;rw[I];rfl
    ·simp only[ab,oV]at I⊢;simp only[d',zeroValue,typeInfo,Ar,dX,k,eQ,u,ano]at I⊢;rw[I];rfl
   simp[execOp,h,D]
  ·have:len*c.size/c.size=len:=RV _ (M3 y);simp[YR,aE,dW,i9,C,this]
 ·cases d
def B2(c:Nat)(l:List K):List K:=match c with
 |0=>[]
 |c+1=>l++B2 c l
def su(c:Nat)(l:List Value):List Value:=match c with
 |0=>[]
 |c+1=>l++su c l
theorem Yi{σ:bl}{l:List K}{cs:List Value}(h:bU ρ σ l=some cs):∀c,bU ρ σ (B2 c l)=some (su c cs)
 |0=>rfl
 |c+1=>uS h (Yi h c)
theorem Yj(l:List K):∀c,(B2 c l).length=c*l.length
 |0=>by simp[B2]
 |c+1=>by simp[B2,Yj l c,abi,sz]
theorem Yh(l:List Value):∀c,(su c l).length=c*l.length
 |0=>by simp[su]
 |c+1=>by simp[su,Yh l c,abi,sz]
theorem alB(l:List Value):∀(c j:Nat),j<c*l.length->(su c l)[j]? =l[j%l.length]?
 |0,j,h=>by simp at h
 |c+1,j,h=>by
  rw[su]
  by_cases b:j<l.length
  ·rw[w0 b,ry b]
  ·rw[yM z,alB l c (j-l.length) (by rw[abi]at h;omega)]
   congr 1
   rw[Nat.mod_eq_sub_mod (a:=j) z]
theorem alt(ae:Array Value)(c:Nat)(d:ae.size≠0):((Array.range (c*ae.size)).map (ae[· %ae.size]!))=(su c ae.toList).toArray:=by
 apply MH;intro j;by_cases a:j<c*ae.size
 ·simp only[RL];rw[alB ae.toList c j (by simpa using a)];have b:j%ae.size<ae.size:=w2 _ (M3 d);simp[a,b]
 ·rw[RA bu,RA (by simp[Yh];omega)]
def Xl(elem:TypeId)(zs:List K)(bytes:Nat):List K->Option em
 |[.int _ (.ofNat l),.int _ (.ofNat c)]=>bif Nat.ble l c&&Nat.ble (bytes*c) 281474976710656&&Nat.ble c 9223372036854775807 then some (.cells elem (B2 c zs) true true)else none
 |_=>none
def YP(esz:Nat):List K->Nat->K
 |[.int _ (.ofNat l),_],b=>.slice b 0 l esz none
 |_,_=>.bS
theorem ayj{o:Oper}{t e:TypeId}{x y:Operand}(h:o.op=.makeSlice t x y){d:TypeInfo}{ae:Value}{zs:List K}(hu:P.underlying t=some (.slice e))(i:P.info? e=some d)(I:d.zero=some ae)(Q:qw ae.cells.toList=some zs) (n:ae.cells.size=d.size)(j:d.size≠0):E6 P ρ o (Xl e zs d.bytes) (YP d.size):=by
 intro σ s a w q b U D f A;unfold Xl at f;split at f
 ·rename_i k l N c;cases g:(Nat.ble l c&&Nat.ble (d.bytes*c) 281474976710656&&Nat.ble c 9223372036854775807)with
  |false=>rw[g]at f;simp at f
  |true=>
   rw[g]at f;simp only[er,cb]at f;subst f;simp only[dz]at g;obtain⟨⟨ce,eb⟩,eV⟩:=g;have ce:=gP ce;have eb:=gP eb;have eV:=gP eV;obtain⟨c1,c2,R,T,u⟩:=j6 D;simp[fm,h,Op.operands]at u;obtain rfl:=m0 R;obtain rfl:=m0 T;obtain⟨b2,cL⟩:=u;have B:=BV (ρ:=ρ) (σ:=σ) Q;have r:=me B;simp at r;have J:=Qb (ρ:=ρ) (w:=w) (elem:=e) A (Yi B c);refine⟨_,_,w.drawn,.slice (some ⟨w.heap.size,0,none⟩) l c,?_,?_,J⟩
   ·have H:IntKind.i64.wrap (Int.ofNat l)=(l:Int):=oQ _ ⟨by simp only[Co];omega,by simp only[Co];omega⟩;have G:IntKind.i64.wrap (Int.ofNat c)=(c:Int):=oQ _ ⟨by simp only[Co];omega,by simp only[Co];omega⟩;have F:(Instr.makeSlice t (.int k (Int.ofNat l)) (.int N (Int.ofNat c))).run P w=.ok (.slice (some ⟨w.heap.size,0,none⟩) l c) {w with heap:=w.heap.push (.cells (su c ae.cells.toList).toArray e),drawn:=w.drawn}:=by
     simp only[Instr.makeSlice,d',gF hu,dX,asInt,asIntOf,eQ,typeInfo,Ar,i,H,G];have E:(d.bytes:Int)*(c:Int)<=281474976710656:=by rw[←Cn];generalize d.bytes*c=m at eb;omega
     have O:(decide ((c:Int)<0)||decide ((d.bytes:Int)*(c:Int)>2^48))=false:=by generalize (d.bytes:Int)*(c:Int)=m at E;have C:(2:Int)^48=281474976710656:=rfl;rw[MK];exact⟨RZ z,RZ (by rw[C];omega)⟩
     rw[O];have L:(false||decide ((l:Int)<0)||decide ((l:Int)>(c:Int)))=false:=by rw[MK,MK];exact⟨⟨rfl,RZ z⟩,RZ z⟩
     rw[bn (by rw[L];simp)];simp only[d',aa3,dX,n6 i,aa7];by_cases ab:c*d.size=0
     ·have S:c=0:=by
       rcases Nat.mul_eq_zero.1 ab with h|h
       ·exact h
       ·exact(j h).elim
      subst S;have eg:(Array.map (fun _=>(default:Value)) (Array.range 0))=#[]:=Array.eq_empty_of_size_eq_zero am;simp[newRow,su,eg]
     ·simp only[ab,oV,d',zeroValue,typeInfo,Ar,dX,i,eQ,I];rw[←n,alt ae.cells c (by rw[n];exact j)];simp[newRow]
    simp only[execOp,h,b2,cL,d',F,dX,eQ]
   ·have M:(B2 c zs).length=c*d.size:=by rw[Yj,←r,n]
    have:c*d.size/d.size=c:=RV _ (M3 j);simp[YP,aE,dW,i9,M,this]
 ·cases f
end
end Go.ch
