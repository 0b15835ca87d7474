/- ItemLatest, one part of the proof. -/
import Derived.Test.YtdioggbficfibaaGreatDoorP00
set_option linter.all false
set_option maxRecDepth 100000
set_option maxHeartbeats 16000000
namespace Go
open Proofs RowKit Lib
abbrev β(w w':World):Prop:=Below w.heap.size w w'
abbrev χ(n:FuncId)(a:Array Value)(w:World)(R:Ending->World->Prop):Prop:=Calls Proofs.Tryz.prog n a w fun e w'=>R e w'/\β w w'
end Go
namespace Go.bS
structure i2 (C:Type) where
 id:Int
 F7:Int
 time:Int
 rest:C
variable {C:Type}
def later(a b:i2 C):Bool:=if a.time=b.time then decide (a.F7>b.F7)else decide (a.time>b.time)
def le(i b:i2 C):Prop:=b.time>i.time∨b.time=i.time/\b.F7≥i.F7
theorem le.refl(i:i2 C):le i i:=.inr ⟨rfl,Int.le_refl _⟩
theorem le.trans{a b c:i2 C}(h:le a b)(k:le b c):le a c:=by
 unfold le at*;omega
theorem aDG{a b:i2 C}(h:later a b=true):le b a:=by
 unfold later at h;unfold le;split at h<;>simp at h<;>omega
theorem aDH{a b:i2 C}(h:later a b=false):le a b:=by
 unfold later at h;unfold le;split at h<;>simp at h<;>omega
def step(id:Int)(o:Option (i2 C))(i:i2 C):Option (i2 C):=
 if i.id=id then(match o with|none=>some i|some a=>if later a i then some a else some i)else o
def m5(l:List (i2 C))(id:Int):Option (i2 C):=l.foldl (step id) none
theorem Js(l:List (i2 C))(i:i2 C)(id:Int):m5 (l++[i]) id=step id (m5 l id) i:=by simp[m5]
theorem F_(id:Int):∀(n:Nat) (l:List (i2 C)),l.length=n-> (∀b,m5 l id=some b->b∈l/\b.id=id/\∀i∈l,i.id=id->le i b)/\(m5 l id=none->∀i∈l,i.id≠id):=by
 intro n;induction n with
 |zero=>intro l d;obtain rfl:=LQ.1 d;exact⟨fun b h=>(by cases h),fun _ i hi=>(by cases hi)⟩
 |succ n o=>
  intro l d;obtain⟨k,i,rfl⟩:∃k i,l=k++[i]:=by
   have m:l≠[]:=by intro h;rw[h]at d;cases d
   exact⟨l.dropLast,l.getLast m,(List.dropLast_concat_getLast m).symm⟩
  obtain⟨H,I⟩:=o k (by simpa using d);rw[Js];unfold step;by_cases hi:i.id=id
  ·rw[co hi];cases A:m5 k id with
   |none=>
    refine⟨fun b h=>?_,fun h=>by cases h⟩;obtain rfl:i=b:=gQ h;refine⟨ao,hi,fun j c e=>?_⟩;rcases lo.1 c with c|c
    exact absurd e (I A j c)
    ·obtain rfl:=o0.1 c;exact le.refl _
   |some a=>
    obtain⟨aH,g,f⟩:=H a A;by_cases d:later a i=true
    ·simp only[d,ox];refine⟨fun b h=>?_,fun h=>by cases h⟩;obtain rfl:a=b:=gQ h;refine⟨lo.2 (.inl aH),g,fun j c e=>?_⟩;rcases lo.1 c with c|c
     exact f j c e;obtain rfl:=o0.1 c;exact aDG d
    ·have d:later a i=false:=by simpa using d
     simp only[d,qM,pz];refine⟨fun b h=>?_,fun h=>by cases h⟩;obtain rfl:i=b:=gQ h;refine⟨ao,hi,fun j c e=>?_⟩;rcases lo.1 c with c|c
     exact(f j c e).trans (aDH d);obtain rfl:=o0.1 c;exact le.refl _
  ·rw[bs hi];refine⟨fun b h=>?_,fun h j c=>?_⟩
   ·obtain⟨aH,g,f⟩:=H b h;refine⟨lo.2 (.inl aH),g,fun j c e=>?_⟩;rcases lo.1 c with c|c
    exact f j c e;obtain rfl:=o0.1 c;exact absurd e hi
   rcases lo.1 c with c|c;exact I h j c;obtain rfl:=o0.1 c;exact hi
structure l_ (l R:List (i2 C)):Prop where
 Ej:R.Pairwise (fun a b=>a.id<b.id)
 Pu:∀x∈R,m5 l x.id=some x
 all:∀i∈l,∃x∈R,x.id=i.id
theorem abL:∀(R S:List (i2 C)),R.Pairwise (fun a b=>a.id<b.id)->S.Pairwise (fun a b=>a.id<b.id)->(∀x∈R,x∈S)->(∀x∈S,x∈R)->R=S
 |[],[],_,_,_,_=>rfl
 |[],y::S,_,_,_,h=>by have:=h y ao;cases this
 |x::R,[],_,_,h,_=>by have:=h x ao;cases this
 |x::R,y::S,l,j,H,I=>by
  have g:=H x ao
  have i:=I y ao
  have d:=Rr.1 l
  have f:=Rr.1 j
  have e:x=y:=by
   rcases gl.1 g with h|h;exact h;rcases gl.1 i with k|k;exact k.symm;have a:=d.1 y k;have b:=f.1 x h;omega
  subst e
  congr 1
  refine abL R S d.2 f.2 (fun af c=>?_) (fun af c=>?_)
  ·rcases gl.1 (H af (jD _ c))with h|h
   subst h;have:=d.1 af c;omega;exact h
  ·rcases gl.1 (I af (jD _ c))with h|h
   subst h;have:=f.1 af c;omega;exact h
theorem l_.mo{l R:List (i2 C)}(h:l_ l R){x:i2 C}(a:x∈R):x∈l:=((F_ x.id _ l rfl).1 x (h.Pu x a)).1
theorem l_.azl{l R:List (i2 C)}(h:l_ l R){i:i2 C}(hi:i∈l):∃x∈R,x.id=i.id/\le i x:=by
 obtain⟨x,a,e⟩:=h.all i hi;exact⟨x,a,e,((F_ x.id _ l rfl).1 x (h.Pu x a)).2.2 i hi e.symm⟩
theorem l_.ayH{l R S:List (i2 C)}(h:l_ l R)(k:l_ l S):R=S:=by
 have key:∀{R S:List (i2 C)},l_ l R->l_ l S->∀x∈R,x∈S:=fun h k x a=>by obtain⟨y,b,e⟩:=k.all x (h.mo a);have:=k.Pu y b;rw[e,h.Pu x a]at this;obtain rfl:=gQ this;exact b
 exact abL R S h.Ej k.Ej (key h k) (key k h)
theorem aCE{R:List (i2 C)}(h:R.Pairwise (fun a b=>a.id<b.id)){x y:i2 C}(c:x∈R)(d:y∈R)(e:x.id=y.id):x=y:=by
 induction R with
 |nil=>cases c
 |cons af R f=>
  have p:=Rr.1 h;rcases gl.1 c with c|c<;>rcases gl.1 d with d|d
  rw[c,d];rw[c]at e;have:=p.1 y d;omega;rw[d]at e;have:=p.1 x c;omega;exact f p.2 c d
theorem l_.awk{l R S:List (i2 C)}(h:l_ l R)(k:l_ R S):S=R:=by
 refine abL S R k.Ej h.Ej (fun x a=>k.mo a) (fun x a=>?_);obtain⟨y,b,e⟩:=k.all x a;have:=aCE h.Ej (k.mo b) a e;exact this▸b
def key(i:i2 C):Int×Int×Int:=(i.id,i.F7,i.time)
theorem aDj{l:List (i2 C)}(h:(l.map key).Nodup){x y:i2 C}(a:x∈l)(b:y∈l)(e:key x=key y):x=y:=by
 induction l with
 |nil=>cases a
 |cons af l c=>
  have p:=afg.1 (by simpa using h:(key af::l.map key).Nodup);rcases gl.1 a with a|a<;>rcases gl.1 b with b|b
  rw[a,b];exact absurd (nv.2 ⟨y,b,(a▸e).symm⟩) p.1;exact absurd (nv.2 ⟨x,a,b▸e⟩) p.1;exact c p.2 a b
theorem l_.aKt{l m R S:List (i2 C)}(hu:(l.map key).Nodup)(a:∀x,x∈m↔x∈l)(h:l_ l R)(k:l_ m S):S=R:=by
 refine h.ayH ⟨k.Ej,fun x d=>?_,fun i hi=>k.all i ((a i).2 hi)⟩ |>.symm;have c:=k.mo d;obtain⟨g,j,f⟩:=(F_ x.id _ m rfl).1 x (k.Pu x d);cases A:m5 l x.id with
 |none=>exact absurd rfl ((F_ x.id _ l rfl).2 A x ((a x).1 c))
 |some b=>
  obtain⟨c1,c2,c3⟩:=(F_ x.id _ l rfl).1 b A;have bZ:=f b ((a b).2 c1) c2;have cp:=c3 x ((a x).1 c) rfl;have:b=x:=aDj hu c1 ((a x).1 c) (by
   have aj:b.time=x.time:=by unfold le at bZ cp;omega
   have e:b.F7=x.F7:=by unfold le at bZ cp;omega
   simp[key,c2,aj,e])
  rw[this]
end Go.bS
namespace Go.Proofs
open Go.Proofs.Tryz Go.Shelf
def sortA_ren:Go.Shelf.Ren:=⟨fun|5=>21|8=>48|7=>47|19=>130|20=>131|10=>121|11=>122|12=>123|13=>124|14=>125|15=>126|16=>127|17=>128|18=>129|30=>209|31=>210|32=>211|33=>212|34=>213|35=>214|40=>303|n=>n,fun|23=>22|25=>3|3=>3|32=>112|22=>22|0=>0|44=>184|46=>186|4=>4|36=>177|35=>176|41=>67|5=>5|9=>9|53=>269|57=>273|63=>343|64=>233|n=>n,fun|n=>n⟩
theorem sortA:Go.Proofs.SlLaysM.n5 prog sortA_ren:={
 mixed:=av
 f5:=⟨f21.name,ak,func21.trans (hU some av)⟩
 f7:=⟨f47.name,ak,func47.trans (hU some av)⟩
 f8:=func48.trans (hU some av)
 f10:=⟨f121.name,ak,func121.trans (hU some av)⟩
 f11:=⟨f122.name,ak,func122.trans (hU some av)⟩
 f12:=⟨f123.name,ak,func123.trans (hU some av)⟩
 f13:=⟨f124.name,ak,func124.trans (hU some av)⟩
 f14:=⟨f125.name,ak,func125.trans (hU some av)⟩
 f15:=⟨f126.name,ak,func126.trans (hU some av)⟩
 f16:=⟨f127.name,ak,func127.trans (hU some av)⟩
 f17:=⟨f128.name,ak,func128.trans (hU some av)⟩
 f18:=⟨f129.name,ak,func129.trans (hU some av)⟩
 f19:=func130.trans (hU some av)
 f20:=func131.trans (hU some av)
 f30:=⟨f209.name,ak,func209.trans (hU some av)⟩
 f31:=func210.trans (hU some av)
 f32:=func211.trans (hU some av)
 f33:=⟨f212.name,ak,func212.trans (hU some av)⟩
 f34:=⟨f213.name,ak,func213.trans (hU some av)⟩
 f35:=⟨f214.name,ak,func214.trans (hU some av)⟩
 f40:=⟨f303.name,ak,func303.trans (hU some av)⟩
 t0:=underlying0
 a0:=isAgg0
 z0:=sizeOf0
 v0:=zeroValue0
 t3:=rz
 a3:=isAgg3
 z3:=sizeOf3
 v3:=zeroValue3
 t4:=ae0
 a4:=isAgg4
 z4:=sizeOf4
 v4:=zeroValue4
 t5:=xV
 a5:=isAgg5
 z5:=sizeOf5
 v5:=zeroValue5
 t9:=LH
 a9:=isAgg9
 z9:=sizeOf9
 v9:=zeroValue9
 t22:=oY
 a22:=isAgg22
 z22:=sizeOf22
 v22:=zeroValue22
 t23:=oY
 a23:=isAgg22
 z23:=sizeOf22
 v23:=zeroValue22
 t25:=rz
 a25:=isAgg3
 z25:=sizeOf3
 v25:=zeroValue3
 t32:=underlying112
 a32:=isAgg112
 z32:=sizeOf112
 v32:=zeroValue112
 t35:=underlying176
 a35:=isAgg176
 z35:=sizeOf176
 v35:=zeroValue176
 t36:=underlying177
 a36:=isAgg177
 z36:=sizeOf177
 v36:=zeroValue177
 t41:=underlying67
 a41:=isAgg67
 z41:=sizeOf67
 v41:=zeroValue67
 t44:=underlying184
 a44:=isAgg184
 z44:=sizeOf184
 v44:=zeroValue184
 t46:=underlying186
 a46:=isAgg186
 z46:=sizeOf186
 v46:=zeroValue186
 t53:=underlying269
 a53:=isAgg269
 z53:=sizeOf269
 v53:=zeroValue269
 t57:=underlying273
 a57:=isAgg273
 z57:=sizeOf273
 v57:=zeroValue273
 t63:=underlying343
 a63:=isAgg343
 z63:=sizeOf343
 v63:=zeroValue343
 t64:=underlying233
 a64:=isAgg233
 z64:=sizeOf233
 v64:=zeroValue233}
end Go.Proofs
namespace Go.aJ
def aT(l:List UInt8):Nat:=l.foldl (fun n c=>n*256+c.toNat) 0
theorem Sp(l:List UInt8):∀n,l.foldl (fun n c=>n*256+c.toNat) n=n*256^l.length+aT l:=by
 exact ao5
theorem zT(c:UInt8)(l:List UInt8):aT (c::l)=c.toNat*256^l.length+aT l:=by
 show(c::l).foldl _ 0=_;rw[LN,Sp];simp
theorem X5(l:List UInt8)(c:UInt8):aT (l++[c])=aT l*256+c.toNat:=by
 unfold aT;rw[afc];rfl
theorem yk:∀(l:List UInt8),aT l<256^l.length
 |[]=>by simp[aT]
 |c::l=>by
  rw[zT,l7,zw]
  have H:=yk l
  have I:=Rw c
  have a:c.toNat*256^l.length<=255*256^l.length:=qR _ z
  omega
theorem M1(l:List UInt8):∀(k:Nat),(∀i,i<k->l[i]? =some 0)->aT (l.drop k)=aT l
 |0,_=>by simp
 |k+1,h=>by
  have ae:=M1 l k fun i hi=>h i z
  have a:=h k z
  obtain⟨au,a⟩:=k2.1 a
  rw[Iy au,zT,a]at ae
  simpa using ae
variable{l:List UInt8}{n:Nat}
theorem ahE{c:UInt8}(Q:c≠0)(h:aT (c::l)<256^n):(c::l).length<=n:=by
 exact aoK
def W0(s t:ByteArray):Prop:=aT t.data.toList=aT s.data.toList/\t.size<=s.size/\∀n,aT s.data.toList<256^n->t.size<=n
theorem adD(s t:ByteArray)(k:Nat)(aj:t.data.toList=s.data.toList.drop k)(a:k<=s.data.toList.length)(aA:∀j,j<k->s.data.toList[j]? =some 0)(aO:∀h:k<s.data.toList,s.data.toList[k]≠0):W0 s t:=by
 exact anZ
variable{k:Nat}
theorem asF(a:∀j,j<k->l[j]? =some 0)(h:l[k]? =some 0):∀j,j<k+1->l[j]? =some 0:=fun j b=>by
 by_cases e:j=k
 ·subst e;exact h
 ·exact a j z
def j4(n j:Nat):List Int:=(List.range j).map fun i=>(((n/2^(56-8*i))%256:Nat):Int)
theorem acY(k:Nat):(UInt8.ofNat (k%256)).toNat=k%256:=by
 rw[V1];omega
theorem X4(n:Nat)(h:n<9223372036854775808):aT ((j4 n 8).map fun x=>UInt8.ofNat x.toNat)=n:=by
 exact ao2
def dA(s:ByteArray)(n:Nat):Prop:=aT s.data.toList=n/\∀k,n<256^k->s.size<=k
variable{s:ByteArray}
theorem W0.amT{t:ByteArray}(h:W0 s t):dA t (aT s.data.toList):=⟨h.1,h.2.2⟩
theorem dA.zero(h:dA s n):(s.size=0)↔n=0:=by
 constructor;intro e;have:s.data.toList=[]:=CW (by rw[jC];exact e);rw[←h.1,this];rfl;intro e;have:=h.2 0 (by rw[e];decide);omega
theorem dA.lt(h:dA s n):n<256^s.size:=by
 have:=yk s.data.toList;rw[h.1,jC]at this;exact this
theorem dA.k7(h:dA s n)(a:256^k<=n):k<s.size:=by
 have H:=h.lt;have:256^k<256^s.size:=p_ a H;exact(Nat.pow_lt_pow_iff_right z).1 this
theorem ahC(a b:List UInt8):aT (a++b)=aT a*256^b.length+aT b:=by
 show(a++b).foldl _ 0=_;rw[afc,Sp];rfl
def D:List Nat->Nat
 |[]=>0
 |d::l=>d+16777216*D l
theorem afF(a b:List Nat):D (a++b)=D a+16777216^a.length*D b:=by
 induction a with
 |nil=>simp[D]
 |cons d a c=>show d+16777216*D (a++b)=d+16777216*D a+16777216^(a.length+1)*D b;rw[c,Fw,zw,II (16777216^a.length) 16777216,Fx];omega
theorem L_(a:List Nat)(d:Nat):D (a++[d])=D a+16777216^a.length*d:=by
 rw[afF];simp[D]
def lS(l:List Nat):Prop:=∀d∈l,d<16777216
theorem lS.nil:lS []:=fun d h=>by cases h
theorem lS.xG{l:List Nat}{d:Nat}(h:lS l)(hd:d<16777216):lS (l++[d]):=fun e aO=>by
 rcases lo.1 aO with aO|aO
 ·exact h e aO
 ·simp at aO;omega
theorem lS.take{l:List Nat}(h:lS l)(k:Nat):lS (l.take k):=fun d hd=>h d (Rq hd)
theorem afG{l:List Nat}(h:lS l):D l<16777216^l.length:=by
 induction l with
 |nil=>simp[D]
 |cons d l a=>have H:=a fun e aO=>h e (by simp[aO]);have I:=h d ao;simp only[D,l7,zw];omega
theorem WR(l:List Nat)(k:Nat)(h:k<l):D (l.take (k+1))=D (l.take k)+16777216^k*l[k]:=by
 rw[p9 h,L_,nu,WB (Br h)]
theorem aGS(j:Nat):256^(3*j)=16777216^j:=by rw[Nat.pow_mul]
def iL(d:Nat):List UInt8:=[UInt8.ofNat (d/65536%256),UInt8.ofNat (d/256%256),UInt8.ofNat (d%256)]
def L4:List Nat->List UInt8
 |[]=>[]
 |d::l=>L4 l++iL d
theorem avT(d:Nat)(h:d<16777216):aT (iL d)=d:=by
 simp only[iL,aT,LN,List.foldl_nil,acY];omega
theorem avU{l:List Nat}(h:lS l):aT (L4 l)=D l:=by
 induction l with
 |nil=>rfl
 |cons d l a=>simp only[L4,D];rw[ahC,avT d (h d ao),a fun e aO=>h e (by simp[aO])];simp[iL];omega
end Go.aJ
namespace Go.aJ
open Go Go.Proofs.Tryz Go.Proofs Go.RowKit
variable{w:World}{v:Value}
theorem ly{b i:Nat}{cs:Array Value}{t:TypeId}(h:w.heap[b]? =some (.cells cs t (0,0)))(hi:cs[i]? =some v):w.cell? ⟨b,i,none⟩=some v:=by simp[World.cell?,h,hi]
theorem cW(w:World)(o:Obj):(w.alloc o).heap[w.heap.size]? =some o:=px w o
variable{k:Nat}
theorem tT(w:World)(o:Obj)(h:k<w):(w.alloc o).heap[k]? =w.heap[k]? :=CU w o k h
theorem i_(w:World)(o:Obj):(w.alloc o).heap.size=w.heap.size+1:=ao
theorem aim{c:UInt8}(h:(((c.toNat:Nat):Int)==0)=true):c=0:=by
 have:c.toNat=0:=by simpa using h
 exact WE.1 (by simpa using this)
theorem Yz(s:ByteArray)(k:Nat)(h:k<s.size):s.data.toList[k]? =some s[k]:=by
 rw[jU (by rw[jC];exact h)];rfl
theorem Nt(s:ByteArray)(k:Nat)(a:k<=s.size)(b:∀j,j<k->s.data.toList[j]? =some 0)(aO:∀h:k<s.size,s[k]≠0):W0 s (s.extract k s.size):=
 adD s _ k (aeV s k) (by rw[jC];exact a) b fun h=>aO (by rw[jC]at h;exact h)
def hJ(n:Nat)(e:Ending):Prop:=∃t:ByteArray,e=.returned (.string t)/\dA t n
theorem zZ(s:ByteArray)(w:World)(b:s.size<=maxLen):Calls prog 189 #[s] w fun e w'=>hJ (aT s.data.toList) e/\w=w':=by
 unfold maxLen at b;go_enter func189,ntmps189
 go_wp2;go_loop [3] (fun i=>∃k:Nat,k<=s.size/\i=.int .i64 k/\Hid (∀j,j<k->s.data.toList[j]? =some 0)) (fun i=>s.size-(RowKit.intOf i).toNat);case atStart=>exact⟨0,dx _,rfl,fun j c=>z⟩
 case round=>
  obtain⟨k,a,rfl,aA⟩:=hrel;by_cases au:k<s.size
  ·go_wp2;exact an5
   ·have aC:((((s[k]'au).toNat:Nat):Int)==0)=false:=by assumption
    go_ret;exact⟨⟨_,rfl,(Nt s k a aA (fun h e=>by rw[e]at aC;simp at aC)).amT⟩,rfl⟩
  ·go_wp2;go_ret;exact⟨⟨_,rfl,(Nt s k a aA (fun h=>absurd h au)).amT⟩,rfl⟩
theorem apZ:(256:Nat)^16=340282366920938463463374607431768211456:=ak
theorem EC:(256:Nat)^7=72057594037927936:=ak
theorem dA.len{s:ByteArray}{n:Nat}(h:dA s n)(a:n<256^16):s.size<=maxLen:=cO (h.2 16 a) ak
theorem Dz(s:ByteArray)(n:Nat)(w:World)(h:dA s n)(a:n<256^16):Calls prog 189 #[s] w fun e w'=>hJ n e/\w=w':=by
 have:=zZ s w (h.len a);rw[h.1]at this;exact this
theorem ahF(l:List UInt8)(k:Nat)(h:k<=6):aT (l.take k)<281474976710656:=by
 exact aow
theorem ahG(t:ByteArray)(k:Nat)(h:k<t.size):aT (t.data.toList.take (k+1))=aT (t.data.toList.take k)*256+t[k].toNat:=by
 exact aoB
def uZ(n:Nat)(e:Ending):Prop:=e=.returned (.tuple #[.int .i64 n,.bool true])
theorem El(s:ByteArray)(N:Nat)(w:World)(b:dA s N)(a:N<256^7):Calls prog 191 #[s] w fun e w'=>uZ N e/\w=w':=by
 have c:=G a;have d:=G b;have f:Hid (N<256^16):=iK a (kO z z);clear a b;go_enter func191,ntmps191
 go_wp2_with (go_at_call 189;refine(Dz s N _ d f).mono ?_;rintro e w' ⟨⟨t,rfl,T⟩,rfl⟩;have l:t.size<=7:=T.2 7 c;have m:decide (8<(t.size:Int))=false:=bz;have j:((t.size:Int)==8)=false:=bz);go_loop [4,5] (fun n i=>∃k:Nat,k<=t.size/\i=.int .i64 k/\n=.int .i64 (aT (t.data.toList.take k))) (fun _ i=>t.size-(RowKit.intOf i).toNat);case atStart=>exact⟨0,dx _,rfl,rfl⟩
 case round=>
  obtain⟨k,g,rfl,rfl⟩:=hrel;by_cases au:k<t.size;exact aoP
  ·have Kn:k=t.size:=z;have aby:aT (t.data.toList.take k)=N:=by rw[Kn,uK (by rw[jC];exact aZ _)];exact T.1
   exact aoD
theorem vU(s:ByteArray)(N n:Nat)(w:World)(b:dA s N)(f:n<=7)(a:N<256^n):Calls prog 110 #[s,n] w fun e w'=>uZ N e/\w=w':=by
 have d:Hid (N<256^7):=iK a (kO z f);have i:Hid (N<256^16):=iK a (kO z z);have g:=G a;have c:=G b;clear a b;go_enter V7,ntmps110
 go_wp2_with (first|(go_at_call 189;refine(Dz s N _ c i).mono ?_;rintro e w' ⟨⟨t,rfl,T⟩,rfl⟩;have j:t.size<=n:=T.2 n g;have k:decide (n<t.size)=false:=bz)|(go_at_call 191;refine(El s N _ c d).mono ?_;rintro e w' ⟨rfl,rfl⟩))
 go_ret2
 exact⟨rfl,rfl⟩
theorem arF(s:ByteArray)(N n:Nat)(w:World)(a:dA s N)(i:n<=7)(b:256^n<=N)(c:N<256^16):Calls prog 110 #[s,n] w fun e w'=>e=.returned (.tuple #[.int .i64 0,.bool false])/\w=w':=by
 have g:=G c;have d:=G b;have f:=G a;clear b a c;go_enter V7,ntmps110
 go_wp2_with (go_at_call 189;refine(Dz s N _ f g).mono ?_;rintro e w' ⟨⟨t,rfl,T⟩,rfl⟩;have j:n<t.size:=T.k7 d;have k:decide (n<t.size)=true:=bz);go_ret2
 exact⟨rfl,rfl⟩
theorem Up:(prog.info? 5).map (fun i=>(i.zero,i.size,i.bytes))=some (some (.int .u8 0),1,1):=av
theorem xv(w:World)(t:TypeId)(v:Value):∀(j:Nat) (u:Value),[v][j]? =some u->(w.alloc (.cells #[v] t)).cell? ((⟨w,0,none⟩:Addr).add j)=some u:=by
 exact acs
theorem Yp(n j:Nat):j4 n (j+1)=j4 n j++[(((n/2^(56-8*j))%256:Nat):Int)]:=by
 simp[j4,LV]
variable{aP:List Value}
theorem vP{base:Nat}{e:TypeId}(h:w.ownsRow base e 1 v k aP):∀g,v.ownBlock=some g->base<=g:=by
 intro g an;obtain⟨a,aM⟩:=h;exact aoF
theorem ac8{base:Nat}{a b:Int}(h:w.ownsRow base 5 1 v k (aP++[.int .u8 a]))(e:a=b):w.ownsRow base 5 1 v k (aP++[.int .u8 b]):=e▸h
theorem apO{wr:World}{g:Nat}{a:Array Value}(fG:List Int)(d:fG.length=k)(b:wr.heap[g]? =some (.cells a 5 (0,0)))(c:a.toList.take (k*1)=fG.map (Value.int .u8)):∀i,i<k->wr.cell? ⟨g,0+i,none⟩=some (.int .u8 (fG.getD i 0)):=fun i hi=>by
 have H:(a.toList.take (k*1))[i]? =(fG.map (Value.int .u8))[i]? :=by rw[c]
 rw[oZ,co z,n4]at H
 have I:i<fG.length:=z
 rw[jU I]at H
 simp only[World.cell?,b,gP]
 simp only[xU]at H
 rw[H,p8,jU I]
 rfl
theorem ac2(w:World):χ 108 #[.int .i64 0] w fun e w'=>hJ 0 e:=by
 have a:=fun(w:World) (l c:Nat)=>Wm (P:=prog) (w:=w) 126 5 se xV l c;have b:=fun(w:World) (l c:Nat)=>a w l c 101 LF;go_enter Q7,Wc
 go_wp2;refine Bn 1 ?_;rw[py]
 go_wp2_with (go_at_call 189;refine(zZ _ _ (by simp[maxLen])).mono ?_;rintro e w' ⟨⟨t,rfl,T⟩,rfl⟩);go_ret;exact⟨⟨t,rfl,T⟩,br _ _⟩
theorem ac0(n:Nat)(w:World)(ae:0<n)(H:n<9223372036854775808):χ 108 #[n] w fun e w'=>hJ n e:=by
 obtain⟨A,D,K,C,E⟩:=im Up;have ag:decide (0<(n:Int))=true:=bz;go_enter Q7,Wc
 go_wp2;go_loopw [3,4] (fun v i wr=>∃j:Nat,j<=8/\i=.int .i64 (56-8*(j:Int))/\wr.ownsRow w 5 1 v j ((j4 n j).map (Value.int .u8))/\β w wr) (fun _ i _=>(RowKit.intOf i+8).toNat);case atStart=>exact⟨0,z,rfl,mT _ _ _ _,br _ _⟩
 case round=>
  obtain⟨j,L,rfl,c,b⟩:=hrel;by_cases au:j<8
  ·have x:j=0∨j=1∨j=2∨j=3∨j=4∨j=5∨j=6∨j=7:=z;have d:=Yp n j;rcases x with rfl|rfl|rfl|rfl|rfl|rfl|rfl|rfl
   all_goals
    have s:=G d;clear d
    go_wp2_with (at_builtin;refine ln _ rfl _ _ 126 rfl w 5 A (.int .u8 0) 1 1 se D K C E rfl ak _ _ _ rfl (c.alloc _) ⟨wr,0,none⟩ 1 1 [_] rfl rfl (xv _ _ _) (by simp[Value.oneCell']) (by unfold maxLen;omega) z (by have:=b.size;simp;omega) ?_;intro O y l k _);have a:β w y:=(b.alloc b.size _).grown k (by have:=b.size;simp;omega) (vP c);have I:=G l;clear l k
    go_wp2;first|(refine⟨⟨1,z,bG,?_,a⟩,by simp[RowKit.intOf]⟩)|(refine⟨⟨2,z,bG,?_,a⟩,by simp[RowKit.intOf]⟩)|(refine⟨⟨3,z,bG,?_,a⟩,by simp[RowKit.intOf]⟩)|(refine⟨⟨4,z,bG,?_,a⟩,by simp[RowKit.intOf]⟩)|(refine⟨⟨5,z,bG,?_,a⟩,by simp[RowKit.intOf]⟩)|(refine⟨⟨6,z,bG,?_,a⟩,by simp[RowKit.intOf]⟩)|(refine⟨⟨7,z,bG,?_,a⟩,by simp[RowKit.intOf]⟩)|(refine⟨⟨8,z,bG,?_,a⟩,by simp[RowKit.intOf]⟩)
    rw[s.out,xY,aff];exact ac8 I (by first|omega|(simp;omega)|(simp))
  ·obtain rfl:j=8:=z;obtain⟨u,F⟩:=c;rcases F with⟨_,Q⟩|⟨g,cap,M,rfl,S,o,N,U,B,q⟩
   omega
   ·have m:=apO (j4 n 8) (by simp[j4]) o q;have R:=Rf (P:=prog) wr 126 5 se xV g 0 8 cap (j4 n 8) (by simp[j4]) m 101 LF;have J:=G (X4 n H);have f:(strOfNums (j4 n 8)).size=8:=by rw[Rg];simp[j4]
    have r:=G f;clear f m o B q u
    go_wp2_with (go_at_call 189;refine(zZ _ _ (by rw[r.out];unfold maxLen;omega)).mono ?_;rintro e w' ⟨⟨t,rfl,T⟩,rfl⟩);go_ret;rw[Wn,J]at T;exact⟨⟨t,rfl,T⟩,b⟩
theorem p0(n:Nat)(w:World)(H:n<9223372036854775808):χ 108 #[n] w fun e w'=>hJ n e:=by
 by_cases ae:n=0;subst ae;exact ac2 w;exact ac0 n w z H
end Go.aJ
namespace Go.bS
open Go Go.Proofs.Tryz Go.Proofs Go.RowKit Go.Lib Go.aJ
inductive bC where
 |mk (k:Int) (s:ByteArray) (N S n:Int) (cs:List ByteArray) (aQ:List (List bC))
def aV:Nat->Prop:=fun _=>True
def fa(n:Nat):Nat->Prop:=fun b=>n<=b
def hc(B:Nat->Prop)(w:World)(a:Option Addr)(l:List ByteArray):Prop:=l.length<=40/\(0<l.length->∃b o,a=some ⟨b,o,none⟩/\B b/\b<w.heap.size/\∀i (hi:i<l.length),w.cell? ⟨b,o+i,none⟩=some (.string l[i]))
structure u_ (w:World) (b o:Nat) (fI dN dk dp ov xO oW:Value):Prop where
 bo:w.cell? ⟨b,o,none⟩=some fI
 c1:w.cell? ⟨b,o+1,none⟩=some dN
 c2:w.cell? ⟨b,o+2,none⟩=some dk
 c3:w.cell? ⟨b,o+3,none⟩=some dp
 c4:w.cell? ⟨b,o+4,none⟩=some ov
 c5:w.cell? ⟨b,o+5,none⟩=some xO
 fe:w.cell? ⟨b,o+6,none⟩=some oW
abbrev bM(k:Int)(s:ByteArray)(N S n:Int)(ca:Option Addr)(cl cc:Nat)(ra:Option Addr)(rl rc:Nat):Array Value:=#[.int .i64 k,.string s,.int .i64 N,.int .i64 S,.int .i64 n,.slice ca cl cc,.slice ra rl rc]
def cz(B:Nat->Prop)(P:World->Array Value->bC->Prop)(w:World)(a:Option Addr)(l:List bC):Prop:=l.length<=8/\(0<l.length->∃b o,a=some ⟨b,o,none⟩/\B b/\b<w.heap.size/\∀j (c:j<l.length),∃k s N S n ca cl cc ra rl rc,P w (bM k s N S n ca cl cc ra rl rc) l[j]/\u_ w b (o+j*7) (.int .i64 k) (.string s) (.int .i64 N) (.int .i64 S) (.int .i64 n) (.slice ca cl cc) (.slice ra rl rc))
def hK(B:Nat->Prop)(P:World->Array Value->bC->Prop)(w:World)(a:Option Addr)(l:List (List bC)):Prop:=l.length<=100/\(0<l.length->∃b o,a=some ⟨b,o,none⟩/\B b/\b<w.heap.size/\∀i (hi:i<l.length),∃ra rc,w.cell? ⟨b,o+i,none⟩=some (.slice ra l[i].length rc)/\cz B P w ra l[i])
def aU(B:Nat->Prop):Nat->World->Array Value->bC->Prop
 |0,w,F,.mk k s N S n cs aQ=>aQ=[]/\∃ca cc ra rc,F=bM k s N S n ca cs.length cc ra 0 rc/\hc B w ca cs
 |d+1,w,F,.mk k s N S n cs aQ=>∃ca cc ra rc,F=bM k s N S n ca cs.length cc ra aQ.length rc/\hc B w ca cs/\hK B (aU B d) w ra aQ
def eQ(B:Nat->Prop)(w w':World):Prop:=w.heap.size<=w'.heap.size/\∀b,B b->b<w.heap.size->w'.heap[b]? =w.heap[b]?
variable{B:Nat->Prop}{w w':World}{b o:Nat}
theorem eQ.cell(h:eQ B w w')(H:B b)(I:b<w):w'.cell? ⟨b,o,none⟩=w.cell? ⟨b,o,none⟩:=by
 simp only[World.cell?];rw[h.2 b H I]
theorem eQ.hP(h:β w w'):eQ B w w':=⟨h.size,fun b _ I=>h.block b I⟩
theorem eQ.refl(B:Nat->Prop)(w:World):eQ B w w:=⟨aZ _,fun _ _ _=>rfl⟩
theorem eQ.trans{a c:World}(h:eQ B w a)(k:eQ B a c):eQ B w c:=⟨cO h.1 k.1,fun b H I=>(k.2 b H (iK I h.1)).trans (h.2 b H I)⟩
theorem eQ.set{a:World}(h:eQ B w a){r:Nat}(c:¬B r)(i:Nat)(u:Value):eQ B w (a.setCell ⟨r,i,none⟩ u):=
 ⟨by simpa using h.1,fun b H I=>by rw[g_ _ _ _ _ (fun(e:b=r)=>c (e▸H))];exact h.2 b H I⟩
theorem eQ.alloc{a:World}(h:eQ B w a)(o:Obj):eQ B w (a.alloc o):=h.trans (eQ.hP ((br _ _).alloc (aZ _) o))
variable{a:Option Addr}{l:List ByteArray}
theorem hc.ex(h:hc B w a l)(A:eQ B w w'):hc B w' a l:=
 ⟨h.1,fun ae=>by
  obtain⟨b,o,e,d,c,f⟩:=h.2 ae
  exact⟨b,o,e,d,iK c A.1,fun i hi=>(A.cell d c).trans (f i hi)⟩⟩
theorem u_.ex{g d e f j k i:Value}(h:u_ w b o g d e f j k i)(c:B b)(a:b<w)(A:eQ B w w'):u_ w' b o g d e f j k i:=
 ⟨(A.cell c a).trans h.bo,(A.cell c a).trans h.c1,(A.cell c a).trans h.c2,(A.cell c a).trans h.c3,(A.cell c a).trans h.c4,(A.cell c a).trans h.c5,(A.cell c a).trans h.fe⟩
def ye(B:Nat->Prop)(P:World->Array Value->bC->Prop):Prop:=∀(w w':World) (F:Array Value) (v:bC),P w F v->eQ B w w'->P w' F v
variable{P:World->Array Value->bC->Prop}
theorem cz.ex(m:ye B P){l:List bC}(h:cz B P w a l)(A:eQ B w w'):cz B P w' a l:=
 ⟨h.1,fun ae=>by
  obtain⟨b,o,e,d,c,f⟩:=h.2 ae
  refine⟨b,o,e,d,iK c A.1,fun j i=>?_⟩
  obtain⟨k,s,N,S,n,ca,cl,cc,ra,rl,rc,ag,g⟩:=f j i
  exact⟨k,s,N,S,n,ca,cl,cc,ra,rl,rc,m _ _ _ _ ag A,g.ex d c A⟩⟩
theorem hK.ex(g:ye B P){l:List (List bC)}(h:hK B P w a l)(A:eQ B w w'):hK B P w' a l:=
 ⟨h.1,fun ae=>by
  obtain⟨b,o,e,d,c,f⟩:=h.2 ae
  refine⟨b,o,e,d,iK c A.1,fun i hi=>?_⟩
  obtain⟨ra,rc,H,I⟩:=f i hi
  exact⟨ra,rc,(A.cell d c).trans H,cz.ex g I A⟩⟩
theorem aU.ex{B:Nat->Prop}:∀{d:Nat} {w w':World} {F:Array Value} {v:bC},aU B d w F v->eQ B w w'->aU B d w' F v
 |0,w,w',F,.mk ..,h,A=>by
  obtain⟨ae,ca,cc,ra,rc,e,H⟩:=h
  exact⟨ae,ca,cc,ra,rc,e,H.ex A⟩
 |d+1,w,w',F,.mk ..,h,A=>by
  obtain⟨ca,cc,ra,rc,e,H,I⟩:=h
  exact⟨ca,cc,ra,rc,e,H.ex A,hK.ex (P:=aU B d) (fun _ _ _ _ ag A=>aU.ex ag A) I A⟩
theorem hc.K(h:hc B w a l)(A:β w w'):hc B w' a l:=h.ex (.hP A)
theorem cz.K(b:ye B P){l:List bC}(h:cz B P w a l)(A:β w w'):cz B P w' a l:=h.ex b (.hP A)
theorem hK.K(b:ye B P){l:List (List bC)}(h:hK B P w a l)(A:β w w'):hK B P w' a l:=h.ex b (.hP A)
variable{F:Array Value}{v:bC}
theorem aU.K{d:Nat}(h:aU B d w F v)(A:β w w'):aU B d w' F v:=h.ex (.hP A)
variable{c:Nat->Prop}
theorem hc.low(d:∀b,B b->c b)(h:hc B w a l):hc c w a l:=
 ⟨h.1,fun ae=>by
  obtain⟨b,o,e,H,I⟩:=h.2 ae
  exact⟨b,o,e,d _ H,I⟩⟩
variable{P':World->Array Value->bC->Prop}
theorem cz.low(i:∀b,B b->c b)(m:∀w F v,P w F v->P' w F v){l:List bC}(h:cz B P w a l):cz c P' w a l:=
 ⟨h.1,fun ae=>by
  obtain⟨b,o,e,H,I,d⟩:=h.2 ae
  refine⟨b,o,e,i _ H,I,fun j g=>?_⟩
  obtain⟨k,s,N,S,n,ca,cl,cc,ra,rl,rc,ag,f⟩:=d j g
  exact⟨k,s,N,S,n,ca,cl,cc,ra,rl,rc,m _ _ _ ag,f⟩⟩
theorem hK.low{d:Nat->Prop}(c:∀b,B b->d b)(k:∀w F v,P w F v->P' w F v){l:List (List bC)}(h:hK B P w a l):hK d P' w a l:=
 ⟨h.1,fun ae=>by
  obtain⟨b,o,e,H,I,f⟩:=h.2 ae
  refine⟨b,o,e,c _ H,I,fun i hi=>?_⟩
  obtain⟨ra,rc,j,g⟩:=f i hi
  exact⟨ra,rc,j,g.low c k⟩⟩
theorem aU.low{B c:Nat->Prop}(a:∀b,B b->c b):∀{d:Nat} {w:World} {F:Array Value} {v:bC},aU B d w F v->aU c d w F v
 |0,w,F,.mk ..,h=>by
  obtain⟨ae,ca,cc,ra,rc,e,H⟩:=h
  exact⟨ae,ca,cc,ra,rc,e,H.low a⟩
 |d+1,w,F,.mk ..,h=>by
  obtain⟨ca,cc,ra,rc,e,H,I⟩:=h
  exact⟨ca,cc,ra,rc,e,H.low a,hK.low a (P:=aU B d) (P':=aU c d) (fun _ _ _ ag=>aU.low a ag) I⟩
theorem hc.lt(h:hc B w a l):hc (fun b=>B b/\b<w) w a l:=
 ⟨h.1,fun ae=>by
  obtain⟨b,o,e,H,I,c⟩:=h.2 ae
  exact⟨b,o,e,⟨H,I⟩,I,c⟩⟩
theorem cz.lt(g:∀F v,P w F v->P' w F v){l:List bC}(h:cz B P w a l):cz (fun b=>B b/\b<w) P' w a l:=
 ⟨h.1,fun ae=>by
  obtain⟨b,o,e,H,I,c⟩:=h.2 ae
  refine⟨b,o,e,⟨H,I⟩,I,fun j f=>?_⟩
  obtain⟨k,s,N,S,n,ca,cl,cc,ra,rl,rc,ag,d⟩:=c j f
  exact⟨k,s,N,S,n,ca,cl,cc,ra,rl,rc,g _ _ ag,d⟩⟩
theorem hK.lt(g:∀F v,P w F v->P' w F v){l:List (List bC)}(h:hK B P w a l):hK (fun b=>B b/\b<w) P' w a l:=
 ⟨h.1,fun ae=>by
  obtain⟨b,o,e,H,I,c⟩:=h.2 ae
  refine⟨b,o,e,⟨H,I⟩,I,fun i hi=>?_⟩
  obtain⟨ra,rc,f,d⟩:=c i hi
  exact⟨ra,rc,f,d.lt g⟩⟩
theorem aU.lt{B:Nat->Prop}:∀{d:Nat} {w:World} {F:Array Value} {v:bC},aU B d w F v->aU (fun b=>B b/\b<w) d w F v
 |0,w,F,.mk ..,h=>by
  obtain⟨ae,ca,cc,ra,rc,e,H⟩:=h
  exact⟨ae,ca,cc,ra,rc,e,H.lt⟩
 |d+1,w,F,.mk ..,h=>by
  obtain⟨ca,cc,ra,rc,e,H,I⟩:=h
  exact⟨ca,cc,ra,rc,e,H.lt,hK.lt (P:=aU B d) (P':=aU (fun b=>B b/\b<w) d) (fun _ _ ag=>aU.lt ag) I⟩
theorem aU.Ib(h:aU B 0 w F v):aU B 1 w F v:=by
 obtain⟨k,s,N,S,n,cs,aQ⟩:=v;obtain⟨rfl,ca,cc,ra,rc,e,H⟩:=h;exact⟨ca,cc,ra,rc,e,H,ao,fun ae=>absurd ae ao⟩
theorem aU.gX{B:Nat->Prop}{d:Nat}{w:World}{F:Array Value}{k N S n:Int}{s:ByteArray}{cs:List ByteArray}{aQ:List (List bC)}(h:aU B d w F (.mk k s N S n cs aQ)):∃ca cc ra rc,F=bM k s N S n ca cs cc ra aQ rc/\hc B w ca cs/\hK B (aU B (d-1)) w ra aQ:=by
 cases d with
 |zero=>obtain⟨rfl,ca,cc,ra,rc,e,H⟩:=h;exact⟨ca,cc,ra,rc,e,H,ao,fun ae=>absurd ae ao⟩
 |succ d=>exact h
theorem aU.iW(B:Nat->Prop)(d:Nat)(w:World)(k:Int)(s:ByteArray)(N S n:Int)(ca:Option Addr)(cc:Nat)(ra:Option Addr)(rc:Nat):aU B d w (bM k s N S n ca 0 cc ra 0 rc) (.mk k s N S n [] []):=by
 cases d with
 |zero=>exact⟨rfl,ca,cc,ra,rc,rfl,ao,fun ae=>absurd ae ao⟩
 |succ d=>exact⟨ca,cc,ra,rc,rfl,⟨ao,fun ae=>absurd ae ao⟩,ao,fun ae=>absurd ae ao⟩
theorem cz.nil:cz B P w a []:=⟨ao,fun ae=>absurd ae ao⟩
theorem hK.nil:hK B P w a []:=⟨ao,fun ae=>absurd ae ao⟩
variable{x y:ByteArray}
theorem aKn(h:x≠y):x.toList≠y.toList:=fun e=>h (by
 rw[Bm,Bm]at e
 exact Ly (aeR.1 e))
theorem q0(x:ByteArray):(x.toList==x.toList)=true:=ao
theorem fS(h:x≠y):(x.toList==y.toList)=false:=by
 rw[lp];exact aKn h
def FU(p:Bool->Prop)(e:Ending):Prop:=∃r:Bool,e=.returned (.bool r)/\p r
attribute [local irreducible] wpStill in
theorem aJH(w:World)(a b:Option Addr)(c d:Nat)(l m:List ByteArray)(h:hc aV w a l)(n:hc aV w b m): χ 133 #[.slice a l c,.slice b m d] w fun e w'=>FU (fun r=>l=m->r=true) e:=by
 by_cases i:l.length=m.length
 ·have dC:((l.length:Int) !=(m.length:Int))=false:=by simp[i]
  have E:=G (fun W (j:β w W)=>(h.K j).2);have I:=G (fun W (j:β w W)=>(n.K j).2);have g:=G i;have N:=h.1;clear h n i;go_enter func133,ntmps133
  go_wp2;go_loopw [5] (fun v wr=>∃k:Nat,k<=l.length/\v=.int .i64 k/\β w wr) (fun v _=>l.length-(RowKit.intOf v).toNat);case atStart=>exact⟨0,dx _,rfl,br _ _⟩
  case round=>
   obtain⟨k,J,rfl,A⟩:=hrel;by_cases au:k<l
   ·have f:=A.drew;obtain⟨C,M,rfl,_,F,q⟩:=E.out _ f z;obtain⟨B,l',rfl,_,H,s⟩:=I.out _ f (by have:=g.out;omega);have ca:=q k au;have D:=s k (by have:=g.out;omega);have O:(0:Int)<=(k:Int):=z;have gU:(k:Int)<l.length:=z;have P:(k:Int)<m.length:=by have:=g.out;omega
    have Q:C<wr.heap.size:=F;have K:B<wr.heap.size:=H;have ht:Hid (l[k]≠m[k]'(by have:=g.out;omega)->l≠m):=G fun u e=>u (by subst e;rfl);generalize t:l[k]=x at ca ht;generalize m[k]'(by have:=g.out;omega)=y at D ht;clear q s t
    go_wp2;refine uH av av ?_;change wpStill _ _ wr.drew (fun a'=>Exit.then _ _ Exit.normal a' wr.drew) _ _;generalize wr.drew=L at*;by_cases o:x=y
    ·subst o;have aj:(x.toList==x.toList)=true:=q0 x;repeat still_step
     refine rB ?_
     go_wp2;go_roundw;case rel=>first|exact⟨k+1,z,bG,f⟩|((repeat apply Exists.intro);refine⟨?_,rfl⟩;exact⟨k+1,z,bG,f⟩)
     case measure=>simp[RowKit.intOf];omega
    ·have aj:(x.toList==y.toList)=false:=fS o;repeat still_step
     refine rB ?_
     go_wp2;go_ret;exact⟨⟨_,rfl,fun e=>absurd e (ht.out o)⟩,f⟩
   exact acx
 ·have dC:((l.length:Int) !=(m.length:Int))=true:=bz;have ht:Hid (l≠m):=G fun e=>i (by rw[e]);clear h n;go_enter func133,ntmps133;exact act
end Go.bS
namespace Go.aJ
open Go Go.Proofs.Tryz Go.Proofs Go.RowKit
variable{n m:Nat}
theorem pq(h:n<m)(a:m<=340282366920938463463374607431768211456):n<256^16:=by rw[apZ];omega
theorem awi(a b:ByteArray)(m n:Nat)(w:World)(aH:dA a m)(A:dA b n)(c:m<72057594037927936)(d:n<72057594037927936):χ 43 #[a,b] w fun e w'=>hJ (m+n) e:=by
 have c1:∀w,Calls prog 110 #[a,.int .i64 7] w fun e w'=>e=.returned (.tuple #[m,.bool true])/\w=w':=fun w=>vU a m 7 w aH z (by rw[EC];omega);have c2:∀w,Calls prog 110 #[b,.int .i64 7] w fun e w'=>e=.returned (.tuple #[n,.bool true])/\w=w':=fun w=>vU b n 7 w A z (by rw[EC];omega);have c3:∀w,χ 108 #[.int .i64 ((m:Int)+(n:Int))] w fun e w'=>hJ (m+n) e:=fun w=>by have:=p0 (m+n) w z;rw[ae']at this;exact this
 have bl:=G c1;have bH:=G c2;have hV:=G c3;clear c1 c2 c3 aH A;go_enter V',ntmps43;exact anX
theorem ao'(a b:ByteArray)(m n:Nat)(w:World)(aH:dA a m)(A:dA b n)(c:m<16777216)(d:n<2147483648):χ 190 #[a,b] w fun e w'=>hJ (m*n) e:=by
 have g:m*n<36028797018963968:=by have H:m*n<=16777215*n:=qR _ z;omega
 have c1:∀w,Calls prog 110 #[a,.int .i64 3] w fun e w'=>e=.returned (.tuple #[m,.bool true])/\w=w':=fun w=>vU a m 3 w aH z (iK c ak);have c2:∀w,Calls prog 110 #[b,.int .i64 4] w fun e w'=>e=.returned (.tuple #[n,.bool true])/\w=w':=fun w=>vU b n 4 w A z (iK d ak);have c3:∀w,χ 108 #[.int .i64 ((m:Int)*(n:Int))] w fun e w'=>hJ (m*n) e:=fun w=>by have:=p0 (m*n) w z;rw[Fq]at this;exact this
 have bl:=G c1;have bH:=G c2;have hV:=G c3;have f:wrap64 ((m:Int)*(n:Int))=(m:Int)*(n:Int):=Q6 _ ⟨by rw[←Fq];omega,by rw[←Fq];omega⟩;clear c1 c2 c3 aH A;go_enter V9,ntmps190;exact anX
theorem arD(q:Nat)(h:q<36028797018963968):IntKind.i64.wrap (q:Int)=q:=pw _ ⟨z,z⟩
theorem aI6(m n:Nat)(a:m<36028797018963968):IntKind.i64.wrap ((m:Int)/(n:Int))=(m:Int)/(n:Int):=
 arD (m/n) (p_ (IG _ _) a)
theorem aI7(m n:Nat)(a:m<36028797018963968):IntKind.i64.wrap ((m:Int)%(n:Int))=(m:Int)%(n:Int):=
 arD (m%n) (p_ (Nat.mod_le _ _) a)
def MU(m n:Nat)(e:Ending):Prop:=∃q r:ByteArray,e=.returned (.tuple #[.string q,.string r,.bool true])/\dA q (m/n)/\dA r (m%n)
theorem A4(a b:ByteArray)(m n:Nat)(w:World)(aH:dA a m)(A:dA b n)(d:m<36028797018963968)(j:n<36028797018963968)(ae:0<n):χ 299 #[a,b] w fun e w'=>MU m n e:=by
 have s:n<256^16:=pq j ak;have bo:∀w,Calls prog 189 #[b] w fun e w'=>hJ n e/\w=w':=fun w=>Dz b n w A s;have c1:∀w,Calls prog 110 #[a,.int .i64 7] w fun e w'=>e=.returned (.tuple #[m,.bool true])/\w=w':=fun w=>vU a m 7 w aH z (by rw[EC];omega);have c3:∀w,χ 108 #[.int .i64 ((m:Int)/(n:Int))] w fun e w'=>hJ (m/n) e:=fun w=>by have:=p0 (m/n) w (Wz (p_ (IG _ _) d) ak);exact this
 have c4:∀w,χ 108 #[.int .i64 ((m:Int).tmod (n:Int))] w fun e w'=>hJ (m%n) e:=fun w=>by have:=p0 (m%n) w (Wz (p_ (Nat.mod_le _ _) d) ak);exact this
 have i:=G bo;have l:=G c1;have q:=G c3;have r:=G c4;have u:((n:Int)==0)=false:=bz;clear c1 c3 c4 bo aH A;go_enter func299,ntmps299
 go_wp2_with (first|(go_at_call 189;((with_reducible refine(i.out _).mono ?_);rintro e y ⟨⟨c,rfl,f⟩,rfl⟩;have F:¬(c.size=0):=(fun e=>by have:=f.zero.1 e;omega);have x:((c.size:Int)==0)=false:=(by rw[lp];omega);have k:Hid (∀w,Calls prog 110 #[c,.int .i64 7] w fun e w'=>e=.returned (.tuple #[n,.bool true])/\w=w'):=(fun w=>vU c n 7 w f z (by rw[EC];omega))))|(go_at_call 110;((with_reducible refine(l.out _).mono ?_);rintro e w' ⟨rfl,rfl⟩))|(go_at_call 110;((with_reducible refine(k.out _).mono ?_);rintro e w' ⟨rfl,rfl⟩)))
 have H:¬n=0:=z;have B:IntKind.i64.wrap ((m:Int)/(n:Int))=(m:Int)/(n:Int):=aI6 m n d;have E:IntKind.i64.wrap ((m:Int)%(n:Int))=(m:Int)%(n:Int):=aI7 m n d
 go_region_law (first|(go_simp;go_at_call 108;(with_reducible refine(q.out _).mono ?_);rintro e C ⟨⟨t,rfl,J⟩,A⟩)|(go_simp;go_at_call 108;(with_reducible refine(r.out _).mono ?_);rintro e D ⟨⟨t4,rfl,g⟩,o⟩))
 all_goals
  go_wp2;go_ret3
  exact⟨⟨t,t4,rfl,J,g⟩,((br w w).drew.trans A).trans (o.mono A.size)⟩
def pf(l:List Nat):List Value:=l.map fun(d:Nat)=>Value.int .i64 (d:Int)
theorem Gl(l:List Nat)(d:Nat):pf (l++[d])=pf l++[.int .i64 (d:Int)]:=by simp[pf]
def mv(w:World)(v:Value)(l:List Nat):Prop:=w.ownsRow 0 3 1 v l.length (pf l)
variable{k:Nat}{v:Value}{w w':World}{aP:List Value}
theorem aGh{base:Nat}{e:TypeId}(h:w.ownsRow base e 1 v k aP)(A:β w w'):w'.ownsRow base e 1 v k aP:=by
 exact acy
variable{l:List Nat}
theorem mv.K(h:mv w v l)(A:β w w'):mv w' v l:=aGh h A
theorem mv.hP{base:Nat}(h:w.ownsRow base 3 1 v l (pf l)):mv w v l:=by
 obtain⟨b,a⟩:=h;refine⟨b,?_⟩;rcases a with a|⟨g,cap,d,aj,e,c⟩
 exact .inl a;exact .inr ⟨g,cap,d,aj,dx _,c⟩
theorem mv.open{v:Value}{w:World}{l:List Nat}(h:mv w v l):∃a cap,v=.slice a l.length cap/\cap<=maxLen/\l.length<=cap/\(0<l.length->∃g,a=some ⟨g,0,none⟩/\g<w.heap.size)/\∀g,a=some ⟨g,0,none⟩->∀i (hi:i<l.length),w.cell? ⟨g,i,none⟩=some (.int .i64 (l[i]:Int)):=by
 obtain⟨m,c⟩:=h;rcases c with⟨rfl,d⟩|⟨g,cap,e,rfl,_,b,f,j,n,k⟩
 ·exact⟨none,0,by rw[d],ak,z,fun h=>z,fun g an=>by cases an⟩
 ·refine⟨_,cap,rfl,j,f,fun _=>⟨g,rfl,(g6.1 b).1⟩,fun o an i hi=>?_⟩;cases an;have H:(e.toList.take (l.length*1))[i]? =(pf l)[i]? :=by rw[k]
  rw[oZ,co z]at H;simp only[pf,n4,jU hi,n6]at H;simp only[xU]at H;simp[World.cell?,b,H]
theorem Uo:(prog.info? 3).map (fun i=>(i.zero,i.size,i.bytes))=some (some (.int .i64 0),1,8):=av
def avh(N:Nat)(e:Ending)(w':World):Prop:=∃v l,e=.returned v/\mv w' v l/\D l=N/\lS l/\l.length<=6/\∀k,N<256^(3*k)->l.length<=k
theorem avS{l:List UInt8}(h:l.length<=3):aT l<16777216:=by
 have H:=yk l;have b:256^l.length<=256^3:=kO z h;have a:(256:Nat)^3=16777216:=ak;omega
theorem avW(t:ByteArray)(f m:Nat)(c:f<=m)(b:m<t.size):aT ((t.data.toList.drop f).take (m+1-f))=aT ((t.data.toList.drop f).take (m-f))*256+t[m].toNat:=by
 have e:m+1-f=(m-f)+1:=z;have a:t.data.toList.length=t.size:=jC;rw[e,p9 (by rw[qN];omega),X5];have I:(t.data.toList.drop f)[m-f]'(by rw[qN];omega)=t[m]:=by rw[List.getElem_drop];have:f+(m-f)=m:=z;simp only[this];rfl
 rw[I]
theorem avV(l:List UInt8)(f E j:Nat)(c:f<=E)(d:E<=l.length)(b:l.length-E=3*j):aT (l.drop f)=aT (l.drop E)+16777216^j*aT ((l.drop f).take (E-f)):=by
 have e:l.drop f=(l.drop f).take (E-f)++l.drop E:=by have:=CZ (E-f) (l.drop f);rw[List.drop_drop]at this;have a:f+(E-f)=E:=z;rw[a]at this;exact this.symm
 have:aT (l.drop f)=aT ((l.drop f).take (E-f))*256^(l.drop E).length+aT (l.drop E):=by
  conv=>lhs;rw[e]
  exact ahC _ _
 rw[this,qN,b,aGS,II];omega
theorem JJ(s:ByteArray)(N:Nat)(w:World)(q:dA s N)(C:N<256^16):χ 111 #[.string s] w (avh N):=by
 obtain⟨S,Y,nR,V,Z⟩:=im Uo;have X:=G q;have B:=G C;clear q C;go_enter func111,ntmps111
 go_wp2_with (go_at_call 189;refine(Dz s N _ X.out B.out).mono ?_;rintro e w' ⟨⟨t,rfl,T⟩,rfl⟩;have e8:t.size<=16:=T.2 16 B.out);have K:t.data.toList.length=t.size:=jC;go_loopw [3,4] (fun v i wr=>∃(j:Nat) (l:List Nat),i=.int .i64 ((t.size:Int)-3*(j:Int))/\3*j<=t.size+2/\l.length=j/\D l=aT (t.data.toList.drop (t.size-3*j))/\lS l/\wr.ownsRow w.heap.size 3 1 v j (pf l)/\β w wr) (fun _ i _=>(RowKit.intOf i).toNat);case atStart=>exact⟨0,[],ao,z,rfl,by simp[K,D];rw[asX z];rfl,lS.nil,by simpa[pf]using mT w w.heap.size 3 1,br _ _⟩
 case round=>
  obtain⟨j,l,rfl,aa,g,b,x,c,a⟩:=hrel;by_cases au:3*j<t.size
  ·obtain⟨n,rfl⟩:∃n:World,n=wr:=⟨_,rfl⟩;obtain⟨E,cK⟩:∃E:Nat,E+3*j=t.size:=⟨t.size-3*j,z⟩;have Q:(t.size:Int)-3*(j:Int)=E:=z;obtain⟨f,ka,tU,tV⟩:∃f:Nat,f<=E/\E<=f+3/\(f=0∨f+3=E):=⟨E-3,z,z,z⟩;have o:max ((E:Int)-3) 0=(f:Int):=z;rw[Q];have ad:0<(E:Int):=z;have ae:(E:Int)<=16:=z
   go_wp2;go_loop [5,6] (fun d k=>∃m:Nat,f<=m/\m<=E/\k=.int .i64 m/\d=.int .i64 (aT ((t.data.toList.drop f).take (m-f)))) (fun _ k=>E-(RowKit.intOf k).toNat);case atStart=>exact⟨f,aZ _,z,by first|rfl|(rw[←o])|(simp[←o]),by simp[aT]⟩
   case round=>
    obtain⟨m,y,xj,rfl,rfl⟩:=hrel;by_cases af:m<E
    ·have L:m<t.size:=z;have A:aT ((t.data.toList.drop f).take (m-f))<65536:=by
      have H:=yk ((t.data.toList.drop f).take (m-f));have I:((t.data.toList.drop f).take (m-f)).length<=2:=by rw[nu];omega
      have ah:256^((t.data.toList.drop f).take (m-f)).length<=256^2:=kO z I;have aM:(256:Nat)^2=65536:=ak;omega
     have P:=G (avW t f m y L);have ab:=Rw t[m];generalize J:aT ((t.data.toList.drop f).take (m-f))=v at*;clear J
     go_wp2;go_round;case rel=>exact⟨m+1,z,z,bG,by rw[P.out];go_num⟩
     case measure=>simp[RowKit.intOf];omega
    ·obtain rfl:m=E:=z;have A:aT ((t.data.toList.drop f).take (m-f))<16777216:=avS (by rw[nu];omega);have hcut:=G (avV t.data.toList f m j y z z);have W:=G b;clear b;generalize J:aT ((t.data.toList.drop f).take (m-f))=v at*;clear J
     go_wp2_with (at_builtin;refine ln _ rfl _ _ 22 rfl w.heap.size 3 S (.int .i64 0) 1 8 oY Y nR V Z rfl ak _ _ _ rfl (c.alloc _) ⟨n.heap.size,0,none⟩ 1 1 [_] rfl rfl (xv _ _ _) (by simp[Value.oneCell']) (by unfold maxLen;omega) z (by have:=a.size;simp;omega) ?_;intro d_ R u r _);have U:β w R:=(a.alloc a.size _).grown r (by have:=a.size;simp;omega) (vP c);have lr:=G u;clear u r
     go_wp2;refine⟨⟨j+1,l++[v],bG,z,by simp[g],?_,x.xG A,by rw[Gl];exact lr.out,U⟩,by simp[RowKit.intOf];omega⟩;have aj:t.size-3*j=m:=z;have O:t.size-3*(j+1)=f:=z;rw[L_,g,W.out,aj,O,hcut.out]
  ·have M:t.size-3*j=0:=z;have dK:(t.size:Int)-3*(j:Int)<=0:=z;rw[M,LM,T.1]at b
   go_wp2;go_ret;refine⟨⟨_,l,rfl,mv.hP (base:=w.heap.size) (by rw[g];exact c),b,x,z,fun k F=>?_⟩,a⟩;have:=T.2 (3*k) F;omega
variable{c:Nat}
theorem mv.take{a:Option Addr}(h:mv w (.slice a l c) l)(k:Nat)(q:k<=l.length)(aH:∃g,a=some ⟨g,0,none⟩):mv w (.slice a k c) (l.take k):=by
 obtain⟨i,rfl⟩:=aH;obtain⟨r,b⟩:=h;have d:(l.take k).length=k:=by rw[nu];omega
 refine⟨by simp[pf],.inr ?_⟩;rcases b with⟨b,_⟩|⟨g,cap,j,aj,e,f,s,m,n,o⟩
 cases b
 ·simp only[Fm,cq,Addr.mk.injEq]at aj;obtain⟨⟨rfl,_⟩,_,rfl⟩:=aj;refine⟨i,c,j,by rw[d],e,f,z,m,n,?_⟩;rw[d];have:pf (l.take k)=(pf l).take k:=by simp[pf]
  rw[this,←o,List.take_take];congr 1;omega
theorem atn(l:List Nat)(k:Nat)(h:k<l)(a:l[k]=0):D (l.take k)=D (l.take (k+1)):=by
 rw[WR l k h,a];omega
def avG(w:World)(l:List Nat)(e:Ending):Prop:=∃b a,e=.returned b/\mv w b a/\D a=D l/\lS a/\a.length<=l.length
theorem aKp(v:Value)(l:List Nat)(w:World)(h:mv w v l)(kv:lS l):Calls prog 409 #[v] w fun e w'=>avG w l e/\w=w':=by
 obtain⟨a,cap,rfl,n,r,qy,hD⟩:=h.open;unfold maxLen at n;go_enter func409,ntmps409
 go_wp2;go_loop [0] (fun v=>∃k:Nat,k<=l.length/\v=.slice a k cap/\Hid (D (l.take k)=D l)) (fun v=>match v with|.slice _ k _=>k|_=>0);case atStart=>exact⟨l.length,aZ _,rfl,by rw[uK (aZ _)];exact rfl⟩
 case round=>
  obtain⟨k,d,rfl,eJ⟩:=hrel;by_cases q:0<k
  ·obtain⟨g,rfl,an⟩:=qy z;have f:=hD g rfl (k-1) z;have t:(0:Int)<=(k:Int)-1:=z;have s:((k:Int)-1)<k:=z;have u:((k:Int)-1).toNat=k-1:=z;have x:(k:Int)<=cap:=z;by_cases b:l[k-1]'z=0
   ·have c:=atn l (k-1) z b;have e:k-1+1=k:=z;rw[e,eJ.out]at c;have j:=G c;rw[b]at f;clear c b hD qy
    go_wp2;go_round;case rel=>exact⟨k-1,z,bG,j⟩
    case measure=>simp;omega
   ·have o:(((l[k-1]'z:Nat):Int)==0)=false:=by rw[lp];omega
    have cM:=G (h.take k d ⟨g,rfl⟩);exact anY
  ·obtain rfl:k=0:=z;have cM:Hid (mv w (.slice a 0 cap) (l.take 0)):=by
    rcases Ru l.length with e|e
    ·have i:=CW e;subst i;exact h
    ·obtain⟨g,m,_⟩:=qy e;exact h.take 0 d ⟨g,m⟩
   exact anY
def cw(d:Nat):List Int:=[((d/65536%256:Nat):Int),((d/256%256:Nat):Int),((d%256:Nat):Int)]
def b2:List Nat->List Int
 |[]=>[]
 |d::l=>b2 l++cw d
theorem awL(l:List Nat):(b2 l).map (fun x=>UInt8.ofNat x.toNat)=L4 l:=by
 induction l with
 |nil=>rfl
 |cons d l a=>simp only[b2,L4,xY,a];rfl
theorem Yv(l:List Nat):(b2 l).length=3*l.length:=by
 induction l with
 |nil=>rfl
 |cons d l a=>simp[b2,cw,a];omega
theorem awM(l:List Nat)(k:Nat)(h:k<l):b2 (l.drop k)=b2 (l.drop (k+1))++cw l[k]:=by
 rw[Iy h];rfl
theorem aE5(w:World)(t:TypeId)(x y af:Value):∀(j:Nat) (u:Value),[x,y,af][j]? =some u->(w.alloc (.cells #[x,y,af] t)).cell? ((⟨w,0,none⟩:Addr).add j)=some u:=by
 intro j u a;rcases j with _|_|_|j
 simp at a;subst a;exact aK 0 (cW w _);simp at a;subst a;exact aK 1 (cW w _);simp at a;subst a;exact aK 2 (cW w _);simp at a
theorem QM(n:Nat):IntKind.u8.wrap (n:Int)=((n%256:Nat):Int):=by first|rfl|(simp[IntKind.wrap];done)|(simp[IntKind.wrap];omega)
theorem aGk{base:Nat}{a b c a' d f:Int}(h:w.ownsRow base 5 1 v k (aP++[.int .u8 a,.int .u8 b,.int .u8 c]))(e:a=a')(g:b=d)(i:c=f):w.ownsRow base 5 1 v k (aP++[.int .u8 a',.int .u8 d,.int .u8 f]):=e▸g▸i▸h
theorem acU(v:Value)(l:List Nat)(w:World)(h:mv w v l)(C:lS l)(ff:l.length<=8):χ 112 #[v] w fun e w'=>hJ (D l) e:=by
 obtain⟨Q,W,nR,V,X⟩:=im Up;obtain⟨a,cap,rfl,Y,dK,s,o⟩:=h.open;unfold maxLen at Y;have k:=fun(w:World) (l c:Nat)=>Wm (P:=prog) (w:=w) 126 5 se xV l c;have u:=fun(w:World) (l c:Nat)=>k w l c 101 LF;go_enter func112,ntmps112
 go_wp2;go_loopw [3,4] (fun v i wr=>∃j:Nat,j<=l.length/\i=.int .i64 ((j:Int)-1)/\wr.ownsRow w.heap.size 5 1 v (3*(l.length-j)) ((b2 (l.drop j)).map (Value.int .u8))/\β w wr) (fun _ i _=>(RowKit.intOf i+1).toNat);case atStart=>exact⟨l.length,aZ _,rfl,by rw[asX (aZ _),Nat.sub_self];exact mT _ _ _ _,br _ _⟩
 case round=>
  obtain⟨j,aa,rfl,f,b⟩:=hrel;by_cases au:0<j
  ·obtain⟨m,rfl⟩:∃m,j=m+1:=⟨j-1,z⟩;obtain⟨g,rfl,an⟩:=s z;have B:=o g rfl m z;have L:wr.cell? ⟨g,m,none⟩=some (.int .i64 ((l[m]'z:Nat):Int)):=by rw[b.cell an];exact B
   have hd:=C _ (fP (l:=l) (n:=m) z);have I:=G (awM l m z);generalize K:l[m]'z=d at*;clear K B;have hA:(0:Int)<=((m+1:Nat):Int)-1:=z;have gU:((m+1:Nat):Int)-1<l.length:=z;have kf:(((m+1:Nat):Int)-1).toNat=m:=z;have mn:((m+1:Nat):Int)-1=(m:Int):=z;rw[mn];have rf:(0:Int)<=(m:Int):=z;have pU:(m:Int)<l.length:=z
   go_wp2
   go_region_law (first
    |(refine LJ _ (by rfl) _ _ _ (by rfl) w.heap.size 5 Q _ 1 1 se W nR V X rfl ak _ (3*(l.length-(m+1))) _ (by rfl) (ae6 (World.ownsRow.drew f) _) ⟨wr.heap.size,0,none⟩ 3 3 [_,_,_] (by rfl) rfl (aE5 _ _ _ _ _) (by simp[Value.oneCell']) ak (by unfold maxLen;omega) z (by have:=b.size;simp;omega) (wr.heap.size+1) ao ?_;intro O rR w7 r F S T2))
   all_goals
    have R:β w w7:=(b.drew.alloc b.size _).grown F (by have:=b.size;simp;omega) (vP f);have q:3*(l.length-(m+1))+3=3*(l.length-m):=z;have uQ:Hid (w7.ownsRow w.heap.size 5 1 (.slice (some ⟨O,0,none⟩) (3*(l.length-m)) rR) (3*(l.length-m)) ((b2 (l.drop m)).map (Value.int .u8))):=by rw[I.out,xY];rw[q]at r;exact aGk r (QM (d/65536)) (QM (d/256)) (QM d)
    rw[q];clear r F k u o s S L f q
    go_wp2;exact⟨⟨m,z,bG,uQ,R⟩,by simp[RowKit.intOf]⟩
  ·obtain rfl:j=0:=z;rw[LM,afn]at f;obtain⟨M,Z⟩:=f;rcases Z with⟨rfl,ae⟩|⟨g,vf,ck,rfl,jJ,A,ad,af,U,E⟩
   ·have yE:=CW (show l.length=0 by omega);subst yE
    go_wp2_with (go_at_call 189;refine(zZ _ _ (by simp[maxLen])).mono ?_;rintro e w' ⟨⟨t,rfl,T⟩,rfl⟩);go_ret;exact⟨⟨t,rfl,T⟩,b⟩
   ·have x:=apO (b2 l) (Yv l) A E;have ab:=Rf (P:=prog) wr 126 5 se xV g 0 (3*l.length) vf (b2 l) (Yv l) x 101 LF;have J:aT (strOfNums (b2 l)).data.toList=D l:=by rw[Wn,awL];exact avU C
    have N:=G J;have y:(strOfNums (b2 l)).size=3*l.length:=by rw[Rg,Yv]
    have H:=G y;clear y x A U E M k u o s J
    go_wp2_with (go_at_call 189;refine(zZ _ _ (by rw[H.out];unfold maxLen;omega)).mono ?_;rintro e w' ⟨⟨t,rfl,T⟩,rfl⟩);go_ret;rw[N.out]at T;exact⟨⟨t,rfl,T⟩,b⟩
def vl(l:List Nat)(k:Nat):Nat:=l.getD k 0
theorem SX(h:lS l)(k:Nat):vl l k<16777216:=by
 unfold vl;rw[p8];rcases x1 k l with a|a
 rw[jU a];exact h _ (fP a);rw[uI a];decide
theorem JI(h:k<l):vl l k=l[k]:=by
 unfold vl;rw[p8,jU h];rfl
theorem NM(h:¬k<l):vl l k=0:=by
 unfold vl;rw[p8,uI z];rfl
theorem RG(l:List Nat)(k:Nat):D (l.take (k+1))=D (l.take k)+16777216^k*vl l k:=by
 rcases x1 k l with a|a;rw[WR l k a,JI a];rw[uK z,uK a,NM z];omega
theorem atm(l:List Nat)(n:Nat)(h:D l<16777216^n):D (l.take n)=D l:=by
 rcases x1 n l with a|a
 ·have e:=afF (l.take n) (l.drop n);rw[CZ,nu,WB (Br a)]at e;rcases Ru (D (l.drop n))with ae|ae
  rw[e,ae];omega;have:16777216^n<=16777216^n*D (l.drop n):=atb _ ae;omega
 rw[uK a]
variable{x:Nat}
theorem aEC{a b:List Nat}(c:lS a)(g:lS l)(e:l.length=a.length)(d:D b<=D a)(h:x<=1)(f:D l+D (b.take a)=D (a.take a)+16777216^a.length*x):D l=D a-D b:=by
 have H:=afG c;have I:=afG g;rw[e]at I;rw[atm b _ (p_ d H),uK (aZ _)]at f;rcases(show x=0∨x=1 by omega)with rfl|rfl<;>omega
def avr(N:Nat)(m:Nat)(e:Ending)(w':World):Prop:=∃v l,e=.returned v/\mv w' v l/\D l=N/\lS l/\l.length<=m
theorem aEB(u v:Value)(a b:List Nat)(w:World)(hu:mv w u a)(J:mv w v b)(L:lS a)(bL:lS b)(ff:a.length<=8)(ad:b.length<=8)(T:D b<=D a):χ 412 #[u,v] w (avr (D a-D b) a.length):=by
 obtain⟨ei,kV,nR,iY,kY⟩:=im Uo;obtain⟨aR,ca,rfl,W,T0,m,n⟩:=hu.open;obtain⟨dR,dr,rfl,U,kD,j,q⟩:=J.open;unfold maxLen at W U;clear hu J;go_enter func412,ntmps412
 go_wp2;go_loopw [5,6,7] (fun o c i wr=>∃(k x:Nat) (l:List Nat),k<=a.length/\x<=1/\i=.int .i64 k/\c=.int .i64 x/\l.length=k/\lS l/\D l+D (b.take k)=D (a.take k)+16777216^k*x/\wr.ownsRow w.heap.size 3 1 o k (pf l)/\β w wr) (fun _ _ i _=>a.length-(RowKit.intOf i).toNat);case atStart=>exact⟨0,0,[],z,z,rfl,rfl,rfl,lS.nil,by simp[D],by simpa[pf]using mT w w.heap.size 3 1,br _ _⟩
 case round=>
  obtain⟨k,x,l,aa,O,rfl,rfl,de,kv,g,cX,bg⟩:=hrel;by_cases au:k<a.length
  ·obtain⟨C,rfl,N⟩:=m z;have ab:wr.cell? ⟨C,k,none⟩=some (.int .i64 ((a[k]'au:Nat):Int)):=by rw[bg.cell N];exact n C rfl k au
   have rf:(0:Int)<=(k:Int):=z;have pU:(k:Int)<a.length:=z;have r:=RG a k;have F:=RG b k;have kq:=SX L k;have B:=SX bL k;rw[JI au]at r kq;have E:16777216^(k+1)=16777216^k*16777216:=zw ..;have key:∀d f:Nat,d+vl b k+x=a[k]+16777216*f->D (l++[d])+D (b.take (k+1))=D (a.take (k+1))+16777216^(k+1)*f:=fun d f h=>by
    rw[L_,de,r,F,E];have H:16777216^k*(d+vl b k+x)=16777216^k*(a[k]+16777216*f):=by rw[h]
    simp only[Fw]at H;have I:16777216^k*(16777216*f)=16777216^k*16777216*f:=by rw[Fx]
    omega
   have rG:=G key;have W_:=G g;clear r F key E g;generalize K:a[k]'au=y at*;by_cases A:k<b.length
   ·obtain⟨M,rfl,Z⟩:=j z;have DU:wr.cell? ⟨M,k,none⟩=some (.int .i64 ((b[k]'A:Nat):Int)):=by rw[bg.cell Z];exact q M rfl k A
    rw[JI A]at rG B;generalize P:b[k]'A=af at*;have X:(k:Int)<b.length:=z;clear K P n q m j;by_cases Y:y<af+x
    ·have s:(y:Int)-(x:Int)-(af:Int)<0:=z;obtain⟨d,hd⟩:∃d:Nat,d+af+x=y+16777216:=⟨y+16777216-af-x,z⟩;have t:(y:Int)-(x:Int)-(af:Int)+16777216=(d:Int):=z;exact aop
    ·have s:¬((y:Int)-(x:Int)-(af:Int)<0):=z;obtain⟨d,hd⟩:∃d:Nat,d+af+x=y:=⟨y-af-x,z⟩;have t:(y:Int)-(x:Int)-(af:Int)=d:=z;exact aoo
   ·rw[NM A]at rG B;have X:¬(k:Int)<b.length:=z;clear K n q m j;by_cases Y:y<x
    ·have s:(y:Int)-(x:Int)<0:=z;obtain⟨d,hd⟩:∃d:Nat,d+x=y+16777216:=⟨y+16777216-x,z⟩;have t:(y:Int)-(x:Int)+16777216=(d:Int):=z;exact aop
    ·have s:¬((y:Int)-(x:Int)<0):=z;obtain⟨d,hd⟩:∃d:Nat,d+x=y:=⟨y-x,z⟩;have t:(y:Int)-(x:Int)=d:=z;exact aoo
  ·obtain rfl:k=a.length:=z;have R:=G (aEC L kv de T O g);have S:Hid (mv wr u5 l):=mv.hP (base:=w.heap.size) (by rw[de];exact cX);clear g n q m j cX
   go_wp2_with (go_at_call 409;refine(aKp _ l _ S.out kv).mono ?_;rintro e w' ⟨⟨d_,V,rfl,H,I,Q,aM⟩,rfl⟩);go_ret;exact⟨⟨d_,V,rfl,H,I.trans R.out,Q,z⟩,bg⟩
theorem aio:∀(a b:List UInt8),a.length=b.length->Op.bytesLess a b=decide (aT a<aT b)
 |[],[],_=>by simp[Op.bytesLess,aT]
 |x::a,y::b,h=>by
  have d:a.length=b.length:=by simpa using h
  have g:=aio a b d
  have H:=yk a
  have I:=yk b
  rw[←d]at I
  simp only[Op.bytesLess,g]
  rw[zT,zT,←d]
  generalize 256^a.length=p at*
  rcases WA x.toNat y.toNat with c|c|c
  ·have aj:x<y:=c
   have:(x.toNat+1)*p<=y.toNat*p:=qR _ c
   rw[x0]at this
   have e:x.toNat*p+aT a<y.toNat*p+aT b:=z
   simp[aj,e]
  ·have aj:x=y:=WE.1 c
   subst aj
   have f:¬x<x:=fun h=>Wy _ h
   simp[f]
  ·have aj:¬x<y:=fun h=>Nat.lt_asymm c h
   have f:¬x=y:=fun h=>by rw[h]at c;exact Wy _ c
   have:(y.toNat+1)*p<=x.toNat*p:=qR _ c
   rw[x0]at this
   have e:¬x.toNat*p+aT a<y.toNat*p+aT b:=z
   simp[aj,f,e]
theorem ahD:∀(a b:List UInt8),a.length=b.length->aT a=aT b->a=b
 |[],[],_,_=>rfl
 |x::a,y::b,h,J=>by
  have d:a.length=b.length:=by simpa using h
  have H:=yk a
  have I:=yk b
  rw[zT,zT,←d]at J
  rw[←d]at I
  generalize 256^a.length=p at*
  have e:x.toNat=y.toNat:=by
   rcases WA x.toNat y.toNat with c|c|c
   ·have:(x.toNat+1)*p<=y.toNat*p:=qR _ c
    rw[x0]at this
    omega
   exact c
   ·have:(y.toNat+1)*p<=x.toNat*p:=qR _ c
    rw[x0]at this
    omega
  rw[e]at J
  have:=ahD a b d z
  rw[WE.1 e,this]
variable{s t:ByteArray}
theorem dA.anB(a:dA s m)(ai:dA t n)(h:s.size<t.size):m<n:=by
 rcases x1 m n with H|H;exact H;have:=ai.2 s.size (p_ H a.lt);omega
theorem dA.ab'(a:dA s m)(ai:dA t n)(h:((s.size:Int) !=(t.size:Int))=false):Op.bytesLess s.toList t.toList=decide (m<n):=by
 have b:s.size=t.size:=by simp at h;omega
 rw[Bm,Bm,aio _ _ (by rw[jC,jC];exact b),a.1,ai.1]
theorem dA.same(a:dA s m)(ai:dA t n)(h:((s.size:Int) !=(t.size:Int))=false):(!s.toList==t.toList)=decide (m≠n):=by
 have b:s.size=t.size:=by simp at h;omega
 rw[Bm,Bm];by_cases e:m=n;have:s.data.toList=t.data.toList:=ahD _ _ (by rw[jC,jC];exact b) (by rw[a.1,ai.1,e]);rw[this];simp[e]
 ·have:¬s.data.toList=t.data.toList:=fun h=>e (by rw[←a.1,←ai.1,h]);have I:(s.data.toList==t.data.toList)=false:=by rw[lp];exact this
  rw[I];simp[e]
def Aa(m n:Nat):Int:=if m<n then-1 else if n<m then 1 else 0
def FV(m n:Nat)(e:Ending):Prop:=e=.returned (.int .i64 (Aa m n))
theorem Nz(a b:ByteArray)(m n:Nat)(w:World)(aH:dA a m)(A:dA b n)(g:m<256^16)(i:n<256^16):Calls prog 568 #[a,b] w fun e w'=>FV m n e/\w=w':=by
 have k:=G fun w=>Dz a m w aH g;have j:=G fun w=>Dz b n w A i;clear aH A;go_enter func568,ntmps568
 go_wp2_with (first|(go_at_call 189;((with_reducible refine(k.out _).mono ?_);rintro e w' ⟨⟨s,rfl,c⟩,rfl⟩;have zs:s.size<=16:=c.2 16 g))|(go_at_call 189;((with_reducible refine(j.out _).mono ?_);rintro e w' ⟨⟨t,rfl,ai⟩,rfl⟩;have o:t.size<=16:=ai.2 16 i)))
 all_goals go_ret
 all_goals refine⟨?_,rfl⟩
 rename_i H _ _ _ I;have:=c.anB ai I;show Ending.returned _=_;unfold Aa;rw[co this];rfl;rename_i H I;have:=ai.anB c (by simp at H;omega);show Ending.returned _=_;unfold Aa;rw[bs z,co this];rfl
 ·skip
  have H:((s.size:Int) !=(t.size:Int))=false:=by assumption
  have I:Op.bytesLess s.toList t.toList=true:=by assumption
  rw[c.ab' ai H]at I;have:=LZ I;show Ending.returned _=_;unfold Aa;rw[co this];rfl
 ·skip
  have H:((s.size:Int) !=(t.size:Int))=false:=by assumption
  have I:Op.bytesLess s.toList t.toList=false:=by assumption
  have d:(!s.toList==t.toList)=true:=by assumption
  rw[c.ab' ai H]at I;rw[c.same ai H]at d;have f:=afu I;have l:=LZ d;show Ending.returned _=_;unfold Aa;rw[bs f,co z];rfl
 ·skip
  have H:((s.size:Int) !=(t.size:Int))=false:=by assumption
  have I:Op.bytesLess s.toList t.toList=false:=by assumption
  have d:(!s.toList==t.toList)=false:=by assumption
  rw[c.ab' ai H]at I;rw[c.same ai H]at d;have f:=afu I;have l:=afu d;show Ending.returned _=_;unfold Aa;rw[bs f,bs z];rfl
def atJ(n:Nat)(e:Ending):Prop:=∃t:ByteArray,e=.returned (.tuple #[.string t,.bool true])/\dA t n
theorem VJ(a b:ByteArray)(m n:Nat)(w:World)(aH:dA a m)(A:dA b n)(d:m<256^16)(i:n<=m):χ 569 #[a,b] w fun e w'=>atJ (m-n) e:=by
 have g:n<256^16:=p_ i d;have s:=G fun w=>Nz a b m n w aH A d g;have q:=G fun w=>JJ a m w aH d;have C:=G fun w=>JJ b n w A g;have F:decide (Aa m n<0)=false:=by unfold Aa;rw[bs z];split<;>decide
 clear aH A;go_enter func569,ntmps569
 go_wp2_with (first|(go_at_call 568;((with_reducible refine(s.out _).mono ?_);rintro e w' ⟨rfl,rfl⟩))|(go_at_call 111;((with_reducible refine(q.out _).mono ?_);rintro e H ⟨⟨u,l,rfl,y,j,D,M,N⟩,f⟩))|(go_at_call 111;((with_reducible refine(C.out _).mono ?_);rintro e I ⟨⟨u2,cp,rfl,B,k,f3,O,f5⟩,c⟩))|(go_at_call 412;((with_reducible refine(aEB _ _ l cp _ (y.K c) B D f3 z z (by rw[j,k];exact i)).mono ?_);rintro e J ⟨⟨u3,ix,rfl,o,r,x,L⟩,cw⟩))|(go_at_call 112;((with_reducible refine(acU _ ix _ o x z).mono ?_);rintro e K ⟨⟨t,rfl,ai⟩,E⟩)))
 go_ret2
 rw[r,j,k]at ai;exact⟨⟨t,rfl,ai⟩,((cj f c).trans (cw.mono (cO f.size c.size))).trans (E.mono (cO (cO f.size c.size) cw.size))⟩
theorem awj{p b a Z y af s:Nat}(d:b+p*x=a+Z)(c:s=x+y+af):b+p*(s%16777216)+p*16777216*(s/16777216)=(a+p*y)+(Z+p*af):=by
 have H:p*(s%16777216)+p*16777216*(s/16777216)=p*s:=by rw[Fx,←Fw];congr 1;omega
 have I:p*s=p*x+p*y+p*af:=by rw[c,Fw,Fw]
 omega
theorem afH(h:l.length<=k):D (l.take k)=D l:=by rw[uK h]
def Sm(a:ByteArray)(m:Nat)(p:Bool)(x:Nat):Prop:=∀w,Calls prog 110 #[.string a,.int .i64 7] w fun e w'=>e=.returned (.tuple #[.int .i64 x,.bool p])/\w=w'
theorem awh(a b:ByteArray)(m n:Nat)(p q:Bool)(fI dX:Nat)(w:World)(aH:dA a m)(A:dA b n)(ap:m<256^16)(ax:n<256^16)(c1:Sm a m p fI)(c2:Sm b n q dX)(Ku:(p&&q)=false):χ 43 #[.string a,.string b] w fun e w'=>hJ (m+n) e:=by
 obtain⟨W,Y,nR,X,Z⟩:=im Uo;unfold Sm at c1 c2;have bl:=G c1;have bH:=G c2;have hV:=G fun w=>JJ a m w aH ap;have lq:=G fun w=>JJ b n w A ax;clear c1 c2 aH A;go_enter V',ntmps43;cases p<;>cases q<;>try(cases Ku;done)
 all_goals
  go_wp2_with (first
   |(go_at_call 110;((with_reducible refine(bl.out _).mono ?_);rintro e w' ⟨rfl,rfl⟩))
   |(go_at_call 110;((with_reducible refine(bH.out _).mono ?_);rintro e w' ⟨rfl,rfl⟩))
   |(go_at_call 111;((with_reducible refine(hV.out _).mono ?_);rintro e am ⟨⟨u,K,rfl,eD,e',bd,j6,ma⟩,bt⟩))
   |(go_at_call 111;((with_reducible refine(lq.out _).mono ?_);rintro e f ⟨⟨u2,g,rfl,hL,hx,bL,xa,f5⟩,bQ⟩)))
  have NF:=eD.K bQ;have ey:β w f:=cj bt bQ;obtain⟨aR,ca,rfl,pO,T0,R,S⟩:=NF.open;obtain⟨dR,dr,rfl,k9,kD,N,P⟩:=hL.open;unfold maxLen at pO k9;have lN:=G ey;clear eD hL NF bl bH hV lq bt bQ ey;go_loopw [11,12,13] (fun o c i wr=>∃(k x:Nat) (l:List Nat),k<=7/\x<=1/\(6<k->x=0)/\i=.int .i64 k/\c=.int .i64 x/\l.length=k/\lS l/\D l+16777216^k*x=D (K.take k)+D (g.take k)/\wr.ownsRow f.heap.size 3 1 o k (pf l)/\β f wr) (fun _ _ i _=>8-(RowKit.intOf i).toNat);case atStart=>exact⟨0,0,[],z,z,z,rfl,rfl,rfl,lS.nil,by simp[D],by simpa[pf]using mT f f.heap.size 3 1,br _ _⟩
  case round=>
   obtain⟨k,x,l,aa,ag,ah,rfl,rfl,Q,U,eJ,J,d⟩:=hrel;have kq:=SX bd k;have V:=SX bL k;have NS:16777216^(k+1)=16777216^k*16777216:=zw ..;have key:∀s:Nat,s=x+vl K k+vl g k->D (l++[s%16777216])+16777216^(k+1)*(s/16777216)=D (K.take (k+1))+D (g.take (k+1)):=fun s h=>by rw[L_,Q,RG K k,RG g k,NS];exact awj eJ h
   have F:=G key;have W_:=G eJ;have rf:(0:Int)<=(k:Int):=z;clear key NS eJ;by_cases H:k<K.length
   ·obtain⟨DJ,rfl,OS⟩:=R z;have ad:wr.cell? ⟨DJ,k,none⟩=some (.int .i64 ((K[k]'H:Nat):Int)):=by rw[d.cell OS];exact S DJ rfl k H
    have pU:(k:Int)<K.length:=z;rw[JI H]at F kq;generalize aB:K[k]'H=y at*;by_cases I:k<g.length
    ·obtain⟨T,rfl,sU⟩:=N z;have DU:wr.cell? ⟨T,k,none⟩=some (.int .i64 ((g[k]'I:Nat):Int)):=by rw[d.cell sU];exact P T rfl k I
     have pV:(k:Int)<g.length:=z;rw[JI I]at F V;generalize aA:g[k]'I=af at*;clear aB aA S P R N;obtain⟨r,B⟩:∃r:Nat,Hid (r=(x+y+af)%16777216):=⟨_,rfl⟩;obtain⟨c,j⟩:∃c:Nat,Hid (c=(x+y+af)/16777216):=⟨_,rfl⟩;have bV:((x:Int)+(y:Int)+(af:Int):Int)%16777216=(r:Int):=by have:=B.out;omega
     have gN:((x:Int)+(y:Int)+(af:Int):Int)/16777216=(c:Int):=by have:=j.out;omega
     have nX:(0:Int)<=(x:Int)+(y:Int)+(af:Int):=z;have qI:(x:Int)+(y:Int)+(af:Int)<16777216*3:=z
     go_wp2_with (at_builtin;refine ln _ rfl _ _ 22 rfl f.heap.size 3 W (.int .i64 0) 1 8 oY Y nR X Z rfl ak _ _ _ rfl (J.alloc _) ⟨wr.heap.size,0,none⟩ 1 1 [_] rfl rfl (xv _ _ _) (by simp[Value.oneCell']) (by unfold maxLen;omega) z (by have:=d.size;simp;omega) ?_;intro d_ L E C _;have M:β f L:=((d.alloc d.size _).grown C (by have:=d.size;simp;omega) (vP J));have O:=G E;clear E C);exact⟨⟨k+1,c,l++[r],z,by have:=j.out;omega,by have:=j.out;omega,bG,bG,by simp[Q],U.xG (by have:=B.out;omega),by rw[B.out,j.out];exact F.out _ z,by rw[Gl];exact O.out,M⟩,by simp[RowKit.intOf];omega⟩
    ·have pV:¬(k:Int)<g.length:=z;rw[NM I]at F V;clear aB S P R N;obtain⟨r,B⟩:∃r:Nat,Hid (r=(x+y)%16777216):=⟨_,rfl⟩;obtain⟨c,j⟩:∃c:Nat,Hid (c=(x+y)/16777216):=⟨_,rfl⟩;have bV:((x:Int)+(y:Int):Int)%16777216=(r:Int):=by have:=B.out;omega
     have gN:((x:Int)+(y:Int):Int)/16777216=(c:Int):=by have:=j.out;omega
     have nX:(0:Int)<=(x:Int)+(y:Int):=z;have qI:(x:Int)+(y:Int)<16777216*3:=z
     go_wp2_with (at_builtin;refine ln _ rfl _ _ 22 rfl f.heap.size 3 W (.int .i64 0) 1 8 oY Y nR X Z rfl ak _ _ _ rfl (J.alloc _) ⟨wr.heap.size,0,none⟩ 1 1 [_] rfl rfl (xv _ _ _) (by simp[Value.oneCell']) (by unfold maxLen;omega) z (by have:=d.size;simp;omega) ?_;intro d_ L E C _;have M:β f L:=((d.alloc d.size _).grown C (by have:=d.size;simp;omega) (vP J));have O:=G E;clear E C);exact⟨⟨k+1,c,l++[r],z,by have:=j.out;omega,by have:=j.out;omega,bG,bG,by simp[Q],U.xG (by have:=B.out;omega),by rw[B.out,j.out];exact F.out _ z,by rw[Gl];exact O.out,M⟩,by simp[RowKit.intOf];omega⟩
   ·have pU:¬(k:Int)<K.length:=z;rw[NM H]at F kq;by_cases I:k<g.length
    ·obtain⟨T,rfl,sU⟩:=N z;have DU:wr.cell? ⟨T,k,none⟩=some (.int .i64 ((g[k]'I:Nat):Int)):=by rw[d.cell sU];exact P T rfl k I
     have pV:(k:Int)<g.length:=z;rw[JI I]at F V;generalize aA:g[k]'I=af at*;clear aA S P R N;obtain⟨r,B⟩:∃r:Nat,Hid (r=(x+af)%16777216):=⟨_,rfl⟩;obtain⟨c,j⟩:∃c:Nat,Hid (c=(x+af)/16777216):=⟨_,rfl⟩;have bV:((x:Int)+(af:Int):Int)%16777216=(r:Int):=by have:=B.out;omega
     have gN:((x:Int)+(af:Int):Int)/16777216=(c:Int):=by have:=j.out;omega
     have nX:(0:Int)<=(x:Int)+(af:Int):=z;have qI:(x:Int)+(af:Int)<16777216*3:=z
     go_wp2_with (at_builtin;refine ln _ rfl _ _ 22 rfl f.heap.size 3 W (.int .i64 0) 1 8 oY Y nR X Z rfl ak _ _ _ rfl (J.alloc _) ⟨wr.heap.size,0,none⟩ 1 1 [_] rfl rfl (xv _ _ _) (by simp[Value.oneCell']) (by unfold maxLen;omega) z (by have:=d.size;simp;omega) ?_;intro d_ L E C _;have M:β f L:=((d.alloc d.size _).grown C (by have:=d.size;simp;omega) (vP J));have O:=G E;clear E C);exact⟨⟨k+1,c,l++[r],z,by have:=j.out;omega,by have:=j.out;omega,bG,bG,by simp[Q],U.xG (by have:=B.out;omega),by rw[B.out,j.out];exact F.out _ z,by rw[Gl];exact O.out,M⟩,by simp[RowKit.intOf];omega⟩
    ·have pV:¬(k:Int)<g.length:=z;rw[NM I]at F V;by_cases ae:x=0
     ·have cK:Hid (D l=m+n):=by have:=W_.out;rw[afH z,afH z,e',hx,ae]at this;show D l=m+n;omega
      have ce:Hid (mv wr u11 l):=mv.hP (base:=f.heap.size) (by rw[Q];exact J);subst ae;clear S P R N J F W_
      go_wp2_with (go_at_call 112;refine(acU _ l _ ce.out U z).mono ?_;rintro e bn ⟨⟨t,rfl,ai⟩,nE⟩);go_ret;rw[cK.out]at ai;exact⟨⟨t,rfl,ai⟩,(cj lN.out d).trans (nE.mono (cO lN.out.size d.size))⟩
     ·obtain rfl:x=1:=z;clear S P R N
      go_wp2_with (at_builtin;refine ln _ rfl _ _ 22 rfl f.heap.size 3 W (.int .i64 0) 1 8 oY Y nR X Z rfl ak _ _ _ rfl (J.alloc _) ⟨wr.heap.size,0,none⟩ 1 1 [_] rfl rfl (xv _ _ _) (by simp[Value.oneCell']) (by unfold maxLen;omega) z (by have:=d.size;simp;omega) ?_;intro d_ L E C _;have M:β f L:=((d.alloc d.size _).grown C (by have:=d.size;simp;omega) (vP J));have O:=G E;clear E C);exact⟨⟨k+1,0,l++[1],z,z,z,bG,bG,by simp[Q],U.xG z,F.out 1 z,by rw[Gl];exact O.out,M⟩,by simp[RowKit.intOf];omega⟩
theorem arE(a:ByteArray)(m:Nat)(aH:dA a m)(b:m<256^16):∃p x,Sm a m p x/\(p=true↔m<256^7):=by
 by_cases h:m<256^7;exact⟨true,m,fun w=>vU a m 7 w aH z h,by simp[h]⟩;exact⟨false,0,fun w=>arF a m 7 w aH z z b,by simp[h]⟩
theorem F5(a b:ByteArray)(m n:Nat)(w:World)(aH:dA a m)(A:dA b n)(f:m<18446744073709551616)(g:n<18446744073709551616):χ 43 #[a,b] w fun e w'=>hJ (m+n) e:=by
 have c:m<256^16:=pq f ak;have d:n<256^16:=pq g ak;by_cases h:m<72057594037927936/\n<72057594037927936;exact awi a b m n w aH A h.1 h.2
 ·obtain⟨p,x,c1,H⟩:=arE a m aH c;obtain⟨q,y,c2,I⟩:=arE b n A d;refine awh a b m n p q x y w aH A c d c1 c2 ?_;rw[EC]at H I;cases p with
  |false=>rfl
  |true=>
   cases q with
   |false=>rfl
   |true=>exact absurd ⟨H.1 rfl,I.1 rfl⟩ h
def qc(w:World)(B n:Nat)(f:Nat->Nat):Prop:=B<w.heap.size/\∃cs:Array Value,w.heap[B]? =some (.cells cs 3 (0,0))/\cs.size=n/\∀i,i<n->cs[i]? =some (.int .i64 (f i:Int))
variable{B i:Nat}{f:Nat->Nat}
theorem qc.cell(h:qc w B n f)(hi:i<n):w.cell? ⟨B,i,none⟩=some (.int .i64 (f i:Int)):=by
 obtain⟨_,cs,H,_,a⟩:=h;exact ly H (a i hi)
theorem qc.free(h:qc w B n f)(i:Nat):w.frozen? ⟨B,i,none⟩=false:=by
 obtain⟨_,cs,H,_⟩:=h;simp[World.frozen?,H]
def c'(f:Nat->Nat)(j x:Nat):Nat->Nat:=fun i=>if i=j then x else f i
variable{j:Nat}
theorem asn{M:Nat}(h:∀i,f i<M)(a:x<M):∀i,c' f j x i<M:=fun i=>by
 unfold c'
 split
 ·exact a
 ·exact h i
theorem qc.set(h:qc w B n f)(b:j<n):qc (w.setCell ⟨B,j,none⟩ (.int .i64 (x:Int))) B n (c' f j x):=by
 obtain⟨ae,cs,H,I,a⟩:=h;refine⟨by simpa using ae,cs.setIfInBounds j (.int .i64 (x:Int)),hT H _,by simpa using I,fun i hi=>?_⟩;unfold c';by_cases e:i=j;subst e;simp[I,hi];rw[bs e,Bl (h8 e)];exact a i hi
theorem qc.drew(h:qc w B n f):qc w.drew B n f:=h
theorem qc.zero(w:World)(n:Nat):qc (w.alloc (.cells (Array.replicate n (.int .i64 0)) 3)) w n (fun _=>0):=
 ⟨ao,_,cW w _,ao,fun i hi=>by simp[hi]⟩
theorem qc.vl{c:Nat}(h:qc w B n f)(d:n<=100):mv w (.slice (some ⟨B,0,none⟩) n n) ((List.range n).map f):=by
 obtain⟨ae,cs,H,I,b⟩:=h;have a:((List.range n).map f).length=n:=ao;refine⟨by simp[pf],.inr ⟨B,n,cs,by rw[a],dx _,H,by rw[a];exact aZ _,cO d ak,z,?_⟩⟩;rw[a,tm];apply Rl;intro i;rw[oZ];by_cases hi:i<n;rw[co hi];simp[pf,hi,b i hi];rw[bs hi];simp[pf,hi]
def S(f:Nat->Nat):Nat->Nat
 |0=>0
 |k+1=>S f k+16777216^k*f k
theorem ahA(f:Nat->Nat):∀n,D ((List.range n).map f)=S f n
 |0=>rfl
 |n+1=>by
  rw[LV,xY,aff,L_,ahA f n]
  simp[S]
theorem X1(f:Nat->Nat)(j x:Nat):∀k,k<=j->S (c' f j x) k=S f k
 |0,_=>rfl
 |k+1,h=>by
  show S (c' f j x) k+16777216^k*c' f j x k=S f k+16777216^k*f k
  rw[X1 f j x k z]
  unfold c'
  rw[bs z]
theorem aEW{bI u af s:Nat}(c:S f (i+1)=bI*af)(a:s=f i+u*af):S (c' (c' f i (s%16777216)) (i+1) (s/16777216)) (i+2)=(bI+16777216^i*u)*af:=by
 show S (c' (c' f i (s%16777216)) (i+1) (s/16777216)) (i+1)+16777216^(i+1)*c' (c' f i (s%16777216)) (i+1) (s/16777216) (i+1)=_;rw[X1 _ _ _ _ (aZ _)];show S (c' f i (s%16777216)) i+16777216^i*c' f i (s%16777216) i+_=_;rw[X1 _ _ _ _ (aZ _)];have aj:c' f i (s%16777216) i=s%16777216:=by simp[c']
 have b:c' (c' f i (s%16777216)) (i+1) (s/16777216) (i+1)=s/16777216:=by simp[c']
 rw[aj,b,zw];have H:16777216^i*(s%16777216)+16777216^i*16777216*(s/16777216)=16777216^i*s:=by rw[Fx,←Fw];congr 1;omega
 have I:S f i+16777216^i*f i=bI*af:=c;have e:16777216^i*s=16777216^i*f i+16777216^i*(u*af):=by rw[a,Fw]
 have d:16777216^i*u*af=16777216^i*(u*af):=Fx ..;rw[x0,←I];omega
theorem below_drewN{B:Nat}{w w':World}(h:Below B w w'):∀n,Below B w (w'.drewN n)
 |0=>h
 |n+1=>(below_drewN h n).drew
theorem aED(w:World):(Instr.makeSlice 22 (.int .i64 1) (.int .i64 1)).run prog w=.ok (.slice (some ⟨w,0,none⟩) 1 1) (w.alloc (.cells (Array.replicate 1 (.int .i64 0)) 3)):=av
theorem aEE(w:World):(Instr.makeSlice 22 (.int .i64 2) (.int .i64 2)).run prog w=.ok (.slice (some ⟨w,0,none⟩) 2 2) (w.alloc (.cells (Array.replicate 2 (.int .i64 0)) 3)):=av
theorem aEH(w:World):(Instr.makeSlice 22 (.int .i64 3) (.int .i64 3)).run prog w=.ok (.slice (some ⟨w,0,none⟩) 3 3) (w.alloc (.cells (Array.replicate 3 (.int .i64 0)) 3)):=av
theorem aEI(w:World):(Instr.makeSlice 22 (.int .i64 4) (.int .i64 4)).run prog w=.ok (.slice (some ⟨w,0,none⟩) 4 4) (w.alloc (.cells (Array.replicate 4 (.int .i64 0)) 3)):=av
theorem aEJ(w:World):(Instr.makeSlice 22 (.int .i64 5) (.int .i64 5)).run prog w=.ok (.slice (some ⟨w,0,none⟩) 5 5) (w.alloc (.cells (Array.replicate 5 (.int .i64 0)) 3)):=av
theorem aEK(w:World):(Instr.makeSlice 22 (.int .i64 6) (.int .i64 6)).run prog w=.ok (.slice (some ⟨w,0,none⟩) 6 6) (w.alloc (.cells (Array.replicate 6 (.int .i64 0)) 3)):=av
theorem aEL(w:World):(Instr.makeSlice 22 (.int .i64 7) (.int .i64 7)).run prog w=.ok (.slice (some ⟨w,0,none⟩) 7 7) (w.alloc (.cells (Array.replicate 7 (.int .i64 0)) 3)):=av
theorem aER:∀(a:Nat) (_:a<=6) (w:World),(Instr.makeSlice 22 (.int .i64 ((a:Int)+1)) (.int .i64 ((a:Int)+1))).run prog w=.ok (.slice (some ⟨w,0,none⟩) (a+1) (a+1)) (w.alloc (.cells (Array.replicate (a+1) (.int .i64 0)) 3))
 |0,_,w=>by exact aED w
 |1,_,w=>by exact aEE w
 |2,_,w=>by exact aEH w
 |3,_,w=>by exact aEI w
 |4,_,w=>by exact aEJ w
 |5,_,w=>by exact aEK w
 |6,_,w=>by exact aEL w
 |n+7,h,_=>absurd h z
theorem aF_{l:List Nat}{n:Nat}(a:D l=n)(H:0<n)(b:l.length<=1):l=[n]:=by
 match l,a,b with
 |[],a,_=>simp[D]at a;omega
 |[d],a,_=>simp[D]at a;rw[a]
theorem aEU(a b:ByteArray)(m n:Nat)(w:World)(aH:dA a m)(A:dA b n)(vB:16777216<=m)(ap:m<18446744073709551616)(pj:0<n)(O:n<16777216):χ 190 #[.string a,.string b] w fun e w'=>hJ (m*n) e:=by
 have Y:m<256^16:=pq ap ak;have O4:n<256^16:=pq O ak;have bl:Hid (∀w,Calls prog 110 #[.string a,.int .i64 3] w fun e w'=>e=.returned (.tuple #[.int .i64 0,.bool false])/\w=w'):=fun w=>arF a m 3 w aH z (cO ak vB) Y;have bH:Hid (∀w,Calls prog 110 #[.string b,.int .i64 4] w fun e w'=>e=.returned (.tuple #[.int .i64 n,.bool true])/\w=w'):=fun w=>vU b n 4 w A z (iK O ak);have hV:=G fun w=>JJ a m w aH Y;have lq:=G fun w=>JJ b n w A O4;clear aH A;go_enter V9,ntmps190
 go_wp2_with (first
  |(go_at_call 110;((with_reducible refine(bl.out _).mono ?_);rintro e w' ⟨rfl,rfl⟩))
  |(go_at_call 110;((with_reducible refine(bH.out _).mono ?_);rintro e w' ⟨rfl,rfl⟩))
  |(go_at_call 111;((with_reducible refine(hV.out _).mono ?_);rintro e am ⟨⟨u,g,rfl,eD,e',bd,j6,ma⟩,bt⟩))
  |(go_at_call 111;((with_reducible refine(lq.out _).mono ?_);rintro e x ⟨⟨u2,cb,rfl,hL,hx,bL,xa,f5⟩,P⟩;have NF:=eD.K P;have kD:=aF_ hx pj (f5 1 (iK O ak));have pR:=aER g.length j6;obtain⟨aR,ca,rfl,pO,T0,V,W⟩:=NF.open;obtain⟨dR,dr,rfl,k9,T1,kW,sR⟩:=hL.open)))
 subst kD;have X:=kW ao;obtain⟨T,rfl,X⟩:=X;have ad:=sR T rfl 0 ao;have DU:x.cell? ⟨T,0,none⟩=some (.int .i64 (n:Int)):=ad;have lN:Hid (β w x):=cj bt P;have km:=qc.zero x (g.length+1);have kl:β x (x.alloc (.cells (Array.replicate (g.length+1) (.int .i64 0)) 3)):=(br _ _).alloc (aZ _) _;generalize x.alloc (.cells (Array.replicate (g.length+1) (.int .i64 0)) 3)=bX at*;obtain⟨B,bk⟩:∃B:Nat,Hid (B=x.heap.size):=⟨_,rfl⟩;clear pR eD hL NF bl bH hV lq bt P kW sR ad;unfold maxLen at pO k9;go_loopw [12] (fun i wr=>∃(k:Nat) (f:Nat->Nat),k<=g.length/\i=.int .i64 k/\qc wr x.heap.size (g.length+1) f/\(∀j,f j<16777216)/\S f (k+1)=D (g.take k)*n/\β x wr) (fun i _=>g.length-(RowKit.intOf i).toNat);case atStart=>exact⟨0,fun _=>0,z,rfl,km,fun j=>(ak:(0:Nat)<16777216),by simp[S,D],kl⟩
 case round=>
  obtain⟨E,rfl⟩:∃E:World,E=wr:=⟨_,rfl⟩;obtain⟨k,f,aj,rfl,C,R,J,F⟩:=hrel;by_cases au:k<g.length
  ·obtain⟨Z,rfl,OS⟩:=V z;have aa:E.cell? ⟨Z,k,none⟩=some (.int .i64 ((g[k]'au:Nat):Int)):=by rw[F.cell OS];exact W Z rfl k au
   have af:E.cell? ⟨T,0,none⟩=some (.int .i64 (n:Int)):=by rw[F.cell X];exact DU
   have yy:=C.cell (i:=k) z;have lZ:=C.free k;have kq:=bd _ (fP (l:=g) (n:=k) au);have ae:=R k;have L:=WR g k au;obtain⟨y,aB⟩:∃y,Hid (y=g[k]'au):=⟨_,rfl⟩;rw[←aB.out]at aa kq L;obtain⟨o,bU⟩:∃o,Hid (o=f k):=⟨_,rfl⟩;rw[←bU.out]at yy ae;obtain⟨q,M⟩:∃q,Hid (q=y*n):=⟨_,rfl⟩;have an:q<=281474943156225:=by have H:y*n<=16777215*16777215:=zv z z;rw[M.out];omega
   have ar:(y:Int)*(n:Int)=q:=by rw[M.out,Fq]
   obtain⟨s,K⟩:∃s,Hid (s=o+q):=⟨_,rfl⟩;have ke:s<281474976710656:=by have:=K.out;omega
   have av:(o:Int)+(q:Int)=s:=by have:=K.out;omega
   obtain⟨r,N⟩:∃r:Nat,Hid (r=s%16777216):=⟨_,rfl⟩;obtain⟨c,U⟩:∃c:Nat,Hid (c=s/16777216):=⟨_,rfl⟩;have bV:(s:Int)%16777216=(r:Int):=by have:=N.out;omega
   have gN:(s:Int)/16777216=(c:Int):=by have:=U.out;omega
   have ip:Hid (S (c' (c' f k r) (k+1) c) (k+2)=D (g.take (k+1))*n):=by rw[N.out,U.out,L];exact aEW J (by rw[K.out,M.out,bU.out])
   have rf:(0:Int)<=(k:Int):=z;have pU:(k:Int)<g.length:=z;have vK:(g.length:Int)<=6:=z;have ag:=G C;clear L J C V W
   go_wp2;go_loopw [13,14] (fun gA j Q=>(gA=.int .i64 0/\j=.int .i64 0/\Q=E)∨(gA=.int .i64 c/\j=.int .i64 1/\qc Q x.heap.size (g.length+1) (c' f k r)/\β x Q)) (fun _ j _=>1-(RowKit.intOf j).toNat);case atStart=>exact .inl ⟨rfl,rfl,rfl⟩
   case round=>
    rcases hrel with⟨rfl,rfl,rfl⟩|⟨rfl,rfl,I,bp⟩
    ·go_wp2;go_quiet (fail)
     go_wp2;exact⟨.inr ⟨rfl,rfl,qc.set (w:=World.drewN _ _) ag.out z,(below_drewN F _).setCell (aZ _) _⟩,by simp[RowKit.intOf]⟩
    ·have aw:=I.free (k+1);have al:=I.cell (i:=k+1) z;have vL:((k:Int)+1).toNat=k+1:=z;have vI:(0:Int)<=(k:Int)+1:=z;have vJ:(k:Int)+1<(g.length:Int)+1:=z;have ah:=G I;clear I yy aa af lZ
     go_wp2;have tS:∀j,c' (c' f k r) (k+1) c j<16777216:=asn (asn R (by have:=N.out;omega)) (by have:=U.out;omega);exact⟨⟨k+1,c' (c' f k r) (k+1) c,z,bG,ah.out.set z,tS,ip.out,bp.setCell (aZ _) _⟩,by simp[RowKit.intOf];omega⟩
  ·obtain rfl:k=g.length:=z;have ce:Hid (mv E (.slice (some ⟨x.heap.size,0,none⟩) (g.length+1) (g.length+1)) ((List.range (g.length+1)).map f)):=C.vl (c:=0) z;have cK:Hid (D ((List.range (g.length+1)).map f)=m*n):=by rw[ahA,J,uK (aZ _),e'];exact rfl
   have kv:Hid (lS ((List.range (g.length+1)).map f)):=fun d hd=>by obtain⟨j,_,rfl⟩:=nv.1 hd;exact R j
   have de:((List.range (g.length+1)).map f).length=g.length+1:=ao;clear C J V W
   go_wp2_with (go_at_call 112;refine(acU _ _ _ ce.out kv.out z).mono ?_;rintro e bn ⟨⟨t,rfl,ai⟩,nE⟩);go_ret;rw[cK.out]at ai;exact⟨⟨t,rfl,ai⟩,(cj lN.out F).trans (nE.mono (cO lN.out.size F.size))⟩
theorem UT(a b:ByteArray)(m n:Nat)(w:World)(aH:dA a m)(A:dA b n)(c:m<18446744073709551616)(f:0<n)(d:n<16777216):χ 190 #[a,b] w fun e w'=>hJ (m*n) e:=by
 by_cases h:m<16777216;exact ao' a b m n w aH A h z;exact aEU a b m n w aH A z c f d
end Go.aJ
namespace Go.aJ
open Go Go.Proofs.Tryz Go.Proofs Go.RowKit Go.Lib
def Je(l:List UInt8)(e:Ending):Prop:=∃t:ByteArray,e=.returned (.string t)/\t.data.toList=l
def Jk(n q:Nat)(l:List UInt8):Prop:=(0<q->decDigits n=decDigits q++l)/\(q=0->decDigits n=l)
variable{n q:Nat}{l:List UInt8}
theorem Jk.step(h:Jk n q l)(b:0<q):Jk n (q/10) (UInt8.ofNat (48+q%10)::l):=by
 have H:=h.1 b;rw[show decDigits q=if h:q<10 then [UInt8.ofNat (48+q)]else decDigits (q/10)++[UInt8.ofNat (48+q%10)]from by rw[decDigits]]at H;by_cases a:q<10;rw[dif_pos a]at H;refine⟨fun ae=>z,fun _=>?_⟩;rw[H];have:q%10=q:=z;rw[this];rfl;rw[dif_neg a]at H;refine⟨fun _=>by rw[H];simp,fun ae=>z⟩
theorem UU:∀(k u:Nat),u<=k->nDigits u<=u+1
 |0,u,h=>by
  obtain rfl:u=0:=z
  rw[aeW z]
  omega
 |k+1,u,h=>by
  by_cases a:u<10
  ·rw[aeW a];omega
  ·rw[nDigits_big a]
   have:=UU k (u/10) z
   omega
theorem Jk.len(h:Jk n q l):l.length<=n+1:=by
 have H:=aeU n;have I:=UU n n (aZ _);rcases Ru q with ae|ae
 rw[h.2 ae]at H;omega;rw[h.1 ae,ia]at H;omega
theorem SF(a b:ByteArray):(a++b).data.toList=a.data.toList++b.data.toList:=ao
theorem apG(w:World)(x:Int):(convert 126 9 (.slice (some ⟨w,0,none⟩) 1 1)).run prog (w.alloc (.cells #[.int .u8 x] 5))=.ok (.string (strOfNums [x])) (w.alloc (.cells #[.int .u8 x] 5)):=
 Rf (P:=prog) (w.alloc (.cells #[.int .u8 x] 5)) 126 5 se xV w 0 1 1 [x] rfl (fun i hi=>by
  obtain rfl:i=0:=z
  exact aK 0 (cW w _)) 9 LH
theorem Fc(a:ByteArray)(n:Nat)(w:World)(aH:dA a n)(F:n<36028797018963968):χ 300 #[a] w fun e w'=>Je (decDigits n) e:=by
 have D:n<256^16:=pq F ak;have f:=G fun w=>Dz a n w aH D;have H:Hid (∀w,χ 108 #[.int .i64 10] w fun e w'=>hJ 10 e):=fun w=>p0 10 w z;clear aH D;by_cases ae:n=0
 ·subst ae;go_enter func300,ntmps300
  go_wp2_with (go_at_call 189;((with_reducible refine(f.out _).mono ?_);rintro e E ⟨⟨t,rfl,ai⟩,rfl⟩;have c:=ai.zero.2 rfl;have B:((t.size:Int)==0)=true:=(by rw[c];rfl)));go_ret;exact⟨⟨_,rfl,by rw[decDigits];rfl⟩,br _ _⟩
 ·go_enter func300,ntmps300
  go_wp2_with (go_at_call 189;((with_reducible refine(f.out _).mono ?_);rintro e E ⟨⟨t,rfl,ai⟩,rfl⟩;have c:¬t.size=0:=(fun e=>ae (ai.zero.1 e));have B:((t.size:Int)==0)=false:=(by rw[lp];omega)));clear f c B;go_loopw [0,3] (fun x y wr=>∃(q:Nat) (t s:ByteArray),q<=n/\x=.string t/\y=.string s/\dA t q/\Jk n q s.data.toList/\β w wr) (fun x _ _=>match x with|.string t=>aT t.data.toList|_=>0);case atStart=>exact⟨n,t,_,aZ _,rfl,rfl,ai,⟨fun _=>ao,fun h=>absurd h ae⟩,br _ _⟩
  case round=>
   obtain⟨q,t,s,Q,rfl,rfl,ai,g,d⟩:=hrel;have k:=G ai.zero;have j:=G ai;have u:=G g;have T:s.size<=n+1:=by have:=g.len;rw[jC]at this;exact this
   clear ai g;by_cases O:0<q
   ·have K:0<(t.size:Int):=by
     have:¬t.size=0:=fun e=>by have:=k.out.1 e;omega
     omega
    have i:q%10<10:=zu _ z;obtain⟨r,b⟩:∃r,Hid (r=q%10):=⟨_,rfl⟩;rw[←b.out]at i
    go_wp2_with (first
     |(go_at_call 108;((with_reducible refine(H.out _).mono ?_);rintro e R ⟨⟨J,rfl,I⟩,l⟩))
     |(go_at_call 299;((with_reducible refine(A4 t J q 10 _ j.out I z z z).mono ?_);rintro e m ⟨⟨o,M,rfl,C,A⟩,cw⟩;rw[←b.out]at A))
     |(go_at_call 191;((with_reducible refine(El M r _ A (iK i ak)).mono ?_);rintro e S ⟨rfl,rfl⟩;have U:=apG m (48+(r:Int));have N:(strOfNums [48+(r:Int)]).size=1:=(by rw[Rg];rfl);have P:(strOfNums [48+(r:Int)]).size+s.size<=9223372036854775807:=(by rw[N];omega))))
    have iL:β w m:=(cj d l).trans (cw.mono (cO d.size l.size));refine⟨⟨q/10,o,_,z,rfl,rfl,C,?_,iL.alloc iL.size _⟩,?_⟩
    ·have e:(strOfNums [48+(r:Int)]++s).data.toList=UInt8.ofNat (48+q%10)::s.data.toList:=by rw[SF,Wn,←b.out];have:(48+(r:Int)).toNat=48+r:=z;simp[this]
     rw[e];exact u.out.step O
    ·show aT o.data.toList<aT t.data.toList;rw[C.1,j.out.1];omega
   ·obtain rfl:q=0:=z;have z0:t.size=0:=k.out.2 rfl;have K:¬0<(t.size:Int):=z;have L:=G (u.out.2 rfl)
    go_wp2;go_ret;exact⟨⟨s,rfl,L.out.symm⟩,d⟩
theorem apf(n:Int)(w:World)(ae: -9007199254740992<=n)(H:n<=9007199254740992):χ 408 #[n] w fun e w'=>hJ n.natAbs e:=by
 by_cases s:0<=n
 ·obtain⟨m,rfl⟩:∃m:Nat,n=(m:Int):=⟨n.toNat,z⟩;have b:=G fun w=>p0 m w z;go_enter func408,ntmps408
  go_wp2_with (go_at_call 108;((with_reducible refine(b.out _).mono ?_);rintro e g ⟨⟨t,rfl,ai⟩,a⟩));go_ret;exact⟨⟨t,rfl,ai⟩,a⟩
 ·obtain⟨m,d⟩:∃m:Nat,n= -((m:Int)+1):=⟨(-n-1).toNat,z⟩;have aj: -(n+1)=(m:Int):=z;have c:n.natAbs=m+1:=z;have b:=G fun w=>p0 m w z;have i:Hid (∀w,χ 108 #[.int .i64 1] w fun e w'=>hJ 1 e):=fun w=>p0 1 w z;rw[c];clear c;have q:n<0:=z;have l:=G d;clear d;go_enter func408,ntmps408
  go_wp2_with (first|(go_at_call 108;((with_reducible refine(b.out _).mono ?_);rintro e g ⟨⟨t,rfl,ai⟩,a⟩))|(go_at_call 108;((with_reducible refine(i.out _).mono ?_);rintro e r ⟨⟨j,rfl,k⟩,f⟩))|(go_at_call 43;((with_reducible refine(F5 t j m 1 _ ai k (by have:=l.out;omega) z).mono ?_);rintro e u ⟨⟨t3,rfl,o⟩,cw⟩)))
  go_ret;exact⟨⟨t3,rfl,o⟩,(cj a f).trans (cw.mono (cO a.size f.size))⟩
def hn(N S:Int):Prop:=0<=S/\S<=6/\ -1000000000000000<=N/\N<=1000000000000000/\(S=0∨N.tmod 10≠0)
theorem aqR(N S:Int)(w:World)(h:hn N S):χ 295 #[.agg #[N,S]] w fun e w'=>e=.returned (.bool true):=by
 obtain⟨H,I,f,d,a⟩:=h;by_cases b:S=0
 ·subst b;go_enter func295,ntmps295
  go_wp2;go_ret;exact PO
 ·have c:N.tmod 10≠0:=by
   rcases a with a|a;exact absurd a b;exact a
  have g:(S==0)=false:=by rw[lp];exact b
  have i:(N.tmod 10 !=0)=true:=by simpa using c
  go_enter func295,ntmps295
  go_wp2;go_ret;exact PO
theorem K4(n:Nat)(w:World)(r:n<=6):χ 298 #[n] w fun e w'=>hJ (10^n) e:=by
 have d:Hid (∀w,χ 108 #[.int .i64 1] w fun e w'=>hJ 1 e):=fun w=>p0 1 w z;have g:Hid (∀w,χ 108 #[.int .i64 10] w fun e w'=>hJ 10 e):=fun w=>p0 10 w z;go_enter func298,ntmps298
 go_wp2_with (go_at_call 108;((with_reducible refine(d.out _).mono ?_);rintro e o ⟨⟨t,rfl,ai⟩,j⟩));clear d;go_loopw [3,4] (fun x i wr=>∃(k:Nat) (t:ByteArray),k<=n/\i=.int .i64 k/\x=.string t/\dA t (10^k)/\β w wr) (fun _ i _=>n-(RowKit.intOf i).toNat);case atStart=>exact⟨0,t,z,rfl,rfl,ai,j⟩
 case round=>
  obtain⟨k,t,m,rfl,rfl,ai,a⟩:=hrel;have b:=G ai;clear ai;by_cases au:k<n
  ·have u:(k:Int)<n:=z;have ag:10^k<=10^6:=kO z z
   go_wp2_with (first
    |(go_at_call 108;((with_reducible refine(g.out _).mono ?_);rintro e q ⟨⟨l,rfl,I⟩,c⟩))
    |(go_at_call 190;((with_reducible refine(UT t l (10^k) 10 _ b.out I z z z).mono ?_);rintro e s ⟨⟨t3,rfl,f⟩,cw⟩)))
   exact⟨⟨k+1,t3,z,bG,rfl,by rw[zw];exact f,(cj a c).trans (cw.mono (cO a.size c.size))⟩,by simp[RowKit.intOf];omega⟩
  ·obtain rfl:k=n:=z
   go_wp2;go_ret;exact⟨⟨t,rfl,b.out⟩,a⟩
structure F3 (w W:World) (di dL:Obj) (bt bQ:Nat):Prop where
 p:W.heap[bt]? =some di
 q:W.heap[bQ]? =some dL
 h:β w W
 H:w.heap.size<=bt
 I:w.heap.size<=bQ
 lt:bt<bQ/\bQ<W.heap.size
theorem lm(w:World)(a b:Obj):F3 w ((w.alloc a).alloc b) a b w (w.heap.size+1):=by
 have c:=i_ w a;have d:=i_ (w.alloc a) b;refine⟨?_,?_,((br _ w).alloc (aZ _) a).alloc z b,z,z,z⟩;rw[tT (w.alloc a) b z];exact cW w a;rw[←c];exact cW (w.alloc a) b
def nC(neg:Bool)(n s:Nat)(e:Ending):Prop:=∃t:ByteArray,e=.returned (.agg #[.bool neg,.string t,.int .i64 s])/\dA t n
variable{w W:World}{d c:Obj}{b a:Nat}
theorem F3.K{W':World}(T:F3 w W d c b a)(h:β W W'):F3 w W' d c b a:=
 ⟨(h.block b (by have:=T.lt;omega)).trans T.p,(h.block a (by have:=T.lt;omega)).trans T.q,cj T.h h,T.H,T.I,T.lt.1,cS h T.lt.2⟩
theorem F3.drew(T:F3 w W d c b a):F3 w W.drew d c b a:=T.K ((br _ _).drew)
theorem cJ{i:Nat}{cs:Array Value}{t:TypeId}(h:w.heap[b]? =some (.cells cs t (0,0))):w.frozen? ⟨b,i,none⟩=false:=by simp[World.frozen?,h]
theorem ym(N:Int)(S:Nat)(w:World)(h:hn N S):χ 297 #[.agg #[N,S]] w fun e w'=>nC (decide (N<0)) N.natAbs S e:=by
 have k:=G fun w=>aqR N S w h;have j:=G fun w=>apf N w (by have:=h.2.2.1;omega) (by have:=h.2.2.2.1;omega);have T:=lm w (.cells #[N,S] 38 (0,0)) (.cells #[.bool false,.string ⟨#[]⟩,.int .i64 0] 337 (0,0));clear h;go_enter func297,ntmps297
 go_wp2_with (go_at_call 295;(with_reducible refine(k.out _).mono ?_);rintro e s ⟨rfl,c⟩);have g:=T.K c;have y:=G g.h;clear T c;obtain⟨a,f⟩:∃a,a=w.heap.size+1:=⟨_,rfl⟩;obtain⟨b,c⟩:∃b,b=w.heap.size:=⟨_,rfl⟩;have q:w.heap.size<=b:=z;have i:w.heap.size<=a:=z;have r:=G i;rw[←f,←c]at g;rw[←f,←c];have n:=G g.drew;obtain⟨bo,c1⟩:=jV g.p;clear f c g
 go_region_held3 (fun W=>W.cell? ⟨b,0,none⟩=some (.int .i64 N)/\W.cell? ⟨b,1,none⟩=some (.int .i64 S)) (first|exact⟨bo,c1⟩|exact⟨o,b4⟩|go_keep) (first|(go_at_call 408;(with_reducible refine(j.out _).mono ?_);rintro e u ⟨⟨t,rfl,ai⟩,f⟩;have d:=G (n.out.K f);obtain⟨o,b4⟩:=jV d.out.p;obtain⟨fX,l,m⟩:=yp d.out.q;obtain⟨z0,A,B⟩:=JV d.out.q;have x:b≠a:=(by have:=d.out.lt;omega);have C:a≠b:=(by have:=d.out.lt;omega)))
 go_wp2;refine jT (v:=.agg #[.bool (decide (N<0)),t,S]) (by simp[results,results297,go_sem,fX,l,m]) rfl ?_;exact⟨⟨t,rfl,ai⟩,((d.out.h.setCell (p:=⟨a,0,none⟩) i _).setCell (p:=⟨a,1,none⟩) i _).setCell (p:=⟨a,2,none⟩) i _⟩
theorem Bi(neg:Bool)(a:ByteArray)(n s m:Nat)(w:World)(aH:dA a n)(I:n<=1000000000000000)(D:s<=m)(F:m<=3):χ 567 #[.agg #[.bool neg,a,s],m] w fun e w'=>nC neg (n*10^(m-s)) m e:=by
 obtain⟨d,hd⟩:∃d,d=m-s:=⟨_,rfl⟩;have l:(m:Int)-(s:Int)=d:=z;rw[←hd];have ag:10^d<=10^3:=kO z z;have u:Hid (∀w,χ 298 #[.int .i64 (IntKind.i64.wrap ((m:Int)-(s:Int)))] w fun e w'=>hJ (10^d) e):=fun w=>by rw[l,pw _ ⟨z,z⟩];exact K4 d w z
 have q:Hid (∀t w,dA t (10^d)->χ 190 #[a,t] w fun e w'=>hJ (n*10^d) e):=fun t w ai=>UT a t n (10^d) w aH ai z (IJ z) z;have T:=lm w (.cells #[.bool neg,a,s] 337 (0,0)) (.cells #[.bool false,.string ⟨#[]⟩,.int .i64 0] 337 (0,0));have Q:(0:Int)<=(m:Int)-(s:Int):=z;have P:(m:Int)-(s:Int)<=3:=z;clear hd l ag aH;go_enter func567,ntmps567
 go_wp2;generalize (w.alloc (.cells #[.bool neg,a,s] 337 (0,0))).alloc (.cells #[.bool false,.string ⟨#[]⟩,.int .i64 0] 337 (0,0))=E at*;obtain⟨b,g⟩:∃b,b=w.heap.size+1:=⟨_,rfl⟩;obtain⟨c,i⟩:∃c,c=w.heap.size:=⟨_,rfl⟩;have j:w.heap.size<=b:=z;rw[←g,←i]at T;rw[←g,←i];have A:=G T.drew;obtain⟨bo,c1,c2⟩:=yp T.p;clear g i T
 go_region_held3 (fun W=>W.cell? ⟨c,0,none⟩=some (.bool neg)/\W.cell? ⟨c,1,none⟩=some (.string a)/\W.cell? ⟨c,2,none⟩=some (.int .i64 s)) (first|exact⟨bo,c1,c2⟩|exact⟨C,bZ,cp⟩|exact⟨B,b4,dF⟩|go_keep) (first|(have _:=k;go_at_call 190;(with_reducible refine(q.out _ _ k).mono ?_);rintro e K ⟨⟨t,rfl,ai⟩,r⟩;have f:=G (o.out.K r);obtain⟨C,bZ,cp⟩:=yp f.out.p;obtain⟨fX,x,y⟩:=yp f.out.q;obtain⟨z0,M,N⟩:=JV f.out.q;have J:c≠b:=(by have:=f.out.lt;omega);have O:b≠c:=(by have:=f.out.lt;omega))|(go_at_call 298;(with_reducible refine(u.out _).mono ?_);rintro e H ⟨⟨L,rfl,k⟩,g⟩;have o:=G (A.out.K g);obtain⟨B,b4,dF⟩:=yp o.out.p))
 go_wp2;refine jT (v:=.agg #[.bool neg,t,m]) (by simp[results,results567,go_sem,fX,x,y]) rfl ?_;exact⟨⟨t,rfl,ai⟩,((f.out.h.setCell (p:=⟨b,0,none⟩) j _).setCell (p:=⟨b,1,none⟩) j _).setCell (p:=⟨b,2,none⟩) j _⟩
end Go.aJ
