/- ItemLatest, one part of the proof. -/
import Derived.Test.YtdioggbficfibaaGreatDoorP10
set_option linter.all false
set_option maxRecDepth 100000
set_option maxHeartbeats 16000000
namespace Go.bh
open Go Go.Proofs Go.RowKit Go.da
def tx(w:World)(v:Value)(q:List Int):Prop:=∃a b,v=.slice a q.length b/\pC w a q
variable{w w':World}{v:Value}{q:List Int}
theorem tx.kept(h:tx w v q)(a:ya w w'):tx w' v q:=by
 obtain⟨c,d,e,b⟩:=h;exact⟨c,d,e,b.kept a⟩
theorem tx.xy(h:tx w v q):v.oneCell'=true:=by
 obtain⟨a,b,rfl,_⟩:=h;rfl
def kB(w:World):List Value->List (List Int)->Prop
 |[],[]=>True
 |v::vs,q::l=>tx w v q/\kB w vs l
 |_,_=>False
theorem kB.len{w:World}:∀{a:List Value} {l:List (List Int)},kB w a l->a.length=l.length
 |[],[],_=>rfl
 |v::vs,q::l,h=>by simp[kB.len h.2]
theorem kB.kept{w w':World}(a:ya w w'):∀{b:List Value} {l:List (List Int)},kB w b l->kB w' b l
 |[],[],_=>g'
 |v::vs,q::l,h=>⟨h.1.kept a,h.2.kept a⟩
theorem am9(A:β w w'):ya w w':=fun b arr bb a=>by rw[A.block b (c8 a)];exact a
variable{l:List (List Int)}
theorem kB.K{a:List Value}(h:kB w a l)(A:β w w'):kB w' a l:=h.kept (am9 A)
theorem kB.Jp{w:World}:∀{a zs:List Value} {l m:List (List Int)},kB w a l->kB w zs m->kB w (a++zs) (l++m)
 |[],zs,[],m,_,h=>h
 |v::vs,zs,q::l,m,H,I=>⟨H.1,H.2.Jp I⟩
theorem kB.kC{w:World}:∀{a:List Value} {l:List (List Int)} (_:kB w a l) (i:Nat) (hi:i<l),∃v,a[i]? =some v/\tx w v l[i]
 |[],[],_,_,hi=>by simp at hi
 |v::vs,q::l,h,0,_=>⟨v,rfl,h.1⟩
 |v::vs,q::l,h,i+1,hi=>by
  obtain⟨u,H,I⟩:=kB.kC h.2 i (by simpa using hi)
  exact⟨u,by simpa using H,by simpa using I⟩
theorem kB.xy{w:World}:∀{a:List Value} {l:List (List Int)},kB w a l->∀u∈a,u.oneCell'=true
 |[],[],_,u,hu=>by cases hu
 |v::vs,q::l,h,u,hu=>by
  rcases gl.1 hu with rfl|hu
  ·exact h.1.xy
  ·exact h.2.xy u hu
def rI(w:World)(va:Option Addr)(l:List (List Int)):Prop:=0<l.length->∃b o arr bb a,va=some ⟨b,o,none⟩/\w.heap[b]? =some (.cells arr 22 bb)/\kB w a l/\∀(i:Nat) u,a[i]? =some u->arr[o+i]? =some u
variable{va:Option Addr}
theorem rI.kept(h:rI w va l)(a:ya w w')(f:∀b o,va=some ⟨b,o,none⟩->w'.heap[b]? =w.heap[b]?):rI w' va l:=fun ae=>by
 obtain⟨b,o,arr,bb,g,e,d,ag,c⟩:=h ae
 exact⟨b,o,arr,bb,g,e,by rw[f b o e];exact d,ag.kept a,c⟩
theorem rI.K(h:rI w va l)(A:β w w'):rI w' va l:=fun ae=>by
 obtain⟨b,o,arr,bb,d,e,a,ag,c⟩:=h ae
 exact⟨b,o,arr,bb,d,e,by rw[A.block b (c8 a)];exact a,ag.K A,c⟩
theorem rI.cell{w:World}{va:Option Addr}{l:List (List Int)}(h:rI w va l)(ae:0<l.length):∃b o,va=some ⟨b,o,none⟩/\b<w.heap.size/\∀i (hi:i<l.length),∃v,w.cell? ⟨b,o+i,none⟩=some v/\tx w v l[i]:=by
 obtain⟨b,o,arr,bb,d,e,a,ag,c⟩:=h ae;refine⟨b,o,e,c8 a,fun i hi=>?_⟩;obtain⟨u,H,I⟩:=ag.kC i hi;exact⟨u,by simp only[World.cell?,a];exact c i u H,I⟩
theorem rI.g8{w:World}{va:Option Addr}{l:List (List Int)}(h:rI w va l)(g:va=none->l=[]):∃a,kB w a l/\((∃ad,va=some ad/\∀(j:Nat) u,a[j]? =some u->w.cell? (ad.add j)=some u)∨(va=none/\l=[])):=by
 by_cases ae:0<l.length
 ·obtain⟨b,o,arr,bb,a,e,c,ag,d⟩:=h ae;refine⟨a,ag,.inl ⟨_,e,fun j u hu=>?_⟩⟩;have f:(⟨b,o,none⟩:Addr).add j=⟨b,o+j,none⟩:=by unfold Addr.add;split<;>simp_all
  rw[f];simp only[World.cell?,c];exact d j u hu
 ·have c:l=[]:=CW z;subst c;refine⟨[],g',?_⟩;cases va with
  |none=>exact .inr ⟨rfl,rfl⟩
  |some ad=>exact .inl ⟨ad,rfl,fun j u hu=>by simp at hu⟩
theorem rI.aGW{T:List Int->Prop}{w:World}{va:Option Addr}{l:List (List Int)}(h:rI w va l)(f:∀q∈l,T q):yh T w va l.length:=fun ae=>by
 obtain⟨b,o,e,c,a⟩:=h.cell ae
 refine⟨b,o,e,c,fun i hi=>?_⟩
 obtain⟨v,H,g,j,I,d⟩:=a i hi
 exact⟨v,H,g,j,l[i],I,d,f _ (fP hi)⟩
variable{n:Nat}{aP:List Value}
theorem CB{base:Nat}{e t:TypeId}{size:Nat}(h:w.ownsRow base e size v n aP){b:Nat}{cs:Array Value}{fr:Nat×Nat}(A:w.heap[b]? =some (.cells cs t fr))(ai:t≠e):some b≠v.ownBlock:=by
 exact anV
theorem Hd{base:Nat}{size:Nat}(h:w.ownsRow base 22 size v n aP)(an:w.grownBy w' v.ownBlock):ya w w':=fun b arr bb a=>by
 rw[an.block b (c8 a) (CB h a ak)];exact a
theorem aqo{base:Nat}{b:List Value}(h:w.ownsRow base 22 1 v n b)(ag:kB w b l)(d:l.length=n):∃va c,v=.slice va l c/\rI w va l/\(va=none->l=[]/\c=0)/\l.length<=c:=by
 subst d;rcases h.2 with⟨aj,a⟩|⟨g,cap,j,aj,a,e,f,m,o,k⟩
 refine⟨none,0,?_,fun ae=>z,fun _=>⟨CW a,rfl⟩,z⟩;rw[aj,a]
 ·refine⟨_,cap,aj,fun ae=>⟨g,0,j,(0,0),b,rfl,e,ag,fun i u hu=>?_⟩,fun h=>(by cases h),f⟩;rw[gP];have au:i<l.length*1:=by have:=(k2.1 hu).1;rw[ag.len]at this;omega
  rw[←k,oZ,co au]at hu;simpa using hu
theorem aH7{P:Program}(base:Nat)(t ty e:TypeId)(i:TypeInfo)(size:Nat)(ai:P.underlying t=some (.slice e))(hi:P.info? e=some i) (v:Value)(n c:Nat)(aP:List Value)(a:w.ownsRow base e size v n aP): (Builtin.append_ #[t,t] ty #[v,.slice none 0 c]).run P w=.ok v w:=by
 rcases a.2 with⟨rfl,rfl⟩|⟨g,cap,d,rfl,_,_,b,_⟩
 simp[Builtin.append_,ae8 ai,sizeOf,typeInfo,hi,Builtin.lenOf,Builtin.firstCells];simp[Builtin.append_,ae8 ai,sizeOf,typeInfo,hi,Builtin.lenOf,Builtin.firstCells,b,storeCells]
section
variable {P:Program} (w:World)
theorem asx{o:Oper}{a:Act}{l:Act->World->Prop}{dY:Exit->Act->World->Prop}(s x:Operand)(t:TypeId) (p:o.op=.call {callee:=.builtin .append,args:=#[s,x],argTypes:=#[t,t]}) (base:Nat)(e:TypeId)(i:TypeInfo)(af:Value)(size bytes:Nat)(ai:P.underlying t=some (.slice e))(hi:P.info? e=some i)(r:i.zero=some af) (M:i.size=size)(G:i.bytes=bytes)(E:af.cells.size=size)(D:0<size) (v:Value)(n:Nat)(aP:List Value)(k:a.eval s=v)(d:w.ownsRow base e size v n aP) (va:Option Addr)(m c:Nat)(g8:List Value)(g:a.eval x=.slice va m c)(f:g8.length=m*size) (J:(∃ad,va=some ad/\∀(j:Nat) u,g8[j]? =some u->w.cell? (ad.add j)=some u)∨(va=none/\m=0))(H:∀u∈g8,u.oneCell'=true) (L:n+m<=maxLen)(K:(n+m)*bytes<=140737488355328)(F:base<=w.heap.size) (h:∀b w',w'.ownsRow base e size b (n+m) (aP++g8)->w.grownBy w' v.ownBlock->(b.ownBlock=v.ownBlock∨b.ownBlock=some w.heap.size)->l (a.put o.dst b) w'):o.wp P a w l dY:=by
 rcases J with⟨ad,rfl,q⟩|⟨rfl,rfl⟩
 ·obtain⟨b,w',y,I,z,N,B⟩:=run_append_own_at (P:=P) w base t o.type e i af size bytes ai hi r M G E D v n aP d ad m c g8 f q H L K F;unfold Oper.wp execOp;simp only[p,resolve,invoke,builtin,eZ,fJ,eW,Wv,qO,ID,k,g,y];exact h b w' I z B
 ·have A:g8=[]:=CW (by simpa using f);subst A;have C:=aH7 (P:=P) (w:=w) base t o.type e i size ai hi v n c aP d;unfold Oper.wp execOp;simp only[p,resolve,invoke,builtin,eZ,fJ,eW,Wv,qO,ID,k,g,C];exact h v w (by simpa using d) ⟨rfl,rfl,rfl,aZ _,fun _ _ _=>rfl⟩ (.inl rfl)
theorem aLI{ops:Array Oper}{rest:List Oper}{o:Oper}{a:Act}{dY:Exit->Act->World->Prop}(C:o.guard=none)(s x:Operand)(t:TypeId)
  (q:o.op=.call {callee:=.builtin .append,args:=#[s,x],argTypes:=#[t,t]})
  (base:Nat)(e:TypeId)(i:TypeInfo)(af:Value)(size bytes:Nat)(ai:P.underlying t=some (.slice e))(hi:P.info? e=some i)(k:i.zero=some af)
  (G:i.size=size)(D:i.bytes=bytes)(A:af.cells.size=size)(z:0<size)
  (v:Value)(n:Nat)(aP:List Value)(g:a.eval s=v)(y:w.ownsRow base e size v n aP)
  (va:Option Addr)(m c:Nat)(g8:List Value)(f:a.eval x=.slice va m c)(d:g8.length=m*size)
  (J:(∃ad,va=some ad/\∀(j:Nat) u,g8[j]? =some u->w.cell? (ad.add j)=some u)∨(va=none/\m=0))(H:∀u∈g8,u.oneCell'=true)
  (F:n+m<=maxLen)(E:(n+m)*bytes<=140737488355328)(B:base<=w.heap.size)
  (h:∀b w',w'.ownsRow base e size b (n+m) (aP++g8)->w.grownBy w' v.ownBlock->(b.ownBlock=v.ownBlock∨b.ownBlock=some w.heap.size)->wpList P ops dY rest (a.put o.dst b) w'):wpList P ops dY (o::rest) a w:=
 ae9 C fun _ r=>asx w s x t q base e i af size bytes ai hi k G D A z v n aP g y va m c g8 f d J H F E B fun b w' I p l=>r _ _ (h b w' I p l)
theorem aJD{ops:Array Oper}{o:Oper}{a:Act}{d:Act->World->Prop}{dY:Exit->Act->World->Prop}{E:Prop}(B:o.guard=none)(s x:Operand)(t:TypeId) (p:o.op=.call {callee:=.builtin .append,args:=#[s,x],argTypes:=#[t,t]}) (base:Nat)(e:TypeId)(i:TypeInfo)(af:Value)(size bytes:Nat)(ai:P.underlying t=some (.slice e))(hi:P.info? e=some i)(l:i.zero=some af) (G:i.size=size)(C:i.bytes=bytes)(z:af.cells.size=size)(r:0<size) (v:Value)(n:Nat)(aP:List Value)(k:a.eval s=v)(q:w.ownsRow base e size v n aP) (va:Option Addr)(m c:Nat)(g8:List Value)(g:a.eval x=.slice va m c)(f:g8.length=m*size) (J:(∃ad,va=some ad/\∀(j:Nat) u,g8[j]? =some u->w.cell? (ad.add j)=some u)∨(va=none/\m=0))(H:∀u∈g8,u.oneCell'=true) (F:n+m<=maxLen)(D:(n+m)*bytes<=140737488355328)(A:base<=w.heap.size) (h:∀b w',w'.ownsRow base e size b (n+m) (aP++g8)->w.grownBy w' v.ownBlock->(b.ownBlock=v.ownBlock∨b.ownBlock=some w.heap.size)->d (a.put o.dst b) w'): if Region.wanted o (yielded ops a.tmps)=true then Oper.wp P o a w d dY else E:=by
 have y:Region.wanted o (yielded ops a.tmps)=true:=by simp[Region.wanted,B]
 rw[co y];exact asx w s x t p base e i af size bytes ai hi l G C z r v n aP k q va m c g8 g f J H F D A h
theorem arT{d:Option Tmp}{ops:Array Oper}{o:Oper}{a:Act}{f:Act->World->Prop}{dY:Exit->Act->World->Prop}{E:Prop}(hd:o.dst=d)(B:o.guard=none)(s x:Operand)(t:TypeId) (q:o.op=.call {callee:=.builtin .append,args:=#[s,x],argTypes:=#[t,t]}) (base:Nat)(e:TypeId)(i:TypeInfo)(af:Value)(size bytes:Nat)(ai:P.underlying t=some (.slice e))(hi:P.info? e=some i)(p:i.zero=some af) (G:i.size=size)(C:i.bytes=bytes)(z:af.cells.size=size)(y:0<size) (v:Value)(n:Nat)(aP:List Value)(l:a.eval s=v)(r:w.ownsRow base e size v n aP) (va:Option Addr)(m c:Nat)(g8:List Value)(k:a.eval x=.slice va m c)(g:g8.length=m*size) (J:(∃ad,va=some ad/\∀(j:Nat) u,g8[j]? =some u->w.cell? (ad.add j)=some u)∨(va=none/\m=0))(H:∀u∈g8,u.oneCell'=true) (F:n+m<=maxLen)(D:(n+m)*bytes<=140737488355328)(A:base<=w.heap.size) (h:∀b w',w'.ownsRow base e size b (n+m) (aP++g8)->w.grownBy w' v.ownBlock->(b.ownBlock=v.ownBlock∨b.ownBlock=some w.heap.size)->f (a.put d b) w'): if Region.wanted o (yielded ops a.tmps)=true then Oper.wp P o a w f dY else E:=by
 subst hd;exact aJD w B s x t q base e i af size bytes ai hi p G C z y v n aP l r va m c g8 k g J H F D A h
variable{ops:Array Oper}{o:Oper}{a:Act}{E:Prop}
theorem ad0{d:Option Tmp}{b:Act->World->Prop}{dY:Exit->Act->World->Prop}(hd:o.dst=d)(F:o.guard=none)(s x:Operand)(t:TypeId) (z:o.op=.call {callee:=.builtin .append,args:=#[s,x],argTypes:=#[t,t]}) (base:Nat)(e:TypeId)(i:TypeInfo)(af:Value)(size bytes:Nat)(ai:P.underlying t=some (.slice e))(hi:P.info? e=some i)(q:i.zero=some af) (K:i.size=size)(G:i.bytes=bytes)(C:af.cells.size=size)(B:0<size) (v:Value)(n:Nat)(aP:List Value)(p:a.eval s=v)(A:w.ownsRow base e size v n aP) (ad:Addr)(m c:Nat)(g8:List Value)(l:a.eval x=.slice (some ad) m c)(k:g8.length=m*size)(f:∀j u,g8[j]? =some u->w.cell? (ad.add j)=some u)(H:∀u∈g8,u.oneCell'=true) (r:0<m)(J:n+m<=maxLen)(I:(n+m)*bytes<=140737488355328)(D:base<=w.heap.size)(aw:Nat)(y:w.heap.size=aw) (h:∀g cap w',w'.ownsRow base e size (.slice (some ⟨g,0,none⟩) (n+m) cap) (n+m) (aP++g8)->w.grownBy w' v.ownBlock->(v.ownBlock=some g∨g=aw)->g<w'.heap.size->b (a.put d (.slice (some ⟨g,0,none⟩) (n+m) cap)) w'): if Region.wanted o (yielded ops a.tmps)=true then Oper.wp P o a w b dY else E:=by
 subst hd;exact LJ w F s x t z base e i af size bytes ai hi q K G C B v n aP p A ad m c g8 l k f H r J I D aw y h
end
def Jj(w:World)(bL d:Nat)(Z:Nat->Nat)(c:Nat->Nat->List (List Int)):Prop:=
 bL<w.heap.size/\∃(b f:Nat) (b2:Nat->Nat),w.cell? ⟨bL,6,none⟩=some (.slice (some ⟨b,0,none⟩) d f)/\b<w.heap.size/\∀a,a<d->b2 a<w.heap.size/\w.cell? ⟨b,a,none⟩=some (.slice (some ⟨b2 a,0,none⟩) (Z a) (Z a))/\
  ∀i,i<Z a->∃va e,w.cell? ⟨b2 a,i,none⟩=some (.slice va (c a i).length e)/\rI w va (c a i)
theorem Jj.K{bL d:Nat}{Z:Nat->Nat}{c:Nat->Nat->List (List Int)}(h:Jj w bL d Z c)(A:β w w'):Jj w' bL d Z c:=by
 obtain⟨ae,g,n,b2,H,I,e⟩:=h;refine⟨cS A ae,g,n,b2,az A ae H,cS A I,fun a aH=>?_⟩;obtain⟨b,f,l⟩:=e a aH;refine⟨cS A b,az A I f,fun i hi=>?_⟩;obtain⟨va,j,k,m⟩:=l i hi;exact⟨va,j,az A b k,m.K A⟩
end Go.bh
namespace Go.bh
open Go Go.Proofs.Tryz Go.Proofs Go.RowKit Go.da
theorem aqk{a:Type}(F:Nat->List a)(l:List a)(n:Nat)(H:1<=n)(b:l.length<=(F n).length):∀N,n<=N->((List.range' 1 (n-1)).flatMap F++l).length<=((List.range' 1 N).flatMap F).length
 |0,h=>by omega
 |N+1,h=>by
  rw[aeN,Iz]
  by_cases e:n<=N
  ·have:=aqk F l n H b N e
   simp only[ia]at*
   omega
  ·obtain rfl:n=N+1:=z
   rw[Bo,Rm,sf,Rt,tl 1 N]
   simp only[ia]
   omega
theorem aGV{a:Type}(F:Nat->List a)(n:Nat)(H:1<=n):(List.range' 1 (n-1)).flatMap F++F n=(List.range' 1 (n+1-1)).flatMap F:=by
 obtain⟨m,rfl⟩:∃m,n=m+1:=⟨n-1,z⟩;rw[Rt,Rt,aeN,Iz,Bo,Rm,sf,tl 1 m]
theorem aJ4{b c:Type}(a:b->List c)(l:List b)(k:Nat)(d:k<l):(l.take k).flatMap a++a l[k]=(l.take (k+1)).flatMap a:=by
 rw[p9 d,Iz,Bo,Rm,sf]
theorem aJ3{b c:Type}(a:b->List c)(l:List b)(k:Nat):((l.take k).flatMap a).length<=(l.flatMap a).length:=by
 conv=>rhs;rw[←CZ k l]
 rw[Iz,ia];omega
variable{w:World}{n cap:Nat}
theorem aH0{base:Nat}{e:TypeId}{size:Nat}{g k:Nat}{aP:List Value}(h:w.ownsRow base e size (.slice (some ⟨g,0,none⟩) n cap) k aP):base<=g:=by
 rcases h.2 with⟨aj,_⟩|⟨c,d,b,aj,a,_⟩
 cases aj;cases aj;exact a
theorem ans{base g:Nat}{l:List Int}(h:w.ownsRow base 3 1 (.slice (some ⟨g,0,none⟩) n cap) n (gF l))(a:l.length=n):pC w (some ⟨g,0,none⟩) l/\l.length<=cap:=by
 obtain⟨k,m,d,aj,f,b,c,j,e⟩:=ul h ao;cases aj;subst a;refine⟨fun _=>⟨g,0,d,(0,0),rfl,b,fun i hi=>?_⟩,c⟩;have:=e i z;rw[gF,n4,jU hi]at this;rw[gP];exact this
theorem UD{W:World}{c:Option Addr}{q:List Int}(h:pC W c q)(ae:0<q.length):∃a b,c=some ⟨a,b,none⟩/\∀X,β W X->∀(j:Nat) u,(gF q)[j]? =some u->X.cell? (Addr.add ⟨a,b,none⟩ j)=some u:=by
 obtain⟨a,b,e,f,d⟩:=h.kC ae;refine⟨a,b,e,fun X g j u hu=>?_⟩;have:=U_ (w:=X) (pb:=a) (po:=b) (p:=q) (fun i hi=>(g.cell f).trans (d i hi)) 0 q.length j u (by rw[LM,tk];exact hu)
 rwa [h7]at this
structure sp (W wr:World) (v:Value) (l:List (List Int)):Prop where
 row:∃bN,wr.ownsRow W.heap.size 22 1 v l.length bN/\kB wr bN l
 b:β W wr
variable{W wr:World}{v:Value}{l:List (List Int)}
theorem sp.K{w':World}(h:sp W wr v l)(A:β wr w'):sp W w' v l:=by
 obtain⟨a,H,I⟩:=h.row;exact⟨⟨a,AY H A,I.K A⟩,cj h.b A⟩
def XV(l:List (List Int))(e:Ending)(w':World):Prop:=∃va a,e=.returned (.slice va l.length a)/\rI w' va l/\(va=none->l=[]/\a=0)/\l.length<=a
theorem sp.ret(h:sp W wr v l):XV l (.returned v) wr:=by
 obtain⟨f,H,I⟩:=h.row;obtain⟨va,d,e,b,a,c⟩:=aqo H I rfl;exact⟨va,d,by rw[e],b,a,c⟩
theorem sp.start(W wr:World)(A:β W wr):sp W wr (.slice none 0 0) []:=⟨⟨[],mT _ _ _ _,g'⟩,A⟩
theorem sp.next{c:World}{v5:Value}{m:List (List Int)}{a zs:List Value}(H:wr.ownsRow W 22 1 v l a)(I:kB wr a l)(e:kB wr zs m)(A:β W wr)(f:c.ownsRow W 22 1 v5 (l.length+m.length) (a++zs))(an:wr.grownBy c v.ownBlock):sp W c v5 (l++m):=
 ⟨⟨a++zs,by rw[ia];exact f,(I.kept (Hd H an)).Jp (e.kept (Hd H an))⟩,A.grown an A.size fun g d=>by
  rcases x1 g W with b|b
  ·exact absurd d.symm (y0 H b)
  ·exact b⟩
attribute [local irreducible] wpStill wpAnyH in
theorem aHV(bL eq:Nat)(Z:Nat->Nat)(f:Nat->Nat->List (List Int))(X6:World)(cM:Jj X6 bL eq Z f)(C:So 144 f)(xe:∀a,Z a<=6)(aC:∀a i,∀q∈f a i,1<=q.length/\q.length<=100):∀(args:List Nat),(∀a∈args,a<eq)->args.length<=3->∀(b:List Int) (m O ac:Nat) (X aR:Option Addr) (W:World),β X6 W->pC W X b->1<=b.length->b.length+100*args.length<=1000->b.length<=O->qU W aR args->args.length<=ac->m<=4-> χ 287 #[.pointer (some ⟨bL,0,none⟩),.slice X b.length O,.slice aR args.length ac,.int .i64 m] W (XV (kG f Z b args m)):=by
 intro args;induction args with
 |nil=>
  intro _ _ b m O ac X aR W L A aS iX lD cL jw ap;by_cases ae:m=0
  ·subst ae;have dh:=G A;clear A cL cM;go_enter func287,ntmps287
   go_wp2;go_ret;have jZ:β W (W.alloc (.cells #[.slice X b.length O] 22)):=(br _ _).alloc (aZ _) _;exact⟨⟨some ⟨W.heap.size,0,none⟩,1,rfl,fun _=>⟨W.heap.size,0,_,_,[.slice X b.length O],rfl,cW W _,⟨⟨X,O,rfl,dh.out.K jZ⟩,g'⟩,fun i u hu=>by
    cases i with
    |zero=>simpa using hu
    |succ i=>simp at hu⟩,fun h=>(by cases h),aZ _⟩,jZ⟩
  ·have dC:((m:Int)==0)=false:=by rw[lp];omega
   have aj:¬(m:Int)=0:=z;have U:kG f Z b [] m=[]:=by unfold kG;rw[bs ae]
   rw[U];clear A cL cM;go_enter func287,ntmps287
   go_wp2;go_ret;exact⟨⟨none,0,rfl,fun h=>by simp at h,fun _=>⟨rfl,rfl⟩,aZ _⟩,br _ _⟩
 |cons a r qi=>
  intro has oK b m O ac X aR W L A aS iX lD cL jw ap;obtain⟨V,M,rfl,jl,oL⟩:=cL ao;have pA:=oL 0 ao;rw[Bp,h7]at pA;have Ka:a<eq:=has a (qP ..);obtain⟨aT,cb,hj,b2,bj,D7,eJ⟩:=cM;obtain⟨ax,bk,aJ⟩:=eJ a Ka;have aA:=az L aT bj;have Bx:=az L D7 bk;have ke:bL<W.heap.size:=cS L aT;have kD:cb<W.heap.size:=cS L D7;have ph:b2 a<W.heap.size:=cS L ax;rw[l7]at*;obtain⟨N,ec⟩:∃N,N=min (m-r.length) (Z a-1):=⟨_,rfl⟩;have bB:=xe a;obtain⟨F,b_⟩:∃F:Nat->List (List Int),F=fun n=>(f a n).flatMap fun q=>kG f Z (b++q) r (m-n):=⟨_,rfl⟩;have aM:kG f Z b (a::r) m=(List.range' 1 N).flatMap F:=by rw[ec,b_];rfl
  have de:=acb (Z:=Z) ak C (a::r) b m;rw[aM]at de⊢;have aL:((List.range' 1 N).flatMap F).length<=6879707136:=cO de (by
   have H:(2:Nat)^m<=2^4:=kO z ap
   have I:(144:Nat)^m<=144^4:=kO z ap
   exact zv H I)
  have bp:=G aL;have bn:=G C;have dh:=G A;have bf:=G oL;have bh:=G aJ;have RU:=G qi;have aD:=G L;have be:=G has;have lP:=G aC;have BB:=G b_;have bu:=G ec;have bF:N<=m-r.length:=z;have bA:N<=Z a-1:=z;clear ec;clear de aL A oL aJ qi L has aC eJ C cL aM b_;go_enter func287,ntmps287
  go_wp2;go_loopw [9,10] (fun v i wr=>∃n:Nat,1<=n/\n<=N+1/\i=.int .i64 n/\sp W wr v ((List.range' 1 (n-1)).flatMap F)) (fun _ i _=>N+1-(RowKit.intOf i).toNat);case atStart=>exact⟨1,z,z,rfl,sp.start _ _ (br _ _)⟩
  case round=>
   obtain⟨n,qv,bD,rfl,y⟩:=hrel;have B:=y.b;have K:=B.drew;have Q:wr.drew.cell? ⟨bL,6,none⟩=_:=(B.cell ke).trans aA;have R:wr.drew.cell? ⟨V,M,none⟩=_:=(B.cell jl).trans pA;have T:wr.drew.cell? ⟨cb,a,none⟩=_:=(B.cell kD).trans Bx;have mP:(0:Int)<=(a:Int):=z;have lF:(a:Int)<eq:=z;have oS:(m:Int)<=4:=z;have Cu:(r.length:Int)+1<=3:=z;have AT:(Z a:Int)<=6:=z;have Ha:(n:Int)<=7:=z;have s6:IntKind.i64.wrap (r.length:Int)=r.length:=pw _ ⟨z,z⟩;have bH:IntKind.i64.wrap ((m:Int)-(r.length:Int))=(m:Int)-(r.length:Int):=pw _ ⟨z,z⟩;by_cases dK:n<=N
   ·have eD:(n:Int)<=(m:Int)-(r.length:Int):=z;have e':decide ((n:Int)<=(m:Int)-(r.length:Int))=true:=bz;have hw:decide ((n:Int)<(Z a:Int))=true:=bz
    go_wp2;refine uH av av ?_;change wpStill _ _ wr.drew (fun a'=>Exit.then _ _ Exit.normal a' wr.drew) _ _;have s:=y.K ((br _ _).drew);clear y;generalize wr.drew=am at*;repeat still_step
    refine rB ?_;have j6:n<Z a:=z;have ma:decide (n<Z a)=true:=bz;rw[ma];obtain⟨va,ct,ay,e1⟩:=bh.out n j6;have Bw:=az aD.out ax ay;obtain⟨pre,jo⟩:∃pre:List (List Int),(List.range' 1 (n-1)).flatMap F=pre:=⟨_,rfl⟩;rw[jo]at s;have aE:=G jo;clear jo Q R T ay;have yE:(f a n).length<=429981696:=cO ((bn.out) a n) (by
     have I:(144:Nat)^n<=144^4:=kO z z
     exact I)
    go_wp2;go_loopw [9,11] (fun v i wr=>∃k:Nat,k<=(f a n).length/\i=.int .i64 k/\sp W wr v (pre++((f a n).take k).flatMap fun q=>kG f Z (b++q) r (m-n))) (fun _ i _=>(f a n).length-(RowKit.intOf i).toNat);case atStart=>exact⟨0,dx _,rfl,by simpa using s⟩
    case round=>
     clear s K B;obtain⟨k,bw,rfl,y⟩:=hrel;have B:=y.b;have K:=B.drew;have Q:wr.drew.cell? ⟨bL,6,none⟩=_:=(B.cell ke).trans aA;have R:wr.drew.cell? ⟨V,M,none⟩=_:=(B.cell jl).trans pA;have T:wr.drew.cell? ⟨cb,a,none⟩=_:=(B.cell kD).trans Bx;have L6:wr.drew.cell? ⟨b2 a,n,none⟩=_:=(B.cell ph).trans Bw;have b4:(0:Int)<=(n:Int):=z;have dF:(n:Int)<(Z a:Int):=z;have gL:((f a n).length:Int)<=429981696:=z;by_cases au:k<(f a n).length
     ·have aF:decide ((k:Int)<((f a n).length:Int))=true:=bz;have bq:decide (k<(f a n).length)=true:=bz
      go_wp2;refine uH av av ?_;change wpStill _ _ wr.drew (fun a'=>Exit.then _ _ Exit.normal a' wr.drew) _ _;have s:=y.K ((br _ _).drew);clear y B;generalize wr.drew=t at*;repeat still_step
      refine rB ?_;try rw[bq]
      have sN:=cj aD.out K;obtain⟨l5,rx,rfl,aU,Cs⟩:=e1.cell z;obtain⟨v0,WO,dD,ep,rfl,GC⟩:=Cs k au;have aQ:=lP.out a n _ (fP au);obtain⟨q,aP⟩:∃q,(f a n)[k]=q:=⟨_,rfl⟩;rw[aP]at WO GC aQ;obtain⟨hM,nQ⟩:=aQ;obtain⟨vS,xE,rfl,Kr⟩:=UD GC z;obtain⟨cV,l',rfl,hy⟩:=UD dh.out z;have bt:=G Kr;have R0:=G hy;have L9:=az sN aU WO;have al:bL<t.heap.size:=cS K ke;have OB:V<t.heap.size:=cS K jl;have T1:cb<t.heap.size:=cS K kD;have aa:b2 a<t.heap.size:=cS K ph;have aw:l5<t.heap.size:=cS sN aU;have s8:(0:Int)<=(k:Int):=z;have Cv:(k:Int)<((f a n).length:Int):=z;have bc:(gF b).length=b.length*1:=by rw[If,tm]
      have bb:(gF q).length=q.length*1:=by rw[If,tm]
      obtain⟨ug,tZ,mf,mH,mI⟩:=im Ek;clear Cs GC WO Kr hy
      go_wp2;have kl:β t t.drew:=(br _ _).drew;refine CV (S:=(fun W=>W.cell? ⟨bL,6,none⟩=some (.slice (some ⟨cb,0,none⟩) eq hj)/\W.cell? ⟨V,M,none⟩=some (.int .i64 a)/\W.cell? ⟨cb,a,none⟩=some (.slice (some ⟨b2 a,0,none⟩) (Z a) (Z a))/\W.cell? ⟨b2 a,n,none⟩=some (.slice (some ⟨l5,rx,none⟩) (f a n).length ct)/\W.cell? ⟨l5,rx+k,none⟩=some (.slice (some ⟨vS,xE,none⟩) q.length ep))) av ⟨Q,R,T,L6,L9⟩ (fun yu=>?_);refine ci 1 61 ?_;refine ci 3 63 ?_;refine ci 4 64 ?_;refine ci 5 65 ?_;refine ci 6 66 ?_;refine ci 7 67 ?_;refine ci 8 68 ?_;refine ci 9 69 ?_;refine ci 10 70 ?_;refine ci 11 71 ?_;refine ci 12 72 ?_;refine ci 13 73 ?_;refine ci 14 74 ?_;refine ci 15 75 ?_;refine ci 16 76 ?_;refine ci 17 77 ?_;refine oU 0 (fun bE C=>?_);go_simp;have D:=kl.alloc (aZ _) (.cells #[] 3);have x4:=Mg t.drew t.heap.size 3 1 (aZ _);refine C.out _ _ ⟨(D.cell al).trans Q,(D.cell OB).trans R,(D.cell T1).trans T,(D.cell aa).trans L6,(D.cell aw).trans L9⟩ (fun j_=>?_);clear C bE;refine h_ ?_;refine oU 2 (fun bE C=>?_);refine ad0 (d:=some 62) _ rfl rfl _ _ 22 rfl t.heap.size 3 ug _ 1 8 oY tZ mf mH mI rfl ak (.slice (some ⟨t.heap.size,0,none⟩) 0 0) 0 [] rfl x4 ⟨cV,l',none⟩ b.length O (gF b) rfl bc (R0.out _ (cj K D)) (Ig _) aS (by unfold maxLen;omega) z D.size _ rfl ?_;intro aX bv a_ nP vz _ nf;rw[gP,zt]at nP;have E:=D.grown vz D.size (fun g an=>by simp[Value.ownBlock]at an;subst an;exact aZ _);refine C.out _ _ ⟨(E.cell al).trans Q,(E.cell OB).trans R,(E.cell T1).trans T,(E.cell aa).trans L6,(E.cell aw).trans L9⟩ (fun j_=>?_);clear C bE;refine h_ ?_;refine oU 18 (fun bE C=>?_);refine ad0 (d:=some 78) _ rfl rfl _ _ 22 rfl t.heap.size 3 ug _ 1 8 oY tZ mf mH mI rfl ak (.slice (some ⟨aX,0,none⟩) (0+b.length) bv) b.length (gF b) rfl (by rw[gP];exact nP) ⟨vS,xE,none⟩ q.length ep (gF q) rfl bb (bt.out _ (cj sN E)) (Ig _) hM (by unfold maxLen;omega) z E.size _ rfl ?_;intro ba rR bi aN aK _ bd;have iL:=E.grown aK E.size (fun g an=>by simp[Value.ownBlock]at an;subst an;exact aH0 nP);refine C.out _ _ ⟨(iL.cell al).trans Q,(iL.cell OB).trans R,(iL.cell T1).trans T,(iL.cell aa).trans L6,(iL.cell aw).trans L9⟩ (fun j_=>?_);clear C bE;refine h_ ?_;refine ci 19 12 ?_;refine Fp av ?_ _;have af:=s.K (iL);have ag:=(ans (l:=b++q) (by rw[aso];exact aN) (by rw[ia]));clear Q R T L6 L9 yu j_ nP vz aN aK D x4 E s nf bd;have dm:=cj K iL;have aY:=cj sN iL;obtain⟨hS,bx,Oz⟩:∃hS,(if ac=1 then some (⟨V,M,none⟩:Addr)else some ⟨V,M+1,none⟩)=hS/\qU W hS r:=by
       by_cases H:ac=1
       ·exact⟨_,co H,fun ae=>z⟩
       ·refine⟨_,bs H,fun _=>⟨V,M+1,rfl,jl,fun i hi=>?_⟩⟩;have:=bf.out (i+1) (by rw[l7];omega);rw[IA]at this;rw[show M+1+i=M+(i+1) by omega];exact this
      obtain⟨sb,kX⟩:∃sb,kG f Z (b++q) r (m-n)=sb:=⟨_,rfl⟩;have hY:=RU.out (fun x aW=>be.out x (jD _ aW)) z (b++q) (m-n) rR (ac-1) (some ⟨ba,0,none⟩) hS bi aY ag.1 (by rw[ia];omega) (by rw[ia];omega) ag.2 (Oz.K dm) z z;rw[kX,show((m-n:Nat):Int)=(m:Int)-(n:Int) by omega,ia]at hY;have e2:=aJ4 (fun q=>kG f Z (b++q) r (m-n)) (f a n) k au;rw[aP,kX]at e2;have ah:(pre++((f a n).take (k+1)).flatMap fun q=>kG f Z (b++q) r (m-n)).length<=6879707136:=cO (by
       rw[←aE.out]
       exact aqk F _ n qv (by rw[BB.out];exact aJ3 _ _ _) N dK) bp.out
      rw[←e2,←Ix]at ah;have Xz:=G e2;obtain⟨aV,ai⟩:∃aV,(pre++((f a n).take k).flatMap fun q=>kG f Z (b++q) r (m-n))=aV:=⟨_,rfl⟩;rw[ai]at ah af;rw[ia]at ah;have bl:=G ai;have bo:=G hY;have bC:=G kX;obtain⟨xt,xi,kc,hE,h0⟩:=im Pr;have gp:((m:Int)-(n:Int))<=4:=z;have iI:(n:Int)<=(m:Int):=z;have nU:(1:Int)<=(ac:Int):=z;have PL:(r.length:Int)+1<=(ac:Int):=z;clear e2 ai hY kX Oz ag
      go_wp2_with (first
       |(have _:=iu;at_builtin;refine aLI _ rfl _ _ 23 rfl W.heap.size 22 xt _ 1 24 Is xi kc hE h0 rfl ak _ _ bN rfl r5 EG sb.length Le zs rfl (by rw[h2.len,tm]) J h2.xy (by unfold maxLen;omega) z aO.size ?_;intro ms dc r3 mL _)
       |(go_at_call 287;refine bo.out.mono ?_;rintro e w7 ⟨⟨EG,Le,rfl,Pf,vE,kE⟩,iu⟩;obtain⟨bN,r5,Ef⟩:=(af.K iu).row;have aO:=(af.K iu).b;obtain⟨zs,h2,KA⟩:=Pf.g8 (fun h=>(vE h).1);have J:(∃ad,EG=some ad/\∀(j:Nat) u,zs[j]? =some u->w7.cell? (ad.add j)=some u)∨(EG=none/\sb.length=0):=(by rcases KA with h|⟨H,I⟩;exact .inl h;exact .inr ⟨H,by rw[I];rfl⟩)))
      exact⟨⟨k+1,z,bG,by rw[←Xz.out,←Ix,bl.out];exact sp.next r5 Ef h2 aO r3 mL⟩,by simp[RowKit.intOf];omega⟩
     ·obtain rfl:k=(f a n).length:=z;have aF:decide (((f a n).length:Int)<((f a n).length:Int))=false:=ao;have bq:decide ((f a n).length<(f a n).length)=false:=ao
      go_wp2;refine uH av av ?_;change wpStill _ _ wr.drew (fun a'=>Exit.then _ _ Exit.normal a' wr.drew) _ _;have s:=y.K ((br _ _).drew);clear y B;generalize wr.drew=t at*;repeat still_step
      refine rB ?_;try rw[bq]
      have aG:sp W t u9 ((List.range' 1 (n+1-1)).flatMap F):=by rw[←aGV F n qv,aE.out,BB.out];rw[tk]at s;exact s
      clear s
      go_wp2;go_roundw;case rel=>first|exact⟨n+1,z,z,bG,aG⟩|((repeat apply Exists.intro);refine⟨?_,rfl⟩;exact⟨n+1,z,z,bG,aG⟩)
      case measure=>simp[RowKit.intOf];omega
   ·obtain rfl:n=N+1:=z;rw[Rt]at y;have aI:=bu.out;by_cases H:N+1<=m-r.length
    ·have eD:((N+1:Nat):Int)<=(m:Int)-(r.length:Int):=z;have e':decide (((N+1:Nat):Int)<=(m:Int)-(r.length:Int))=true:=bz;have DD:decide ((N:Int)+1<=(m:Int)-(r.length:Int))=true:=bz;have hw:decide (((N+1:Nat):Int)<(Z a:Int))=false:=bz;have j6:decide (N+1<Z a)=false:=bz;have pJ:decide ((N:Int)+1<(Z a:Int))=false:=bz;clear aI
     go_wp2;refine uH av av ?_;change wpStill _ _ wr.drew (fun a'=>Exit.then _ _ Exit.normal a' wr.drew) _ _;have s:=y.K ((br _ _).drew);clear y;generalize wr.drew=am at*;repeat still_step
     refine rB ?_;try rw[j6]
     go_wp2;go_ret;exact⟨s.ret,s.b⟩
    ·have e':decide (((N+1:Nat):Int)<=(m:Int)-(r.length:Int))=false:=bz;have DD:decide ((N:Int)+1<=(m:Int)-(r.length:Int))=false:=bz;clear aI
     go_wp2;refine uH av av ?_;change wpStill _ _ wr.drew (fun a'=>Exit.then _ _ Exit.normal a' wr.drew) _ _;have s:=y.K ((br _ _).drew);clear y;generalize wr.drew=am at*;repeat still_step
     refine rB ?_
     go_wp2;go_ret;exact⟨s.ret,s.b⟩
end Go.bh
namespace Go.bS
open Go Go.Proofs Go.RowKit Go.da Go.bh
def C4(rs:List bA):List Nat->List (List Int)->Prop
 |[],[]=>True
 |s::ss,a::cs=>gm rs [s] a=some a.length/\C4 rs ss cs
 |_,_=>False
theorem C4.len{rs:List bA}:∀{ss:List Nat} {cs:List (List Int)},C4 rs ss cs->cs.length=ss.length
 |[],[],_=>rfl
 |s::ss,a::cs,h=>by simp[C4.len h.2]
theorem C4.S4{rs:List bA}:∀{ss:List Nat} {cs:List (List Int)} (_:C4 rs ss cs) (i:Nat) (H:i<ss) (I:i<cs),gm rs [ss[i]] cs[i]=some cs[i].length
 |s::ss,a::cs,h,0,_,_=>h.1
 |s::ss,a::cs,h,i+1,H,I=>h.2.S4 i (by simpa using H) (by simpa using I)
theorem ai5(rs:List bA):∀(ss:List Nat) (q:List Int),gm rs ss q=some q.length->∃cs,C4 rs ss cs/\q=cs.flatten
 |[],q,h=>by
  rw[DE]at h
  have:q=[]:=LQ.1 (by injection h with h;exact h.symm)
  exact⟨[],g',by rw[this];rfl⟩
 |s::ss,q,h=>by
  have H:=NV rs q [s] ss
  rw[as8,h]at H
  cases a:gm rs [s] q with
  |none=>rw[a]at H;cases H
  |some n=>
   rw[a,C1]at H
   cases b:gm rs ss (q.drop n)with
   |none=>rw[b]at H;cases H
   |some m=>
    rw[b,n6]at H
    injection H with H
    have d:=NY rs _ _ _ a
    have hd:(q.drop n).length=m:=by rw[qN];omega
    obtain⟨cs,I,c⟩:=ai5 rs ss (q.drop n) (by rw[b,hd])
    refine⟨q.take n::cs,⟨?_,I⟩,?_⟩
    ·rw[Zk rs _ _ _ a,nu];congr 1;omega
    ·rw[as0,←c,CZ]
def off(cs:List (List Int))(k:Nat):Nat:=(cs.take k).flatten.length
theorem aFz(cs:List (List Int)):off cs 0=0:=by simp[off]
theorem aFy(cs:List (List Int))(k:Nat)(a:k<cs):off cs (k+1)=off cs k+cs[k].length:=by
 rw[off,off,p9 a,afb,ia];simp
theorem apx(cs:List (List Int))(k:Nat)(a:k<cs):cs.flatten.drop (off cs k)=cs[k]++(cs.drop (k+1)).flatten:=by
 conv=>lhs;rw[←CZ k cs,afb]
 rw[CZ,off,List.drop_left,Iy a,as0]
theorem apy(cs:List (List Int))(k:Nat)(a:k<cs.length):off cs k+cs[k].length<=cs.flatten.length:=by
 have h:=hU List.length (apx cs k a);rw[qN,ia]at h;have I:off cs k<=cs.flatten.length:=by
  conv=>rhs;rw[←CZ k cs,afb,ia]
  unfold off;omega
 omega
def MM(w:World)(va:Option Addr)(l:List (List Int)):Prop:=0<l.length->∃b o,va=some ⟨b,o,none⟩/\b<w.heap.size/\∀i (hi:i<l.length),∃a c,w.cell? ⟨b,o+i,none⟩=some (.slice a l[i].length c)/\pC w a l[i]/\l[i].length<=c
variable{w':World}{l:List (List Int)}
theorem MM.K{w:World}{va:Option Addr}(h:MM w va l)(A:β w w'):MM w' va l:=fun ae=>by
 obtain⟨b,o,e,a,c⟩:=h ae
 refine⟨b,o,e,cS A a,fun i hi=>?_⟩
 obtain⟨f,g,H,I,d⟩:=c i hi
 exact⟨f,g,by rw[A.cell a];exact H,I.K A,d⟩
def WP(b:List Value):Prop:=∀v∈b,∀a l c,v=Value.slice a l c->l<=c
structure wP (W wr:World) (v:Value) (l:List (List Int)):Prop where
 row:∃bN,wr.ownsRow W.heap.size 22 1 v l.length bN/\kB wr bN l/\WP bN
 b:β W wr
variable{W wr:World}{v:Value}
theorem wP.K(h:wP W wr v l)(A:β wr w'):wP W w' v l:=by
 obtain⟨b,H,I,a⟩:=h.row;exact⟨⟨b,AY H A,I.K A,a⟩,cj h.b A⟩
theorem wP.start(W wr:World)(A:β W wr):wP W wr (.slice none 0 0) []:=⟨⟨[],mT _ _ _ _,g',fun v J=>by cases J⟩,A⟩
theorem wP.next{d:World}{v5:Value}{m:List (List Int)}{b zs:List Value}(H:wr.ownsRow W 22 1 v l b)(I:kB wr b l)(j:WP b)(f:kB wr zs m)(i:WP zs)(A:β W wr)(g:d.ownsRow W 22 1 v5 (l.length+m.length) (b++zs))(an:wr.grownBy d v.ownBlock):wP W d v5 (l++m):=by
 have h:=sp.next H I f A g an;exact⟨⟨b++zs,by rw[ia];exact g,(I.kept (Hd H an)).Jp (f.kept (Hd H an)),fun u hu a l c e=>by
  rcases lo.1 hu with hu|hu
  ·exact j u hu a l c e
  ·exact i u hu a l c e⟩,h.b⟩
theorem wP.parts(h:wP W wr v l):∃va f,v=.slice va l f/\MM wr va l:=by
 obtain⟨q,H,I,c⟩:=h.row;by_cases ae:v=.slice none 0 0
 ·subst ae;rcases H.2 with⟨_,o⟩|⟨g,cap,e,aj,_⟩
  exact⟨none,0,by rw[show l.length=0 by omega],fun s=>z⟩;cases aj
 obtain⟨g,cap,e,aj,n,a,r,t,m⟩:=ul H ae;refine⟨_,_,aj,fun _=>⟨g,0,rfl,c8 a,fun i hi=>?_⟩⟩;obtain⟨u,hu,j,k,rfl,d⟩:=I.kC i hi;have b:=m i z;rw[hu]at b;exact⟨j,k,by rw[gP];exact ly a b,d,c _ (CY hu) _ _ _ rfl⟩
end Go.bS
namespace Go.bS
open Go Go.Proofs.Tryz Go.Proofs Go.RowKit Go.da Go.bh
section
variable {S:cU} {M:Nat->Nat} {rs:List bA} {ca bd:Option Addr} {cc aW rb aE rc:Nat} {w:World}
def avE(cs:List (List Int))(e:Ending)(w':World):Prop:=∃va a,e=.returned (.tuple #[.slice va cs.length a,.bool true])/\MM w' va cs
attribute [local irreducible] wpStill in
theorem aJe(h:pB S M rs ca bd cc aW rb aE rc w)(aG:Option Addr)(d s k:Nat)(ad:k<rs)(cs:List (List Int))(hcut:C4 rs rs[k].args cs)(ag:lu w aG ((k:Int)::cs.flatten))(kt:cs.flatten.length+1<=d)(G2:cs.flatten.length<=99)(cM:Dt rs s ((k:Int)::cs.flatten)): χ 406 #[.agg (eg S rs ca bd cc aW rb aE rc),.slice aG (cs.flatten.length+1) d] w (avE cs):=by
 have ip:=G fun W (B:β w W)=>ar' (h.K B) aG d s _ (ag.K B) (by rw[l7];omega) cM;have eH:=G (aea (.string S.nm) S.db (.slice ca S.bw cc) (.slice bd S.aD aW) S.al rs rb aE rc aG d _ w h.r ag h.iD h.rq (by rw[l7];omega) (cs.flatten.length+1));have O:=hX.ee w (eg S rs ca bd cc aW rb aE rc);have FO:=G ag;obtain⟨pb,po,rfl,kW,om⟩:=ag ao;have j5:=om 0 ao;rw[Bp,h7]at j5;have aF:=G om;have G3:=h.r;obtain⟨ur,Lb,cg,iw,kE⟩:=G3;cases cg;obtain⟨aR,ac,T⟩:=kE k ad;have ej:=T.c3;have jG:=G T.args;have oK:=h.iD _ (fP ad);have IY:=G hcut;have ga:=hcut.len;have kf:(0:Int)<=(k:Int):=z;have mn:(k:Int)<rs.length:=z;have rf:0<(cs.flatten.length:Int)+1:=z;have aj:((k:Int)== -1)=false:=by simp<;>omega
 have vE:=h.rq;generalize mj:cs.flatten.length=f' at*;rw[l7,mj]at ip eH;have rF:=G mj;clear om h kE T cM hcut mj ag;go_enter func406,ntmps406;go_upto_region 2 with(go_at_call 289;refine(ip.out _ O.b).mono ?_;rintro e x ⟨rfl,aS⟩)
 have A:=O.K aS;have JC:=(A.b.cell kW).trans j5;have b8:=(A.b.cell iw).trans ej;clear O aS ip j5 ej;go_upto_region 6 with fail
 have eS:=A.JK;have JD:x.drew.cell? ⟨pb,po,none⟩=_:=JC;have cr:x.drew.cell? ⟨rb,aE+k*4+3,none⟩=_:=b8;refine uH av av ?_;change wpStill _ _ x.drew (fun a'=>Exit.then _ _ Exit.normal a' x.drew) _ _;clear A JC b8;generalize x.drew=aq at*;have y:=aK 4 eS.g;repeat still_step
 refine rB ?_;clear y JD cr
 go_wp2;generalize aH:rs[k].args=H at*;go_loopw [8,9,11] (fun v a i wr=>∃j:Nat,j<=cs.length/\a=.int .i64 ((1+off cs j:Nat):Int)/\i=.int .i64 (j:Nat)/\wP aq wr v (cs.take j)) (fun _ _ i _=>cs.length-(RowKit.intOf i).toNat);case atStart=>exact⟨0,dx _,by simp[aFz],rfl,by rw[List.take_zero];exact wP.start _ _ (br _ _)⟩
 case round=>
  obtain⟨j,aa,rfl,rfl,q⟩:=hrel;have bg:=q.b;have l:=eS.K bg;by_cases au:j<cs
  ·have nf:j<H.length:=z;obtain⟨E,eM,rfl,jl,oL⟩:=jG.out z;have I:=(l.b.cell jl).trans (oL j nf);have D:=IY.out.S4 j nf au;have R:=apx cs j au;have dK:=apy cs j au;rw[rF.out]at dK;have qy:=JN D;generalize ap:cs[j].length=m at*;have al:=fun W (B:β w W)=>eH.out (1+off cs j) H[j] m W z (by
    rw[tl 1,Wr,R]
    exact NW rs _ _ _ _ D) B
   have My:=G al;generalize H[j]=gr at*;have ld:off cs j<=99:=z;have pU:(0:Int)<=(j:Int):=z;have pV:(j:Int)<H.length:=z;have ay:=G R;have n7:=G D;have o:=G ap;clear oL R D al ap;generalize Z3:1+off cs j=c at*;obtain⟨Z,P,V,Y,y,f⟩:=f_ l.g;have hv:wr.drew.cell? ⟨w,0,none⟩=some (.string S.nm):=Z;have eD:wr.drew.cell? ⟨w,1,none⟩=some (.int .i64 S.db):=P;have e':wr.drew.cell? ⟨w,2,none⟩=some (.slice ca S.bw cc):=V;have hw:wr.drew.cell? ⟨w,3,none⟩=some (.slice bd S.aD aW):=Y;have j6:wr.drew.cell? ⟨w,4,none⟩=some (.slice (some ⟨rb,aE,none⟩) rs rc):=y;have ma:wr.drew.cell? ⟨w,5,none⟩=some (.int .i64 S.al):=f;have NH:wr.drew.cell? ⟨E,eM+j,none⟩=some (.int .i64 gr):=I;have aB:=G l;have K:=G q;have wM:=G (l.b.drew);clear q bg eS;have OB:E<wr.heap.size:=cS l.b jl;clear l;go_upto_region 10 with fail
   go_region_held3 (fun X=>X.cell? ⟨w,0,none⟩=some (.string S.nm)/\X.cell? ⟨w,1,none⟩=some (.int .i64 S.db)/\X.cell? ⟨w,2,none⟩=some (.slice ca S.bw cc)/\X.cell? ⟨w,3,none⟩=some (.slice bd S.aD aW)/\X.cell? ⟨w,4,none⟩=some (.slice (some ⟨rb,aE,none⟩) rs rc)/\X.cell? ⟨w,5,none⟩=some (.int .i64 S.al)/\X.cell? ⟨E,eM+j,none⟩=some (.int .i64 gr)) (first|with_reducible exact⟨Z,P,V,Y,y,f,I⟩|with_reducible exact⟨hv,eD,e',hw,j6,ma,NH⟩|with_reducible exact⟨u0,u1,u2,u3,u4,u5,u6⟩|go_keep) (first|(go_at_call 195;refine(My.out _ wM).mono ?_;rintro e n ⟨rfl,bu⟩;have C:=(lh wr).trans bu;have mY:=aB.out.K C;obtain⟨u0,u1,u2,u3,u4,u5⟩:=f_ mY.g;have u6:n.cell? ⟨E,eM+j,none⟩=some (.int .i64 gr):=(by rw[C.cell OB];exact I)));obtain⟨ug,tZ,mf,mH,mI⟩:=im Ek;obtain⟨xt,xi,kc,hE,h0⟩:=im Pr;have en:(0:Int)<=(c:Int)+(m:Int):=z;have b4:(c:Int)+(m:Int)<=(f':Int)+1:=z;have dF:(f':Int)+1<=(d:Int):=z;have gL:(c:Int)<=(d:Int):=z;have s8:((c:Int)+(m:Int)).toNat=c+m:=z;have Cv:(c:Int)<=(c:Int)+(m:Int):=z;have aJ:¬d=c:=z;have aM:¬d-c=0:=z;have az:=G fun X (U:β w X) i hi=>(U.cell kW).trans (aF.out i hi);have aw:((((k:Int)::cs.flatten).drop c).take m)=cs[j]:=by rw[←Z3,tl 1,Wr,ay,←o.out,List.take_left]
   have ht:Hid (∀X,β w X->∀(i:Nat) u,(gF cs[j])[i]? =some u->X.cell? (Addr.add ⟨pb,po+c,none⟩ i)=some u):=G fun X U i u hu=>U_ (az.out X U) c m i u (by rw[aw];exact hu);have bZ:(gF cs[j]).length=m*1:=by rw[If,o,tm]
   have x4:=Mg n n 3 1 (aZ _);have F:=e4 n (.cells #[] 3);have aA:=mY.K F;have aD:=G (K.out.K C);clear u0 u1 u2 u3 u4 u5 u6 Z P V Y y f hv eD e' hw j6 ma NH I K My aw bu C;go_upto_region 11 with fail
   go_wp2_with (first|(at_builtin;refine ln _ rfl _ _ 22 rfl n 3 ug _ 1 8 oY tZ mf mH mI rfl ak (.slice (some ⟨n,0,none⟩) 0 0) 0 [] rfl x4 ⟨pb,po+c,none⟩ m (d-c) (gF cs[j]) rfl bZ (ht.out _ aA.b) (Ig _) (by unfold maxLen;omega) z F.size ?_;intro v5 Q L D1 O7;rw[gP,zt]at L;have Cr:v5≠ .slice none 0 0:=(fun e=>by have:=(O7.1 e).2;omega);obtain⟨f,r,aO,rfl,aN,_⟩:=ul L Cr;have c0:=ans L o;have hB:=F.grown D1 F.size (fun g an=>by simp[Value.ownBlock]at an;subst an;exact aZ _);have gy:=hB.alloc hB.size (.cells #[.slice (some ⟨f,0,none⟩) m r] 22);have N:=aD.out.K gy;obtain⟨bN,di,dL,fN⟩:=N.row;have x9:=mY.K gy;have aI:=G x9;have ah:=G c0;have ae:=G N.b;have ai:=di;have XQ:=G dL;have aC:=G fN;clear L D1 O7 Cr di dL fN c0 hB N x9)|(at_builtin;refine ln _ rfl _ _ 23 rfl aq 22 xt _ 1 24 Is xi kc hE h0 rfl ak _ (cs.take j).length bN rfl ai ⟨Q,0,none⟩ 1 1 [.slice (some ⟨f,0,none⟩) m r] rfl rfl (rA (cs:=#[.slice (some ⟨f,0,none⟩) m r]) (t:=22) (fr:=(0,0)) (px Q _)) (by simp[Value.oneCell']) (by rw[nu];unfold maxLen;omega) (by rw[nu];omega) ae.out.size ?_;intro g1 bi gi fT _))
   have af:=wP.next (m:=[cs[j]]) (zs:=[.slice (some ⟨f,0,none⟩) m r]) ai XQ aC ⟨⟨some ⟨f,0,none⟩,r,by rw[o.out],ah.out.1.K (e4 Q _)⟩,g'⟩ (fun u hu a' mQ fd e=>by
    rw[o0]at hu
    subst hu
    cases e
    have:=ah.out.2
    rw[o.out]at this
    exact this) ae gi fT
   have ax:=aFy cs j au;rw[o.out]at ax;rw[←p9 au]at af;have J2:((1+off cs (j+1):Nat):Int)=(c:Int)+(m:Int):=z;refine⟨⟨j+1,z,?_,?_,af⟩,?_⟩;rw[J2]
   ·go_num
   simp[RowKit.intOf];omega
  ·have Km:j=cs.length:=z;subst Km;rw[tk]at q;have K:=G q;clear q
   go_wp2;go_ret2
   obtain⟨va,ct,rfl,e1⟩:=K.out.parts;exact⟨⟨va,ct,rfl,e1⟩,l.b⟩
end
end Go.bS
namespace Go.bS
open Go Go.Proofs.Tryz Go.Proofs Go.RowKit Go.Lib Go.aJ
open Go.da (cU bA jd)
open Go.bh.N (lM)
theorem e0.mono{n m:Nat}{v:bC}(h:e0 n v)(c:n<=m):e0 m v:=by
 have ag:10^(2*n+1)<=10^(2*m+1):=kO ak z;cases h with
 |gM e ae H=>exact .gM e ae H
 |hG s h=>exact .hG s h
 |gD N S h g f=>exact .gD N S h z z
 |kq d ae H=>exact .kq d ae H
 |l' b h=>exact .l' b h
 |hS aQ a h=>exact .hS aQ a h
theorem e0.Hp{n:Nat}{v:bC}(h:e0 n v)(a:v.kind=1):∃s,v=bS.hG s/\kp s:=by
 cases h with
 |hG s h=>exact⟨s,rfl,h⟩
 |_=>exact absurd a (by simp[bC.kind])
theorem e0.Ew{n:Nat}{v:bC}(h:e0 n v)(a:v.kind=2):∃(N:Int) (S:Nat),v=bS.gD N S/\hn N S/\N.natAbs<=10^(2*n+1)/\2*S<=n+1:=by
 cases h with
 |gD N S h c b=>exact⟨N,S,rfl,h,c,b⟩
 |_=>exact absurd a (by simp[bC.kind])
theorem e0.acW{n:Nat}{v:bC}(h:e0 n v)(a:v.kind=3):∃d,v=bS.kq d/\0<=d/\d<=3652058:=by
 cases h with
 |kq d ae H=>exact⟨d,rfl,ae,H⟩
 |_=>exact absurd a (by simp[bC.kind])
theorem e0.acX{n:Nat}{v:bC}(h:e0 n v)(a:v.kind=5):∃aQ,v=bS.hS aQ/\aQ.length<=3:=by
 cases h with
 |hS aQ b h=>exact⟨aQ,rfl,b⟩
 |_=>exact absurd a (by simp[bC.kind])
structure zy (l:List bC) (fG:List Nat) (m:Nat):Prop where
 len:fG.length=l.length
 DL:∀i (H:i<l.length) (I:i<fG.length),1<=fG[i]/\e0 fG[i] l[i]
 sum:fG.sum+1=m
 le:m<=5
variable{fG:List Nat}{m:Nat}
theorem zy.any{l:List bC}(h:zy l fG m):∀v∈l,∃n,e0 n v:=fun v J=>by
 obtain⟨i,hi,rfl⟩:=Wt J
 exact⟨_,(h.DL i hi (by rw[h.len];exact hi)).2⟩
theorem aj9:∀(fG:List Nat) (i:Nat) (h:i<fG),fG[i]<=fG.sum
 |a::fG,0,_=>by simp
 |a::fG,i+1,h=>by
  have:=aj9 fG i (by simpa using h)
  simp only[IA,List.sum_cons];omega
theorem zy.all{l:List bC}(h:zy l fG m):∀v∈l,e0 m v:=fun v J=>by
 obtain⟨i,hi,rfl⟩:=Wt J
 have I:i<fG.length:=by rw[h.len];exact hi
 have:=aj9 fG i I
 have:=h.sum
 exact(h.DL i hi I).2.mono z
theorem zy.xy{l:List bC}{fG:List Nat}{m k:Nat}(h:zy l fG m)(b:wS [k] l):∃v a,l=[v]/\v.kind=(k:Int)/\e0 a v/\1<=a/\a+1=m/\m<=5:=by
 match l,b with
 |[v],b=>
  match fG,h with
  |[a],h=>have H:=h.DL 0 ao ao;have I:=b.2 0 ao ao;have c:=h.sum;have d:=h.le;simp at H I c;exact⟨v,a,rfl,I,H.2,H.1,c,d⟩
  |[],h=>exact absurd h.len ao
  |_::_::_,h=>exact absurd h.len ao
 |[],b=>exact absurd b.1 ao
 |_::_::_,b=>exact absurd b.1 ao
theorem zy.lm{l:List bC}{fG:List Nat}{m b4 dF:Nat}(h:zy l fG m)(c:wS [b4,dF] l):∃d e a b,l=[d,e]/\d.kind=(b4:Int)/\e.kind=(dF:Int)/\e0 a d/\e0 b e/\1<=a/\1<=b/\a+b+1=m/\m<=5:=by
 match l,c with
 |[d,e],c=>
  match fG,h with
  |[a,b],h=>have H:=h.DL 0 ao ao;have I:=h.DL 1 ao ao;have g:=c.2 0 ao ao;have i:=c.2 1 ao ao;have f:=h.sum;have j:=h.le;simp at H I f g i;exact⟨d,e,a,b,rfl,g,i,H.2,I.2,H.1,I.1,f,j⟩
  |[],h=>exact absurd h.len ao
  |[_],h=>exact absurd h.len ao
  |_::_::_::_,h=>exact absurd h.len ao
 |[],c=>exact absurd c.1 ao
 |[_],c=>exact absurd c.1 ao
 |_::_::_::_,c=>exact absurd c.1 ao
def lL(S:cU)(r:bA):Prop:=∀(m:Nat) (w:World) (b:Value) (ca:Option Addr) (cc:Nat) (_:lM w b) (_:jd w ca S.bw) (c:Option Addr) (rc:Nat) (R:List bC) (_:cz aV (aU aV 1) w c R) (_:S.bw.length=R.length) (_:∀v∈R,e0 1 v) (a:Option Addr) (ac:Nat) (l:List bC) (fG:List Nat) (_:zy l fG m) (_:cz aV (aU aV 1) w a l),
 χ 407 #[.string r.op,.string r.aG,.slice a l.length ac,b,.slice ca S.bw.length cc,.slice c R.length rc] w (e7 w.heap.size m)
end Go.bS
namespace Go.bS
open Go Go.Proofs.Tryz Go.Proofs Go.RowKit Go.da Go.bh
open Go.bh.N (lM)
structure IQ (S:cU) (M:Nat->Nat) (rs:List bA) (ca bd:Option Addr) (cc aW rb aE rc:Nat) (bv:Value) (fk:Option Addr) (rwc:Nat) (R:List bC) (w:World):Prop where
 oe:pB S M rs ca bd cc aW rb aE rc w
 ok:∀r∈rs,lL S r
 base:lM w bv
 row:cz aV (aU aV 1) w fk R
 len:S.bw.length=R.length
 DL:∀v∈R,e0 1 v
variable{M:Nat->Nat}{ca:Option Addr}{cc a rb rc rwc:Nat}{w w':World}
theorem IQ.K{S:cU}{rs:List bA}{b:Option Addr}{aE:Nat}{c:Value}{d:Option Addr}{R:List bC}(h:IQ S M rs ca b cc a rb aE rc c d rwc R w)(A:β w w'):IQ S M rs ca b cc a rb aE rc c d rwc R w':=
 ⟨h.oe.K A,h.ok,h.base.K A,cz.K (aU.mono aV 1) h.row A,h.len,h.DL⟩
structure RH (w:World) (aI:Array Value) (Qr:Nat) (dY:Array Value) (wr:World):Prop where
 b:β w wr
 g:kz wr w.heap.size 29 aI
 o:wr.heap[w.heap.size+1]? =some (.cells fh 42 (0,0))
 r:wr.heap[Qr]? =some (.cells dY 96 (0,0))
theorem RH.K{wr:World}{b dY:Array Value}(h:RH w b a dY wr)(A:β wr w'):RH w b a dY w':=
 ⟨cj h.b A,h.g.K A,(A.block _ (c8 h.o)).trans h.o,(A.block _ (c8 h.r)).trans h.r⟩
structure Jh (W:World) (m fp:Nat) (k N S n:Int) (s:ByteArray) (ca:Option Addr) (cl cc:Nat) (ra:Option Addr) (rl rc:Nat) (err:Int) (Bh:World):Prop where
 b:β W Bh
 k7:W.heap.size<=fp
 x:Bh.heap[fp]? =some (.cells (bM k s N S n ca cl cc ra rl rc) 42 (0,0))
 dC:0<=err
 aj:err<=99
 v:err=0->∃v,aU (fa W.heap.size) 1 Bh (bM k s N S n ca cl cc ra rl rc) v/\e0 m v
variable{W:World}{m cl rl:Nat}{k N n err:Int}{s:ByteArray}{ra:Option Addr}
theorem Jh.Er{a:World}{S:Int}(ae:0<=err)(H:err<=99)(h:err=0->∃v,aU (fa W) 1 a (bM k s N S n ca cl cc ra rl rc) v/\e0 m v)(A:β W a):
  Jh W m a k N S n s ca cl cc ra rl rc err (a.alloc (.cells (bM k s N S n ca cl cc ra rl rc) 42)):=
 ⟨A.alloc A.size _,A.size,cW a _,ae,H,fun e=>by
  obtain⟨v,J,an⟩:=h e
  exact⟨v,J.K ((br _ _).alloc (aZ _) _),an⟩⟩
theorem Jh.ayy{b:World}{S:Int}(ae:0<=err)(H:err<=99)(h:err=0->∃v,aU (fa (W.alloc (.cells fh 42)).drew.heap.size) 1 b (bM k s N S n ca cl cc ra rl rc) v/\e0 m v)(A:Below (W.alloc (.cells fh 42)).drew.heap.size (W.alloc (.cells fh 42)).drew b): Jh W m W k N S n s ca cl cc ra rl rc err (A1 b W k (.string s) N S n (.slice ca cl cc) (.slice ra rl rc)):=by
 have I:(W.alloc (.cells fh 42)).drew.heap.size=W.heap.size+1:=ao;have g:β W b:=((e4 W _).drew).trans (A.mono z);have f:b.heap[W.heap.size]? =some (.cells fh 42 (0,0)):=(A.block _ z).trans (cW W _);refine⟨iJ g (aZ _) _ _ _ _ _ _ _,aZ _,EE f _ _ _ _ _ _ _,ae,H,fun e=>?_⟩;have i:=e7.put (r:=W.heap.size) (B:=W.heap.size) (base:=(W.alloc (.cells fh 42)).drew.heap.size) (n:=m) (k:=k) (s:=s) (N:=N) (S:=S) (n':=n) (ca:=ca) (cl:=cl) (cc:=cc) (ra:=ra) (rl:=rl) (rc:=rc) (err:=err) ⟨_,_,_,_,_,_,_,_,_,_,_,_,rfl,ae,H,h⟩ z z;obtain⟨dF,x,t,w,u,y,l,E,C,o,D,q,a,_,_,j⟩:=i;injection a with a
 injection a with a
 injection a with a
 injection a with d c
 injection c with c _
 injection c with _ c
 subst c;injection d with d
 obtain⟨v,J,an⟩:=j e;rw[←d]at J;exact⟨v,J,an⟩
attribute [local irreducible] wpStill in
theorem ayS{S:cU}{M:Nat->Nat}{rs:List bA}{ca K:Option Addr}{cc F rb aE rc:Nat}{bv:Value}{fk:Option Addr}{rwc:Nat}{R:List bC}:∀(N:Nat) (p:List Int) (s:Nat) (aG:Option Addr) (Z:Nat) (w:World),p.length<=N->IQ S M rs ca K cc F rb aE rc bv fk rwc R w->lu w aG p->Dt rs s p->p.length<=Z->p.length<=5-> χ 291 #[.agg (eg S rs ca K cc F rb aE rc),bv,.slice aG p.length Z,.slice fk R.length rwc] w (e7 w.heap.size p.length):=by
 intro N;induction N with
 |zero=>intro p s aG Z w ec h ag cM;have:=JN cM.gm;omega
 |succ N qi=>
  intro p s aG Z w ec h ag cM kt vC;obtain⟨k,ad,q,rfl,aF,g⟩:=cM.first;obtain⟨cs,hcut,rfl⟩:=ai5 rs _ q g;have pi:=h.oe;obtain⟨pb,po,rfl,kW,om⟩:=ag ao;have j5:=om 0 ao;rw[Bp,h7]at j5;obtain⟨ur,Lb,cg,iw,kE⟩:=pi.r;cases cg;obtain⟨Y,ac,ab⟩:=kE k ad;have fo:=ab.bo;have b8:=ab.c1;have cr:=ab.c2;have ej:=ab.c3;have ak:=G (h.ok _ (fP ad));have kf:(0:Int)<=(k:Int):=z;have mn:(k:Int)<rs.length:=z;have vE:=pi.rq;have aJ:cs.flatten.length+1<=Z:=by rw[l7]at kt;exact kt
  have aO:cs.flatten.length<=N:=by rw[l7]at ec;omega
  have b3:cs.flatten.length<=4:=by rw[l7]at vC;omega
  have al:=G fun W (ar:β w W)=>aJe (pi.K ar) (some ⟨pb,po,none⟩) Z s k ad cs hcut (ag.K ar) aJ z cM;have RU:=G qi;have aj:=G h;have IY:=G hcut;have aN:cs.length<=3:=by rw[hcut.len];exact pi.iD _ (fP ad)
  have aM:=G cM;have rf:0<(cs.flatten.length:Int)+1:=z;have JZ:(cs.flatten.length:Int)<=4:=z;clear om ab kE cM hcut ag qi h g pi ec kt vC;rw[l7];generalize mj:cs.flatten.length=f' at*;have rF:=G mj;clear mj;have aL:=hX.ee w (eg S rs ca K cc F rb aE rc);go_enter func291,ntmps291;go_upto_region 1 with fail
  have f:=aL.b.alloc aL.b.size (.cells fh 42);have eu:=cW (w.alloc (.cells (eg S rs ca K cc F rb aE rc) 29)) (.cells fh 42);have Z_:=aL.K ((br (w.alloc (.cells (eg S rs ca K cc F rb aE rc) 29)).heap.size _).alloc (aZ _) (.cells fh 42));have dT:(w.alloc (.cells (eg S rs ca K cc F rb aE rc) 29)).heap.size=w.heap.size+1:=ao;rw[dT]at eu;clear aL dT;generalize (w.alloc (.cells (eg S rs ca K cc F rb aE rc) 29)).alloc (.cells fh 42)=C at*;have A:C.cell? ⟨w.heap.size,4,none⟩=some (.slice (some ⟨rb,aE,none⟩) rs.length rc):=aK 4 Z_.g;have JC:=az f kW j5;have fX:=az f iw fo;have cn:=az f iw b8;have dw:=az f iw cr;have er:=az f iw ej;have aI:pb<C.heap.size:=cS f kW;have aH:rb<C.heap.size:=cS f iw;have iM:=G f;have g2:=G eu;have C_:=G Z_;clear j5 fo b8 cr ej f eu Z_
  go_region_held3 (fun aT=>aT.cell? ⟨w.heap.size,4,none⟩=some (.slice (some ⟨rb,aE,none⟩) rs.length rc)/\aT.cell? ⟨pb,po,none⟩=some (.int .i64 k)/\aT.cell? ⟨rb,aE+k*4,none⟩=some (.int .i64 (rs[k].h:Int))/\aT.cell? ⟨rb,aE+k*4+1,none⟩=some (.string rs[k].op)/\aT.cell? ⟨rb,aE+k*4+2,none⟩=some (.string rs[k].aG)/\aT.cell? ⟨rb,aE+k*4+3,none⟩=some (.slice Y rs[k].args.length ac)) (first|with_reducible exact⟨A,JC,fX,cn,dw,er⟩|exact⟨A,JC,fX,cn,dw,er⟩|go_keep) (fail);have Z4:=e4 C (.cells #[.int .i64 (rs[k].h:Int),.string rs[k].op,.string rs[k].aG,.slice Y rs[k].args.length ac] 96);rw[aF]at Z4;have J2:=Z4.drew;have j':(C.alloc (.cells #[.int .i64 (s:Int),.string rs[k].op,.string rs[k].aG,.slice Y rs[k].args.length ac] 96)).drew.heap[C.heap.size]? =some (.cells #[.int .i64 (s:Int),.string rs[k].op,.string rs[k].aG,.slice Y rs[k].args.length ac] 96 (0,0)):=cW C (.cells #[.int .i64 (s:Int),.string rs[k].op,.string rs[k].aG,.slice Y rs[k].args.length ac] 96);have eS:=G (RH.mk (cj iM.out J2) (C_.out.K J2).g ((J2.block _ (c8 g2.out)).trans g2.out) j');clear Z4 J2 j' g2 C_ iM A JC fX cn dw er aI aH;generalize (C.alloc (.cells #[.int .i64 (s:Int),.string rs[k].op,.string rs[k].aG,.slice Y rs[k].args.length ac] 96)).drew=aq at*;generalize C.heap.size=Qr at*;obtain⟨cQ,m,O,o,A,dS⟩:=f_ eS.out.g;have FE:=G (al.out aq eS.out.b);clear al;go_upto_region 3 with(go_at_call 406;(with_reducible refine FE.out.mono ?_);rintro e L ⟨⟨va,ct,rfl,e1⟩,bf⟩)
  have lQ:=G (eS.out.K bf);have iN:=G e1;clear eS FE cQ m O o A dS e1 bf;go_upto_region 4 with fail
  go_wp2;go_loopw [13,14] (fun v i wr=>∃j:Nat,j<=cs.length/\i=.int .i64 (j:Nat)/\β L wr/\∃l:List bC,l.length=j/\Hid (∀x (H:x<l.length) (I:x<cs.length),e0 cs[x].length l[x])/\kQ L.heap.size 1 wr v l) (fun _ i _=>cs.length-(RowKit.intOf i).toNat);case atStart=>exact⟨0,dx _,rfl,br _ _,[],rfl,G fun x H=>absurd H ao,kQ.nil _ _ _⟩
  case round=>
   obtain⟨j,aa,rfl,P,l,sX,GY,ce⟩:=hrel;have D:=G (lQ.out.K P);by_cases au:j<cs.length
   ·obtain⟨l5,rx,rfl,AN,Cs⟩:=iN.out z;obtain⟨dD,ep,hM,nQ,vD⟩:=Cs j au;have GS:j<rs[k].args.length:=by rw[←IY.out.len];exact au
    have g:=IY.out.S4 j GS au;have qy:=JN g;have ld:=apy cs j au;rw[rF.out]at ld;have aw:Dt rs (rs[k].args[j]'GS) cs[j]:=⟨g,fun x ae=>aM.out.ok x (jD _ (List.mem_flatten.2 ⟨_,fP au,ae⟩))⟩;have L7:=G fun W (ar:β wr W)=>RU.out cs[j] _ dD ep W z (aj.out.K (cj D.out.b ar)) (nQ.K (cj P ar)).kC aw vD z;have an:Hid (∀v,e0 cs[j].length v->∀x (H:x<(l++[v]).length) (I:x<cs.length),e0 cs[x].length (l++[v])[x]):=G fun v J x H I=>by
     rw[ia,Bq]at H;by_cases ae:x<l.length
     ·rw[xW ae];exact GY.out x ae I
     ·obtain rfl:x=j:=z;rw[xX z];simpa using J
    have aP:cs[j].length<=4:=z;have hf:=az P AN hM;have ai:Hid (∀v,e0 cs[j].length v->Hid (∀x (H:x<(l++[v]).length) (I:x<cs.length),e0 cs[x].length (l++[v])[x])):=an;clear g aw nQ hM Cs ld an GY GS;generalize cs[j]=ap at*;have u:w.heap.size<wr.heap.size:=c8 D.out.g;have aC:l5<wr.heap.size:=cS P AN;obtain⟨cQ,m,O,o,A,dS⟩:=f_ D.out.g;have cm:=G ce;have wM:=G P;have hA:(0:Int)<=(j:Int):=z;have gU:(j:Int)<cs.length:=z;clear ce AN P;go_upto_region 7 with fail
    go_region_held3 (fun X=>X.cell? ⟨w.heap.size,0,none⟩=some (.string S.nm)/\X.cell? ⟨w.heap.size,1,none⟩=some (.int .i64 S.db)/\X.cell? ⟨w.heap.size,2,none⟩=some (.slice ca S.bw.length cc)/\X.cell? ⟨w.heap.size,3,none⟩=some (.slice K S.aD.length F)/\X.cell? ⟨w.heap.size,4,none⟩=some (.slice (some ⟨rb,aE,none⟩) rs.length rc)/\X.cell? ⟨w.heap.size,5,none⟩=some (.int .i64 S.al)/\X.cell? ⟨l5,rx+j,none⟩=some (.slice dD ap.length ep)) (first|with_reducible exact⟨cQ,m,O,o,A,dS,hf⟩|with_reducible exact⟨u0,u1,u2,u3,u4,u5,u6⟩|with_reducible exact⟨(e_ z).trans u0,(e_ z).trans u1,(e_ z).trans u2,(e_ z).trans u3,(e_ z).trans u4,(e_ z).trans u5,(e_ z).trans u6⟩|go_keep) (first
     |(go_at_call 291;(with_reducible refine(L7.out _ ((e4 wr (.cells fh 42)).drew)).mono ?_);rintro e Q ⟨⟨it,bJ,j7,lT,kr,mb,lV,mc,md,lX,me,err,rfl,U,T,lE⟩,dm⟩;have a:β wr Q:=((e4 wr (.cells fh 42)).drew).trans (dm.mono ao);have u0:=az a u cQ;have u1:=az a u m;have u2:=az a u O;have u3:=az a u o;have u4:=az a u A;have u5:=az a u dS;have u6:=az a aC hf;have c:=G (Jh.ayy U T lE dm);have eo:=(dm.block wr.heap.size ao).trans (cW wr (.cells fh 42));obtain⟨hk,b5,eK,g0,lj,n5,rm⟩:=eX eo;obtain⟨z0,cy,dz,z3,z4,z5,eO⟩:=he eo)
     |(go_at_call 291;(with_reducible refine(L7.out _ (lh wr)).mono ?_);rintro e Q ⟨⟨it,bJ,j7,lT,kr,mb,lV,mc,md,lX,me,err,rfl,U,T,lE⟩,dm⟩;have a:β wr Q:=(lh wr).trans dm;have u0:=az a u cQ;have u1:=az a u m;have u2:=az a u O;have u3:=az a u o;have u4:=az a u A;have u5:=az a u dS;have u6:=az a aC hf;have c:=G (Jh.Er (W:=wr) U T lE a)))
    all_goals first
     |(with_reducible change Exit.then _ _ Exit.normal _ (A1 Q wr.heap.size (.int .i64 it) (.string bJ) (.int .i64 j7) (.int .i64 lT) (.int .i64 kr) (.slice mb lV mc) (.slice md lX me));generalize (A1 Q wr.heap.size (.int .i64 it) (.string bJ) (.int .i64 j7) (.int .i64 lT) (.int .i64 kr) (.slice mb lV mc) (.slice md lX me))=Bh at c⊢;generalize wr.heap.size=E at c⊢)
     |(generalize Q.alloc (.cells (bM it bJ j7 lT kr mb lV mc md lX me) 42)=Bh at c⊢;generalize Q.heap.size=E at c⊢)
    all_goals
     clear u0 u1 u2 u3 u4 u5 u6 cQ m O o A dS hf;have U:=c.out.dC;have T:=c.out.aj;by_cases qu:err=0
     ·subst qu;obtain⟨y,ay,ax⟩:=c.out.v rfl;have MG:=G ay;have XF:=G ax;have V:=G c.out.x;have B:=G c.out.b;clear ay ax c;revert V B MG;generalize Bh=QO;intro MG V B;obtain⟨hk,b5,eK,g0,lj,n5,rm⟩:=eX V.out;have Xc:=G (cm.out.K B.out);obtain⟨fq,hj,s5⟩:=cm.out.gX;subst s5;have OX:l.length<=100:=z;have af:L.heap.size<=QO.heap.size:=cO wM.out.size B.out.size
      go_wp2_with (at_builtin;refine Lr rfl _ _ rfl (base:=L.heap.size) (d:=1) (l:=l) (y:=y) (v:=.slice fq l.length hj) rfl Xc.out rfl (cm.out.p1 (aZ _) wM.out.size MG.out) OX af ?_;intro v5 a_ m _ o;have si:=G m;have f:=G ((cj wM.out B.out).trans o);clear m o);have C':=ai.out _ XF.out;have D8:(l++[y]).length=j+1:=by rw[ia,Bq,sX]
      go_roundw;case rel=>first|exact⟨j+1,z,bG,f.out,_,D8,C',si.out⟩|((repeat apply Exists.intro);refine⟨?_,rfl⟩;exact⟨j+1,z,bG,f.out,_,D8,C',si.out⟩)
      case measure=>simp[RowKit.intOf];omega
     ·have aQ:(err !=0)=true:=by simpa using qu
      have qb:=G (ajQ err Bh);go_upto_region 10 with(go_at_call 198;(with_reducible refine qb.out.mono ?_);rintro e aD ⟨rfl,mJ⟩;have b_:=(mJ.block _ (c8 c.out.x)).trans c.out.x;obtain⟨g3,di,dL,fN,gt,g4,g9⟩:=eX b_;obtain⟨z0,cy,dz,z3,z4,z5,eO⟩:=he b_)
      generalize aA:(((((((aD.setCell ⟨E,0,none⟩ (.int .i64 0)).setCell ⟨E,1,none⟩ (.string bO)).setCell ⟨E,2,none⟩ (.int .i64 0)).setCell ⟨E,3,none⟩ (.int .i64 0)).setCell ⟨E,4,none⟩ (.int .i64 err)).setCell ⟨E,5,none⟩ (.slice none 0 0)).setCell ⟨E,6,none⟩ (.slice none 0 0))=QO;have aB:A1 aD E (.int .i64 0) (.string bO) (.int .i64 0) (.int .i64 0) (.int .i64 err) (.slice none 0 0) (.slice none 0 0)=QO:=aA;have V:=G (EE b_ (.int .i64 0) (.string bO) (.int .i64 0) (.int .i64 0) (.int .i64 err) (.slice none 0 0) (.slice none 0 0));have B:=G (iJ (cj c.out.b mJ) c.out.k7 (.int .i64 0) (.string bO) (.int .i64 0) (.int .i64 0) (.int .i64 err) (.slice none 0 0) (.slice none 0 0));rw[aB]at V B;have MG:=G (aU.iW (fa wr.heap.size) 1 QO 0 bO 0 0 err none 0 none 0);have XF:=G (e0.gM (n:=ap.length) err U T);clear aA aB b_ mJ qb c g3 di dL fN gt g4 g9 z0 cy dz z3 z4 z5 eO;obtain⟨hk,b5,eK,g0,lj,n5,rm⟩:=eX V.out;have Xc:=G (cm.out.K B.out);obtain⟨fq,hj,s5⟩:=cm.out.gX;subst s5;have OX:l.length<=100:=z;have af:L.heap.size<=QO.heap.size:=cO wM.out.size B.out.size
      go_wp2_with (at_builtin;refine Lr rfl _ _ rfl (base:=L.heap.size) (d:=1) (l:=l) (y:=gM err) (v:=.slice fq l.length hj) rfl Xc.out rfl (cm.out.p1 (aZ _) wM.out.size MG.out) OX af ?_;intro v5 a_ m _ o;have si:=G m;have f:=G ((cj wM.out B.out).trans o);clear m o);have C':=ai.out _ XF.out;have D8:(l++[gM err]).length=j+1:=by rw[ia,Bq,sX]
      go_roundw;case rel=>first|exact⟨j+1,z,bG,f.out,_,D8,C',si.out⟩|((repeat apply Exists.intro);refine⟨?_,rfl⟩;exact⟨j+1,z,bG,f.out,_,D8,C',si.out⟩)
      case measure=>simp[RowKit.intOf];omega
   ·have Km:j=cs.length:=z;have ne:l.length=cs.length:=z;obtain⟨fq,hj,s5,av⟩:=ce.Qu z;subst s5;have jG:zy l (cs.map List.length) (f'+1):=⟨by rw[IC,ne],fun i H I=>by
     have ah:i<cs.length:=z
     rw[List.getElem_map]
     exact⟨JN (IY.out.S4 i (by rw[←IY.out.len];exact ah) ah),GY.out i H ah⟩,by rw[←List.length_flatten,rF.out],z⟩
    have g:=aj.out.K D.out.b;have pA:=G (ak.out (f'+1) wr bv ca cc g.base g.oe.c fk rwc R g.row g.len g.DL fq hj l _ jG (cz.low (fun _ _=>g') (fun _ _ _ h=>aU.low (fun _ _=>g') h) av));obtain⟨-,cn,dw⟩:=yp D.out.r;have O:wr.cell? ⟨w.heap.size,2,none⟩=some (.slice ca S.bw.length cc):=aK 2 D.out.g;have kb:w.heap.size+1<wr.heap.size:=c8 D.out.o;clear g jG av GY ce iN RU ak P ne sX
    go_wp2_with (go_at_call 407;(with_reducible refine pA.out.mono ?_);rintro e oV ⟨⟨it,bJ,j7,lT,kr,mb,lV,mc,md,lX,me,err,rfl,U,T,lE⟩,oj⟩;have dq:=G (D.out.K oj);have hq:=dq.out.o;obtain⟨g3,di,dL,fN,gt,g4,g9⟩:=eX hq;obtain⟨z0,cy,dz,z3,z4,z5,eO⟩:=he hq);refine ki hq ?_;exact⟨e7.put (base:=wr.heap.size) ⟨_,_,_,_,_,_,_,_,_,_,_,_,rfl,U,T,lE⟩ kb D.out.b.size,iJ dq.out.b z _ _ _ _ _ _ _⟩
end Go.bS
namespace Go.bS
open Go Go.Proofs.Tryz Go.Proofs Go.RowKit Go.da Go.bh
structure FG (w:World) (aI:Array Value) (wr:World):Prop where
 b:β w wr
 g:kz wr w.heap.size 29 aI
 o:wr.heap[w.heap.size+1]? =some (.cells fh 42 (0,0))
theorem FG.K{w wr w':World}{a:Array Value}(h:FG w a wr)(A:β wr w'):FG w a w':=
 ⟨cj h.b A,h.g.K A,(A.block _ (c8 h.o)).trans h.o⟩
theorem FG.start(w:World)(a:Array Value):FG w a ((w.alloc (.cells a 29)).alloc (.cells fh 42)):=by
 have b:=hX.ee w a;have d:(w.alloc (.cells a 29)).heap.size=w.heap.size+1:=ao;have c:=cW (w.alloc (.cells a 29)) (.cells fh 42);rw[d]at c;exact⟨b.b.alloc b.b.size _,(b.K ((br (w.alloc (.cells a 29)).heap.size _).alloc (aZ _) _)).g,c⟩
theorem ayR{S:cU}{M:Nat->Nat}{rs:List bA}{ca g:Option Addr}{cc f rb aE rc:Nat}{y:Value}{F:Option Addr}{rwc:Nat}{R:List bC} (p:List Int)(s:Nat)(aG:Option Addr)(c:Nat)(w:World)(h:IQ S M rs ca g cc f rb aE rc y F rwc R w)(ag:lu w aG p)(i:Dt rs s p)(T:p.length<=c)(vC:p.length<=5): χ 197 #[.agg (eg S rs ca g cc f rb aE rc),y,.slice aG p c,.slice F R rwc] w (e7 w p):=by
 have O:=G fun W (a:β w W)=>ar' (h.oe.K a) aG c s p (ag.K a) z i;have N:=G fun W (a:β w W)=>axp W aG c p (ag.K a) z (fun x J=>(i.ok x J).1);have P:=G fun W (a:β w W)=>ayS p p s aG c W (aZ _) (h.K a) (ag.K a) i T vC;have b:=G (FG.start w (eg S rs ca g cc f rb aE rc));clear h ag i;go_enter func197,ntmps197;go_upto_region 1 with fail
 generalize (w.alloc (.cells (eg S rs ca g cc f rb aE rc) 29)).alloc (.cells fh 42)=K at b⊢;obtain⟨B,n,o,A,E,C⟩:=f_ b.out.g;have H:=G (O.out K b.out.b);go_upto_region 2 with(go_at_call 289;(with_reducible refine H.out.mono ?_);rintro e L ⟨rfl,u⟩)
 have l:=G (b.out.K u);clear b H u B n o A E C;have I:=G (N.out L l.out.b);go_upto_region 6 with(go_at_call 290;(with_reducible refine I.out.mono ?_);rintro e j ⟨rfl,t⟩)
 have d:=G (l.out.K t);clear l I t;obtain⟨B,n,o,A,E,C⟩:=f_ d.out.g;have zC:=G (P.out j d.out.b);have Q:w.heap.size+1<j.heap.size:=c8 d.out.o
 go_wp2_with (go_at_call 291;(with_reducible refine zC.out.mono ?_);rintro e oV ⟨⟨it,bJ,j7,lT,kr,mb,lV,mc,md,lX,me,err,rfl,Z,V,U⟩,Y⟩;have D:=G (d.out.K Y);have m:=D.out.o;obtain⟨g3,di,dL,fN,gt,g4,g9⟩:=eX m;obtain⟨z0,cy,dz,z3,z4,z5,eO⟩:=he m);refine ki m ?_;exact⟨e7.put (base:=j.heap.size) ⟨_,_,_,_,_,_,_,_,_,_,_,_,rfl,Z,V,U⟩ Q d.out.b.size,iJ D.out.b z _ _ _ _ _ _ _⟩
end Go.bS
namespace Go.bS
open Go Go.Proofs.Tryz Go.Proofs Go.RowKit Go.da Go.bh
open Go.bh.N (lM)
variable{M:Nat->Nat}{ca:Option Addr}{cc rb rc:Nat}
theorem aDl{S:cU}{rs:List bA}{f:Option Addr}{a aE:Nat}{w:World}(h:pB S M rs ca f cc a rb aE rc w): χ 117 #[.agg (eg S rs ca f cc a rb aE rc)] w fun e w'=>e=.returned (.int .i64 ((S.aD[S.al]'h.ok.al).2:Int)):=by
 obtain⟨b,o,rfl,A,c⟩:=h.y;have g:=h.ok.al;have c1:=((e4 w (.cells (eg S rs ca (some ⟨b,o,none⟩) cc a rb aE rc) 29)).cell A).trans (c S.al g).2.1;generalize (S.aD[S.al]'g).2=kd at*;have d:=cW w (.cells (eg S rs ca (some ⟨b,o,none⟩) cc a rb aE rc) 29);obtain⟨-,-,-,i,-,j⟩:=f_ d;have k:¬(S.al:Int)<0:=z;have m:¬(S.aD.length:Int)<=(S.al:Int):=z;have l:(S.al:Int)<S.aD.length:=z;have n:(S.aD.length:Int)<=12:=by have:=h.ok.aD;omega
 clear h c A d;go_enter func117,ntmps117
 go_wp2;go_ret;exact PO
def avz(e:Ending):Prop:=∃k s N S n ca cl cc ra rl rc,e=.returned (.agg (bM k s N S n ca cl cc ra rl rc))/\(k=1∨k=2∨k=3->cl=0/\rl=0/\qX (.mk k s N S n [] []))
theorem e0.f'{n:Nat}{d:Nat}{B:Nat->Prop}{w:World}{k N S n':Int}{s:ByteArray}{ca ra:Option Addr}{cl cc rl rc:Nat}{v:bC}(J:e0 n v)(g:n<=5)(h:aU B d w (bM k s N S n' ca cl cc ra rl rc) v)(c:k=1∨k=2∨k=3):cl=0/\rl=0/\qX (.mk k s N S n' [] []):=by
 cases J with
 |gM e ae H=>obtain⟨_,_,_,_,e,_⟩:=h.gX;cases e;omega
 |hG s a=>obtain⟨_,_,_,_,e,_⟩:=h.gX;cases e;exact⟨rfl,rfl,.hG _ a⟩
 |gD N S a _ I=>obtain⟨_,_,_,_,e,_⟩:=h.gX;cases e;exact⟨rfl,rfl,.gD _ _ a z⟩
 |kq d ae H=>obtain⟨_,_,_,_,e,_⟩:=h.gX;cases e;exact⟨rfl,rfl,.kq _ ae H⟩
 |l' b a=>obtain⟨_,_,_,_,e,_⟩:=h.gX;cases e;omega
 |hS aQ f a=>obtain⟨_,_,_,_,e,_⟩:=h.gX;cases e;omega
theorem aHL{S:cU}{rs:List bA}{g:Option Addr}{c aE:Nat}{E:Value}{K:Option Addr}{rwc:Nat}{R:List bC} (p:List Int)(s:Nat)(aG:Option Addr)(x:Nat)(w:World)(h:IQ S M rs ca g cc c rb aE rc E K rwc R w)(ag:lu w aG p)(F:Dt rs s p)(kt:p.length<=x)(O:p.length<=5): χ 116 #[.agg (eg S rs ca g cc c rb aE rc),E,.slice aG p x,.slice K R rwc] w fun e w'=>avz e:=by
 have X:=G fun W (B:β w W)=>ayR p s aG x W (h.K B) (ag.K B) F kt O;have U:=G fun n W=>ajQ n W;have b:=G (FG.start w (eg S rs ca g cc c rb aE rc));clear h ag F;go_enter func116,ntmps116;go_upto_region 1 with fail
 generalize (w.alloc (.cells (eg S rs ca g cc c rb aE rc) 29)).alloc (.cells fh 42)=T at b⊢;obtain⟨cQ,Q,V,bx,dt,dS⟩:=f_ b.out.g;have L:=G (X.out T b.out.b);go_upto_region 2 with(go_at_call 197;(with_reducible refine L.out.mono ?_);rintro e d ⟨⟨i,f,j7,k,j,o,l,r,t,m,u,err,rfl,ol,la,N⟩,D⟩)
 have I:=b.out.K D;have J:=cW d (.cells (bM i f j7 k j o l r t m u) 42 (0,0));have y:=G (I.K ((br _ _).alloc (aZ _) (.cells (bM i f j7 k j o l r t m u) 42 (0,0))));have nN:d.heap.size<(d.alloc (.cells (bM i f j7 k j o l r t m u) 42 (0,0))).heap.size:=ao;clear b L D cQ Q V bx dt dS I;generalize (d.alloc (.cells (bM i f j7 k j o l r t m u) 42 (0,0)))=C at*;by_cases ae:err=0
 ·subst ae;obtain⟨v,P,yN⟩:=N rfl;have a:=y.out.o;obtain⟨g3,di,dL,fN,gt,g4,g9⟩:=eX a;obtain⟨z0,cy,dz,z3,z4,z5,eO⟩:=he a;obtain⟨v0,dW,ek,v3,v4,v5,g1⟩:=eX J;have kb:w.heap.size+1<C.heap.size:=c8 a
  go_wp2;refine jT (CA (fn:=f116) rfl _ _ (w.heap.size+1) 42 _ (0,0) _ rfl (EE a _ _ _ _ _ _ _) Wj rfl Qx) rfl ?_;exact⟨⟨_,_,_,_,_,_,_,_,_,_,_,rfl,fun A=>yN.f' O P A⟩,iJ y.out.b z _ _ _ _ _ _ _⟩
 ·have q:(err==0)=false:=by rw[lp];exact ae
  have qd:=G (U.out err C);clear N J
  go_wp2_with (go_at_call 198;(with_reducible refine qd.out.mono ?_);rintro e Y ⟨rfl,Z⟩;have H:=G (y.out.K Z);have a:=H.out.o;obtain⟨g3,di,dL,fN,gt,g4,g9⟩:=eX a;obtain⟨z0,cy,dz,z3,z4,z5,eO⟩:=he a;have kb:w.heap.size+1<Y.heap.size:=c8 a);refine jT (CA (fn:=f116) rfl _ _ (w.heap.size+1) 42 _ (0,0) _ rfl (EE a _ _ _ _ _ _ _) Wj rfl Qx) rfl ?_;exact⟨⟨_,_,_,_,_,_,_,_,_,_,_,rfl,fun A=>z⟩,iJ H.out.b z _ _ _ _ _ _ _⟩
end Go.bS
namespace Go.bS
open Go Go.Proofs.Tryz Go.Proofs Go.RowKit Go.da Go.bh
open Go.bh.N (lM)
open Go.aJ (el fb pZ Y4 hn)
theorem aIy(m:Nat)(c:m<5)(W:World):∃t:ByteArray,(W.alloc (.cells #[.string ⟨#[92,46,42]⟩,.string ⟨#[92,97,42,92,46,42]⟩,.string ⟨#[92,100,43]⟩,.string ⟨#[92,117,42]⟩,.string ⟨#[92,46,123,49,44,57,125]⟩] 9)).cell? ⟨W,m,none⟩=some (.string t):=by
 have h:=cW W (.cells #[.string ⟨#[92,46,42]⟩,.string ⟨#[92,97,42,92,46,42]⟩,.string ⟨#[92,100,43]⟩,.string ⟨#[92,117,42]⟩,.string ⟨#[92,46,123,49,44,57,125]⟩] 9);rcases(z:m=0∨m=1∨m=2∨m=3∨m=4)with rfl|rfl|rfl|rfl|rfl
 all_goals exact⟨_,by simp only[World.cell?,h];rfl⟩
theorem aDT(m:Nat)(c:m<2)(W:World):∃t:ByteArray,(W.alloc (.cells #[.string ⟨#[97,116,108,101,97,115,116]⟩,.string ⟨#[97,116,109,111,115,116]⟩] 9)).cell? ⟨W,m,none⟩=some (.string t):=by
 have h:=cW W (.cells #[.string ⟨#[97,116,108,101,97,115,116]⟩,.string ⟨#[97,116,109,111,115,116]⟩] 9);rcases(z:m=0∨m=1)with rfl|rfl
 all_goals exact⟨_,by simp only[World.cell?,h];rfl⟩
structure n_ (w:World) (b:Nat) (a:Option Addr) (len:Nat) (aI dd aT:Array Value) (wr:World):Prop where
 fG:nz w wr b a len
 g:wr.heap[w.heap.size]? =some (.cells aI 29 (0,0))
 i:wr.heap[w.heap.size+1]? =some (.cells dd 44 (0,0))
 v:wr.heap[w.heap.size+2]? =some (.cells aT 42 (0,0))
 o:wr.heap[w.heap.size+3]? =some (.cells uh 44 (0,0))
section
variable {w wr w':World} {b:Nat} {a:Option Addr} {len:Nat} {aI dd aT:Array Value}
theorem n_.start(h:el w b a len)(aI dd aT:Array Value):n_ w b a len aI dd aT ((((w.alloc (.cells aI 29)).alloc (.cells dd 44)).alloc (.cells aT 42)).alloc (.cells uh 44)):=by
 have N:=(((nz.mk h h (fb.refl b w)).alloc (.cells aI 29)).alloc (.cells dd 44)).alloc (.cells aT 42);have ae:=cW w (.cells aI 29);have H:=cW (w.alloc (.cells aI 29)) (.cells dd 44);have I:=cW ((w.alloc (.cells aI 29)).alloc (.cells dd 44)) (.cells aT 42);have d:=cW (((w.alloc (.cells aI 29)).alloc (.cells dd 44)).alloc (.cells aT 42)) (.cells uh 44);have iD:∀(w:World) (o c:Obj) (k:Nat),w.heap[k]? =some c->(w.alloc o).heap[k]? =some c:=fun w o c k h=>((e4 w o).block k (bF h)).trans h;have e:∀(w:World) (o:Obj),(w.alloc o).heap.size=w.heap.size+1:=fun w o=>ao;simp only[e]at H I d;exact⟨N.alloc _,iD _ _ _ _ (iD _ _ _ _ (iD _ _ _ _ ae)),iD _ _ _ _ (iD _ _ _ _ H),iD _ _ _ _ I,d⟩
theorem n_.next(h:n_ w b a len aI dd aT wr)(d:el w' b a len)(c:fb b wr w'):n_ w b a len aI dd aT w':=by
 have A:=h.fG.o.lt;have k:∀{j:Nat} {o:Obj},wr.heap[j]? =some o->w.heap.size<=j->w'.heap[j]? =some o:=fun e f=>(c.block _ (bF e) z).trans e;exact⟨h.fG.next d c,k h.g z,k h.i z,k h.v z,k h.o z⟩
theorem n_.K(h:n_ w b a len aI dd aT wr)(A:β wr w'):n_ w b a len aI dd aT w':=by
 have k:∀{j:Nat} {o:Obj},wr.heap[j]? =some o->w'.heap[j]? =some o:=fun e=>(A.block _ (bF e)).trans e;exact⟨h.fG.K A,k h.g,k h.i,k h.v,k h.o⟩
theorem n_.alloc(h:n_ w b a len aI dd aT wr)(o:Obj):n_ w b a len aI dd aT (wr.alloc o):=h.K ((br _ _).alloc (aZ _) o)
theorem n_.set(h:n_ w b a len aI dd aT wr)(i:Nat)(u:Value):n_ w b a len aI (dd.setIfInBounds i u) aT (wr.setCell ⟨w.heap.size+1,i,none⟩ u):=by
 have k:∀{j:Nat} {o:Obj},wr.heap[j]? =some o->j≠w.heap.size+1->(wr.setCell ⟨w.heap.size+1,i,none⟩ u).heap[j]? =some o:=fun e c=>(g_ _ _ _ _ c).trans e;exact⟨h.fG.Ht ((br _ wr).setCell (p:=⟨w.heap.size+1,i,none⟩) (qQ _) u),k h.g z,hT h.i u,k h.v z,k h.o z⟩
theorem n_.done(h:n_ w b a len aI dd aT wr)(l:List Value)(c:l.length=16):(wr.setCells (w.heap.size+3) 0 l).heap[w.heap.size+3]? =some (.cells l.toArray 44 (0,0))/\nz w (wr.setCells (w.heap.size+3) 0 l) b a len:=
 ⟨Qd h.o l c,h.fG.Ht (Hz z l 0 wr (br _ wr))⟩
end
def avo(f:ByteArray->ByteArray->Array Value)(e:Ending):Prop:=∃fm e5,e=.returned (.agg (f fm e5))
theorem apM{S:cU}{M:Nat->Nat}{rs:List bA}{ca X:Option Addr}{cc U rb aE rc:Nat}{w:World}(h:pB S M rs ca X cc U rb aE rc w)(b:Nat)(a:Option Addr)(len:Nat)(ap:len<=maxLen)(ax:el w b a len)(k9:∀x,ca=some x->x.block≠b) (id c_ gq dj kd:Int)(u:Option Addr)(O B:Nat)(o:Int)(bP:ByteArray)(K L y:Int)(C:Option Addr)(E:Nat)(A:Option Addr)(F:Nat)(fm e5:ByteArray)(g:Option Addr)(P r:Nat) (k:Int)(s:ByteArray)(N D n:Int)(va:Option Addr)(xM Y:Nat)(Z:Option Addr)(uF wc:Nat)(ag:k=1∨k=2∨k=3): Calls prog 120 #[.pointer (some ⟨b,0,none⟩),.agg (eg S rs ca X cc U rb aE rc),.agg (gY id c_ gq dj kd u O B o bP K L y C E A F fm e5 g P r),.agg (bM k s N D n va xM Y Z uF wc)] w fun e w'=> avo (fun fm e5=>(gY id c_ gq dj kd u O B o bP K L y C E A F fm e5 g P r)) e/\nz w w' b a len:=by
 have bl:=G fun(n:Int) (H:0<n) (I:n<=2000000000000001) w ah=>pZ w b a len n H I ap ah;have bH:=G fun w ah=>Y4 w b a len ap ah;have hV:=G fun(N:Int) (S:Nat) (W:World) (h:hn N S) (bm:S<=3)=>aeb (.gD N S h bm) W _ (aU.iW aV 1 W 2 bO N S 0 none 0 none 0);have f:=G (n_.start ax (eg S rs ca X cc U rb aE rc) (gY id c_ gq dj kd u O B o bP K L y C E A F fm e5 g P r) (bM k s N D n va xM Y Z uF wc));obtain⟨l,Q,arr,bb,rfl,DU,ab⟩:=h.c;have jH:Hid (∀wr,nz w wr b a len->∀i (hi:i<S.bw.length),wr.cell? ⟨l,Q+i*2,none⟩=some (.string S.bw[i].1)/\wr.cell? ⟨l,Q+i*2+1,none⟩=some (.int .i64 (S.bw[i].2:Nat))):=G fun wr ax i hi=>by have e:=(ax.s.block l (bF DU) (k9 _ rfl)).trans DU;obtain⟨b8,cr⟩:=ab i hi;exact⟨by simp[World.cell?,e,b8],by simp[World.cell?,e,cr]⟩
 have al:Hid ((S.bw.length:Int)<=8):=G (by have:=h.ok.bw;omega);clear h ax ab DU k9;go_enter func120,ntmps120;go_upto_region 1 with fail
 generalize ((((w.alloc (.cells (eg S rs (some ⟨l,Q,none⟩) X cc U rb aE rc) 29)).alloc (.cells (gY id c_ gq dj kd u O B o bP K L y C E A F fm e5 g P r) 44)).alloc (.cells (bM k s N D n va xM Y Z uF wc) 42)).alloc (.cells uh 44))=am at f⊢;go_upto_if 12 with(go_at_call 15;(with_reducible refine(bl.out 4 ak ak _ f.out.fG.n).mono ?_);rintro e V ⟨⟨cn,ii,ar,rfl⟩,b5,bV⟩;have d:=G (f.out.next b5 bV))
 clear b5 bV f;generalize (cn==0)=q;cases q;rotate_left
 ·have c:=d.out;obtain⟨ei,hA,gU,kf,mn,rf,pU,pV,vK,vL,vI,vJ,xr,s7,xs,uf⟩:=sD c.i;have g3:=aK 0 c.o;have z0:=Go.aJ.cJ (i:=0) c.o;have di:=aK 1 c.o;have cy:=Go.aJ.cJ (i:=1) c.o;have dL:=aK 2 c.o;have dz:=Go.aJ.cJ (i:=2) c.o;have fN:=aK 3 c.o;have z3:=Go.aJ.cJ (i:=3) c.o;have gt:=aK 4 c.o;have z4:=Go.aJ.cJ (i:=4) c.o;have g4:=aK 5 c.o;have z5:=Go.aJ.cJ (i:=5) c.o;have g9:=aK 6 c.o;have eO:=Go.aJ.cJ (i:=6) c.o;have P2:=aK 7 c.o;have CR:=Go.aJ.cJ (i:=7) c.o;have P3:=aK 8 c.o;have ry:=Go.aJ.cJ (i:=8) c.o;have P4:=aK 9 c.o;have z9:=Go.aJ.cJ (i:=9) c.o;have PW:=aK 10 c.o;have QX:=Go.aJ.cJ (i:=10) c.o;have PX:=aK 11 c.o;have QY:=Go.aJ.cJ (i:=11) c.o;have PY:=aK 12 c.o;have Ij:=Go.aJ.cJ (i:=12) c.o;have PZ:=aK 13 c.o;have Ik:=Go.aJ.cJ (i:=13) c.o;have P0:=aK 14 c.o;have QZ:=Go.aJ.cJ (i:=14) c.o;have P1:=aK 15 c.o;have Il:=Go.aJ.cJ (i:=15) c.o;have kb:w.heap.size+3<V.heap.size:=bF c.o;have nd:w.heap.size+1<V.heap.size:=bF c.i;have cK:=G (c.done [.int .i64 id,.int .i64 c_,.int .i64 gq,.int .i64 dj,.int .i64 kd,.slice u O B,.int .i64 o,.string bP,.int .i64 K,.int .i64 L,.int .i64 y,.slice C 0 E,.slice A 0 F,.string fm,.string e5,.slice g P r] rfl)
  go_wp2;refine jT (CA (fn:=f120) rfl _ _ (w.heap.size+3) 44 _ (0,0) _ rfl cK.out.1 LG rfl Li) rfl ?_;exact⟨⟨fm,e5,rfl⟩,cK.out.2⟩
 ·have v0:V.cell? ⟨w.heap.size+2,0,none⟩=some (.int .i64 k):=aK 0 d.out.v;have jZ:Hid (b<w.heap.size):=G d.out.fG.o.lt;go_upto_block 0 with fail
  go_cut []from 64 (fun cY=>∃fm e5,n_ w b a len (eg S rs (some ⟨l,Q,none⟩) X cc U rb aE rc) (gY id c_ gq dj kd u O B o bP K L y C E A F fm e5 g P r) (bM k s N D n va xM Y Z uF wc) cY)
  ·rcases ag with rfl|rfl|rfl
   ·have s7:V.cell? ⟨w.heap.size+1,13,none⟩=some (.string fm):=aK 13 d.out.i;have f13:=Go.aJ.cJ (i:=13) d.out.i;have cp:=bF d.out.i;have R:Hid (n_ w b a len (eg S rs (some ⟨l,Q,none⟩) X cc U rb aE rc) (gY id c_ gq dj kd u O B o bP K L y C E A F ⟨#[115,104,97,112,101]⟩ e5 g P r) (bM 1 s N D n va xM Y Z uF wc) (V.setCell ⟨w.heap.size+1,13,none⟩ (.string ⟨#[115,104,97,112,101]⟩))):=G (d.out.set 13 _);go_upto_region 6 with fail
    clear d s7 f13 cp v0;generalize (V.setCell ⟨w.heap.size+1,13,none⟩ (.string ⟨#[115,104,97,112,101]⟩))=bX at*
    go_wp2_with (go_at_call 15;(with_reducible refine(bl.out 5 ak ak _ (R.out.alloc _).fG.n).mono ?_);rintro e bn ⟨⟨j0,AL,Ub,rfl⟩,lj,qI⟩;have T:=G ((R.out.alloc _).next lj qI);obtain⟨m,rfl⟩:∃k:Nat,j0=(k:Int):=⟨j0.toNat,z⟩;obtain⟨t4,oP⟩:=aIy m z bX;have c4:bn.cell? ⟨bX.heap.size,m,none⟩=some (.string t4):=(by rw[nt (qI.block bX.heap.size ao (by have:=R.out.fG.s.size;have:=jZ.out;omega))];exact oP);have xs:bn.cell? ⟨w.heap.size+1,14,none⟩=some (.string e5):=aK 14 T.out.i;have f14:=Go.aJ.cJ (i:=14) T.out.i;have KM:=bF T.out.i;clear lj qI oP);go_meet;exact⟨_,_,T.out.set 14 _⟩
   ·go_upto_region 9 with(go_at_call 15;(with_reducible refine(bl.out 2 ak ak _ (d.out.alloc _).fG.n).mono ?_);rintro e bn ⟨⟨j0,AL,Ub,rfl⟩,lj,qI⟩;have T:=G ((d.out.alloc _).next lj qI);obtain⟨m,rfl⟩:∃k:Nat,j0=(k:Int):=⟨j0.toNat,z⟩;obtain⟨t4,oP⟩:=aDT m z V;have c4:bn.cell? ⟨V.heap.size,m,none⟩=some (.string t4):=(by rw[nt (qI.block V.heap.size ao (by have:=d.out.fG.s.size;have:=jZ.out;omega))];exact oP);have s7:bn.cell? ⟨w.heap.size+1,13,none⟩=some (.string fm):=aK 13 T.out.i;have f13:=Go.aJ.cJ (i:=13) T.out.i;have KM:=bF T.out.i;clear lj qI oP)
    have i3:Hid (n_ w b a len (eg S rs (some ⟨l,Q,none⟩) X cc U rb aE rc) (gY id c_ gq dj kd u O B o bP K L y C E A F t4 e5 g P r) (bM 2 s N D n va xM Y Z uF wc) (bn.setCell ⟨w.heap.size+1,13,none⟩ (.string t4))):=G (T.out.set 13 _);clear d T s7 f13 KM v0 c4;generalize (bn.setCell ⟨w.heap.size+1,13,none⟩ (.string t4))=a_ at*
    go_wp2_with (first
     |(go_at_call 200;(with_reducible refine(bH.out _ i3.out.fG.n).mono ?_);rintro e bi ⟨⟨Sd,Sl,rfl,ai,xd⟩,rm,af⟩;have ir:=G (i3.out.next rm af);clear rm af)
     |(go_at_call 119;(with_reducible refine(hV.out Sd Sl _ ai xd).mono ?_);rintro e w7 ⟨⟨Fb,rfl,aw⟩,iu⟩;have gI:=G (ir.out.K iu);have xs:w7.cell? ⟨w.heap.size+1,14,none⟩=some (.string e5):=aK 14 gI.out.i;have f14:=Go.aJ.cJ (i:=14) gI.out.i;have an:=bF gI.out.i;have Uu:(1:Int)<=(Fb.size:Int):=z))
    go_meet;exact⟨_,_,gI.out.set 14 _⟩
   ·have ff:=al.out;go_upto_region 11 with fail
    clear v0
    go_wp2;go_loopw [9] (fun i wr=>∃(j:Nat) (fm e5:ByteArray),j<=S.bw.length/\i=.int .i64 j/\n_ w b a len (eg S rs (some ⟨l,Q,none⟩) X cc U rb aE rc) (gY id c_ gq dj kd u O B o bP K L y C E A F fm e5 g P r) (bM 3 s N D n va xM Y Z uF wc) wr) (fun i _=>S.bw.length-(RowKit.intOf i).toNat);case atStart=>exact⟨0,fm,e5,dx _,rfl,d.out⟩
    case round=>
     clear d;obtain⟨j,fm,e5,aa,rfl,b'⟩:=hrel;have ba:wr.cell? ⟨w.heap.size,2,none⟩=some (.slice (some ⟨l,Q,none⟩) S.bw.length cc):=aK 2 b'.g;by_cases au:j<S.bw.length
     ·have jq:(j:Int)<S.bw.length:=z;have av:(0:Int)<=(j:Int):=z;have c1:=(jH.out wr b'.fG j au).2;have f:=G b';have sl:=G au;generalize AE:((S.bw[j].2:Nat):Int)=aj at*;clear AE b' au;go_upto_if 54 with fail
      generalize (aj==3)=q;cases q
      ·go_wp2;exact⟨⟨j+1,fm,e5,by have:=sl.out;omega,bG,f.out⟩,by simp[RowKit.intOf];have:=sl.out;omega⟩
      ·have s7:wr.cell? ⟨w.heap.size+1,13,none⟩=some (.string fm):=aK 13 f.out.i;have f13:=Go.aJ.cJ (i:=13) f.out.i;have cp:=bF f.out.i;have R:Hid (n_ w b a len (eg S rs (some ⟨l,Q,none⟩) X cc U rb aE rc) (gY id c_ gq dj kd u O B o bP K L y C E A F ⟨#[110,111,116,98,101,102,111,114,101]⟩ e5 g P r) (bM 3 s N D n va xM Y Z uF wc) (wr.setCell ⟨w.heap.size+1,13,none⟩ (.string ⟨#[110,111,116,98,101,102,111,114,101]⟩))):=G (f.out.set 13 _);go_upto_region 16 with fail
       clear f s7 f13 cp ba c1;generalize (wr.setCell ⟨w.heap.size+1,13,none⟩ (.string ⟨#[110,111,116,98,101,102,111,114,101]⟩))=bX at*;have ba:bX.cell? ⟨w.heap.size,2,none⟩=some (.slice (some ⟨l,Q,none⟩) S.bw.length cc):=aK 2 R.out.g;have bo:=(jH.out bX R.out.fG j sl.out).1;have xs:bX.cell? ⟨w.heap.size+1,14,none⟩=some (.string e5):=aK 14 R.out.i;have f14:=Go.aJ.cJ (i:=14) R.out.i;have ix:=bF R.out.i;generalize S.bw[j].1=nm at*
       go_wp2;exact⟨⟨j+1,_,nm,by have:=sl.out;omega,bG,R.out.set 14 _⟩,by simp[RowKit.intOf];have:=sl.out;omega⟩
     ·have jq:¬(j:Int)<S.bw.length:=z
      go_wp2;go_meet;exact⟨_,_,b'⟩
  case rest=>
   obtain⟨ae,ad,c⟩:=hcut;obtain⟨ei,hA,gU,kf,mn,rf,pU,pV,vK,vL,vI,vJ,xr,s7,xs,uf⟩:=sD c.i;have g3:=aK 0 c.o;have z0:=Go.aJ.cJ (i:=0) c.o;have di:=aK 1 c.o;have cy:=Go.aJ.cJ (i:=1) c.o;have dL:=aK 2 c.o;have dz:=Go.aJ.cJ (i:=2) c.o;have fN:=aK 3 c.o;have z3:=Go.aJ.cJ (i:=3) c.o;have gt:=aK 4 c.o;have z4:=Go.aJ.cJ (i:=4) c.o;have g4:=aK 5 c.o;have z5:=Go.aJ.cJ (i:=5) c.o;have g9:=aK 6 c.o;have eO:=Go.aJ.cJ (i:=6) c.o;have P2:=aK 7 c.o;have CR:=Go.aJ.cJ (i:=7) c.o;have P3:=aK 8 c.o;have ry:=Go.aJ.cJ (i:=8) c.o;have P4:=aK 9 c.o;have z9:=Go.aJ.cJ (i:=9) c.o;have PW:=aK 10 c.o;have QX:=Go.aJ.cJ (i:=10) c.o;have PX:=aK 11 c.o;have QY:=Go.aJ.cJ (i:=11) c.o;have PY:=aK 12 c.o;have Ij:=Go.aJ.cJ (i:=12) c.o;have PZ:=aK 13 c.o;have Ik:=Go.aJ.cJ (i:=13) c.o;have P0:=aK 14 c.o;have QZ:=Go.aJ.cJ (i:=14) c.o;have P1:=aK 15 c.o;have Il:=Go.aJ.cJ (i:=15) c.o;have kb:w.heap.size+3<wc.heap.size:=bF c.o;have nd:w.heap.size+1<wc.heap.size:=bF c.i;have cK:=G (c.done [.int .i64 id,.int .i64 c_,.int .i64 gq,.int .i64 dj,.int .i64 kd,.slice u O B,.int .i64 o,.string bP,.int .i64 K,.int .i64 L,.int .i64 y,.slice C 0 E,.slice A 0 F,.string ae,.string ad,.slice g P r] rfl)
   go_wp2;refine jT (CA (fn:=f120) rfl _ _ (w.heap.size+3) 44 _ (0,0) _ rfl cK.out.1 LG rfl Li) rfl ?_;exact⟨⟨ae,ad,rfl⟩,cK.out.2⟩
end Go.bS
namespace Go.bS
open Go Go.Proofs.Tryz Go.Proofs Go.RowKit Go.Lib Go.aJ
variable{w w':World}{b n:Nat}{a:Option Addr}{N:Int}{e:Ending}
theorem eQ.next(c:uW w b a n N e w'){base:Nat}(A:b<base):eQ (fa base) w w':=
 ⟨by have:=c.2.2.1;omega,fun g an _=>c.2.2.2.1 g (by have:base<=g:=an;omega)⟩
variable{r:Nat}
theorem eQ.aIl{base:Nat}(b:r<base)(i:Nat)(u:Value):eQ (fa base) w (w.setCell ⟨r,i,none⟩ u):=
 (eQ.refl (fa base) w).set (fun(h:base<=r)=>z) i u
structure sv (w:World) (a:Option Addr) (n:Nat) (aI:Array Value) (wr:World):Prop where
 g:wr.heap[w.heap.size]? =some (.cells aI 29 (0,0))
 m:∃c bE:Nat,wr.heap[w.heap.size+1]? =some (.cells #[.slice a n c,.int .i64 bE] 54 (0,0))
 b:β w wr
variable{wr:World}{aI:Array Value}
theorem sv.num(h:sv w a n aI wr)(d:kR w a n)(f:∀q,a=some q->0<n->q.block<w):el wr (w.heap.size+1) a n:=by
 obtain⟨c,m,l⟩:=h.m;refine⟨c,m,l,?_,fun q k ae e=>?_⟩;rcases d with d|⟨b,o,rfl,g⟩;exact .inl d;exact .inr ⟨b,o,rfl,fun i hi=>by obtain⟨x,j⟩:=g i hi;exact⟨x,az h.b (show b<w from f _ rfl z) j⟩⟩
 have:=f q k ae;omega
theorem sv.next(h:sv w a n aI wr)(d:uW wr (w.heap.size+1) a n N e w'):sv w a n aI w':=by
 obtain⟨_,⟨c,i,g,_⟩,f,b,j,ai,ag⟩:=d;refine⟨by rw[b _ z];exact h.g,⟨c,i,g⟩,⟨j.trans h.b.os,ai.trans h.b.tape,ag.trans h.b.output,by rw[f];exact h.b.size,fun k l=>by rw[b _ z];exact h.b.block k l⟩⟩
theorem sv.K(h:sv w a n aI wr)(A:Below (w.heap.size+2) wr w'):sv w a n aI w':=by
 obtain⟨c,d,b⟩:=h.m;exact⟨by rw[A.block _ z];exact h.g,⟨c,d,by rw[A.block _ z];exact b⟩,h.b.trans (A.mono z)⟩
theorem sv.lt(h:sv w a n aI wr):w.heap.size+2<=wr.heap.size:=by
 obtain⟨c,d,b⟩:=h.m;have:=bF b;omega
theorem sv.start(w:World)(a:Option Addr)(n c:Nat)(aI:Array Value):sv w a n aI ((w.alloc (.cells aI 29)).alloc (.cells #[.slice a n c,.int .i64 0] 54)):=by
 have b:(w.alloc (.cells aI 29)).heap.size=w.heap.size+1:=ao;have I:=cW (w.alloc (.cells aI 29)) (.cells #[.slice a n c,.int .i64 0] 54);rw[b]at I;have A:=(br (w.alloc (.cells aI 29)).heap.size (w.alloc (.cells aI 29))).alloc (aZ _) (.cells #[.slice a n c,.int .i64 0] 54);exact⟨(A.block _ z).trans (cW w _),⟨c,0,I⟩,((br _ _).alloc (aZ _) _).alloc ao _⟩
structure m2 (w:World) (a:Option Addr) (n:Nat) (aI:Array Value) (wr:World) (aT:Array Value) (cY:World):Prop where
 r:sv w a n aI cY
 k:eQ (fa (w.heap.size+2)) wr cY
 k7:w.heap.size+2<=wr.heap.size
 v:cY.heap[wr.heap.size]? =some (.cells aT 42 (0,0))
section
variable {w wr cY w':World} {a:Option Addr} {n:Nat} {aI:Array Value} {aT:Array Value}
theorem m2.next(h:m2 w a n aI wr aT cY)(b:uW cY (w.heap.size+1) a n N e w'):m2 w a n aI wr aT w':=by
 have c:=h.k7;exact⟨h.r.next b,h.k.trans (eQ.next b z),c,by rw[b.2.2.2.1 _ z];exact h.v⟩
theorem m2.K(h:m2 w a n aI wr aT cY)(A:β cY w'):m2 w a n aI wr aT w':=
 ⟨h.r.K (A.mono h.r.lt),h.k.trans (.hP A),h.k7,by rw[A.block _ (bF h.v)];exact h.v⟩
theorem m2.alloc(h:m2 w a n aI wr aT cY)(o:Obj):m2 w a n aI wr aT (cY.alloc o):=h.K ((br _ _).alloc (aZ _) _)
theorem m2.drew(h:m2 w a n aI wr aT cY):m2 w a n aI wr aT cY.drew:=h.K ((br _ _).drew)
theorem m2.set(h:m2 w a n aI wr aT cY)(i:Nat)(u:Value):m2 w a n aI wr (aT.setIfInBounds i u) (cY.setCell ⟨wr,i,none⟩ u):=
 ⟨h.r.K ((br _ _).setCell h.k7 _),⟨by simpa using h.k.1,fun b H I=>by rw[g_ _ _ _ _ (fun(e:b=wr.heap.size)=>z)];exact h.k.2 b H I⟩,h.k7,hT h.v _⟩
theorem m2.num(h:m2 w a n aI wr aT cY)(b:kR w a n)(c:∀q,a=some q->0<n->q.block<w):el cY (w.heap.size+1) a n:=h.r.num b c
end
def x3(wr:World)(aT:Array Value)(cY:World):Prop:=∃u,aU (fa (wr.heap.size+1)) 1 cY aT u/\e0 1 u
variable{cY:World}
theorem x3.next{aT:Array Value}(h:x3 wr aT cY)(b:uW cY (w.heap.size+1) a n N e w')(c:w.heap.size+2<=wr.heap.size):x3 wr aT w':=by
 obtain⟨u,H,I⟩:=h;exact⟨u,H.ex (eQ.next b z),I⟩
theorem x3.zero(wr cY:World):x3 wr fh cY:=⟨gM 0,aU.iW _ 1 cY 0 bO 0 0 0 none 0 none 0,.gM 0 ak ak⟩
theorem x3.gX{aT:Array Value}(h:x3 wr aT cY):∃k s N S n ca cl cc ra rl rc,aT=bM k s N S n ca cl cc ra rl rc:=by
 obtain⟨⟨k,s,N,S,n,cs,aQ⟩,H,_⟩:=h;obtain⟨_,_,_,_,e,_⟩:=H.gX;exact⟨_,_,_,_,_,_,_,_,_,_,_,e⟩
variable{d:Nat}{v:Value}
theorem je.next{base:Nat}{l:List (List bC)}(h:je base d w v l)(c:uW w b a n N e w')(A:b<base):je base d w' v l:=h.ex (eQ.next c A)
theorem je.set{i base:Nat}{u:Value}{l:List (List bC)}(h:je base d w v l)(b:r<base):je base d (w.setCell ⟨r,i,none⟩ u) v l:=h.ex (eQ.aIl b i u)
def avp(base:Nat)(s:ByteArray)(N:Int)(e:Ending)(w':World):Prop:=∃p c,e=.returned (.slice p 2 c)/\cz (fa base) (aU (fa base) 0) w' p [hG s,gD N 0]
theorem am2(s:ByteArray)(N:Int)(w:World):χ 196 #[s,N] w (avp w s N):=by
 go_enter func196,ntmps196
 go_wp2;go_ret;have A:=e4 w (.cells ((bM 1 s 0 0 0 none 0 0 none 0 0)++(bM 2 bO N 0 0 none 0 0 none 0 0)) 42);have c:=cW w (.cells ((bM 1 s 0 0 0 none 0 0 none 0 0)++(bM 2 bO N 0 0 none 0 0 none 0 0)) 42);refine⟨⟨_,_,rfl,ao,fun _=>⟨w.heap.size,0,rfl,aZ _,bF c,fun j d=>?_⟩⟩,A⟩;have:j=0∨j=1:=by simp at d;omega
 rcases this with rfl|rfl;exact⟨_,_,_,_,_,_,_,_,_,_,_,aU.iW _ 0 _ 1 s 0 0 0 none 0 none 0,aK 0 c,aK 1 c,aK 2 c,aK 3 c,aK 4 c,aK 5 c,aK 6 c⟩;exact⟨_,_,_,_,_,_,_,_,_,_,_,aU.iW _ 0 _ 2 bO N 0 0 none 0 none 0,aK 7 c,aK 8 c,aK 9 c,aK 10 c,aK 11 c,aK 12 c,aK 13 c⟩
end Go.bS
namespace Go.bS
open Go Go.Proofs Go.RowKit Go.Lib Go.aJ
variable{w:World}{n:Nat}
theorem atu{base:Nat}{e t:TypeId}{size:Nat}{v:Value}{aP:List Value}(h:w.ownsRow base e size v n aP){b:Nat}{cs:Array Value}{fr:Nat×Nat}(A:w.heap[b]? =some (.cells cs t fr))(ai:t≠e):some b≠v.ownBlock:=fun aj=>by
 rcases h.2 with⟨c,_⟩|⟨g,cap,f,I,d,c,_⟩
 ·subst c;simp[Value.ownBlock]at aj
 ·subst I
  simp[Value.ownBlock]at aj
  subst aj
  rw[A]at c
  injection c with c
  injection c with _ c _
  exact ai c
theorem m2.grown{wr cY w':World}{a:Option Addr}{aI:Array Value}{aT:Array Value}(h:m2 w a n aI wr aT cY)(A:Below (wr.heap.size+1) cY w'):m2 w a n aI wr aT w':=by
 have c:=h.k7;exact⟨h.r.K (A.mono z),⟨cO h.k.1 A.size,fun b H I=>(A.block b z).trans (h.k.2 b H I)⟩,c,(A.block _ z).trans h.v⟩
structure oE (w:World) (a:Option Addr) (n:Nat) (aI:Array Value) (cN:World) (bL:Nat) (fH:Value) (aQ:List (List bC)) (cY:World):Prop where
 k:m2 w a n aI cN #[.int .i64 5,.string bO,.int .i64 0,.int .i64 0,.int .i64 0,.slice (some ⟨bL,0,none⟩) 2 2,fH] cY
 o:je (cN.heap.size+1) 0 cY fH aQ
 s:cY.heap[bL]? =some (.cells #[.string li,.string k5] 9 (0,0))
 k7:cN.heap.size<bL
section
variable {w cN cY w':World} {a:Option Addr} {n bL:Nat} {aI:Array Value} {fH:Value} {aQ:List (List bC)}
theorem oE.next(h:oE w a n aI cN bL fH aQ cY){N:Int}{e:Ending}(b:uW cY (w.heap.size+1) a n N e w'):oE w a n aI cN bL fH aQ w':=by
 have d:=h.k.k7;have c:=h.k7;exact⟨h.k.next b,h.o.next b z,by rw[b.2.2.2.1 _ z];exact h.s,c⟩
theorem oE.K(h:oE w a n aI cN bL fH aQ cY)(A:β cY w'):oE w a n aI cN bL fH aQ w':=
 ⟨h.k.K A,h.o.K A,by rw[A.block _ (bF h.s)];exact h.s,h.k7⟩
theorem oE.alloc(h:oE w a n aI cN bL fH aQ cY)(o:Obj):oE w a n aI cN bL fH aQ (cY.alloc o):=h.K ((br _ _).alloc (aZ _) _)
theorem oE.drew(h:oE w a n aI cN bL fH aQ cY):oE w a n aI cN bL fH aQ cY.drew:=h.K ((br _ _).drew)
theorem oE.push{e d:World}(f:oE w a n aI cN bL fH aQ e)(h:oE w a n aI cN bL fH aQ cY){p:Option Addr}{u:List bC}{c:Nat}(r:cz (fa e.heap.size) (aU (fa e.heap.size) 0) cY p u){o:Obj}{g cap:Nat}(an:(cY.alloc o).grownBy d fH.ownBlock)(B:fH.ownBlock=some g∨g=cY.heap.size+1) {ss:List Value}(i:ss.length=aQ.length)(k:∀j (H:j<ss.length) (I:j<aQ.length),∃a c,ss[j]=.slice a aQ[j].length c/\cz (jh (cN.heap.size+1) fH) (aU (jh (cN.heap.size+1) fH) 0) cY a aQ[j]) (t:d.ownsRow (cN.heap.size+1) 36 1 (.slice (some ⟨g,0,none⟩) (aQ.length+1) cap) (aQ.length+1) (ss++[.slice p u.length c])): oE w a n aI cN bL (.slice (some ⟨g,0,none⟩) (aQ.length+1) cap) (aQ++[u]) (d.setCell ⟨cN.heap.size,6,none⟩ (.slice (some ⟨g,0,none⟩) (aQ.length+1) cap)):=by
 have y:cN.heap.size+1<=cY.heap.size:=bF h.k.v;have m:cN.heap.size+1<=e.heap.size:=bF f.k.v;have q:Below (cN.heap.size+1) cY d:=((br _ _).alloc y o).grown an bz (fun b A=>(h.o.lt b A).1);have s:=h.k.grown q;have x:=je.push h.o (f.o.p1 (aZ _) m r) an B i k t;obtain⟨D,H,I,_⟩:=h.o.o;have l:d.heap[bL]? =some (.cells #[.string li,.string k5] 9 (0,0)):=by rw[an.block bL (by have:=bF h.s;simp;omega) (atu I h.s ak),CU cY _ bL (bF h.s)];exact h.s
 have C:=h.k7;exact⟨s.set 6 _,x.set z,by rw[g_ _ _ _ _ (show bL≠cN.heap.size by omega)];exact l,C⟩
theorem oE.value(h:oE w a n aI cN bL fH aQ cY)(d:aQ.length<=3)(c:∀r∈aQ,tp r):∃dY,dY=#[.int .i64 5,.string bO,.int .i64 0,.int .i64 0,.int .i64 0,.slice (some ⟨bL,0,none⟩) 2 2,fH]/\x3 cN dY cY:=by
 obtain⟨ra,rc,rfl,e⟩:=h.o.aQ z;have f:=h.k7;refine⟨_,rfl,hS aQ,⟨some ⟨bL,0,none⟩,2,ra,rc,rfl,⟨ak,fun _=>⟨bL,0,rfl,f,bF h.s,fun i hi=>?_⟩⟩,e⟩,.hS aQ d c⟩;have:i=0∨i=1:=by simp at hi;omega
 rcases this with rfl|rfl
 ·exact aK 0 h.s
 ·exact aK 1 h.s
end
end Go.bS
