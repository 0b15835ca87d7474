/- ItemInForce, one part of the proof. -/
import Derived.Test.YtdhifebhlocikaaGreatDoorP16
set_option linter.all false
set_option maxRecDepth 100000
set_option maxHeartbeats 16000000
namespace Go.bk.N
open Go Go.Proofs.Tryz Go.cE Go.Proofs Go.RowKit Go.di Go.aM
section
variable {ρ:cj} {σ:b9} {h:ay} {w:Γ}
theorem X4{b e o:Nat}{l:List U}(a:Fy h b e o l=true)(j:c_ ρ σ h w){p:cE.nT}(ag:σ b=some p):∃(arr:Array Value) (bd:Nat×Nat) (cs:List Value),w.heap[p.ba]? =some (Obj.cells arr e bd)/\b5 ρ σ l=some cs/\∀i,i<l.length->arr[p.del+o+i]? =cs[i]? :=by
 unfold Fy at a;split at a
 ·rename_i s vs t wr G;simp only[dW]at a;obtain rfl:=gK a.1;have I:=U.un a.2;obtain⟨q,arr,bd,cs,d,f,r,n,u,k,x,m,_⟩:=j.cells G;obtain rfl:p=q:=gm (ag.symm.trans d);have g:=ur l.length (vF o k);refine⟨arr,bd,(cs.drop o).take l.length,f,by rw[←g,I],fun i hi=>?_⟩;have c:=iY List.length I;simp only[mw,pm]at c;rw[k4,m (o+i) z,pk,ci hi,Ld]
 ·cases a
theorem X5{b e o:Nat}{l:List U}(a:Fy h b e o l=true)(f:c_ ρ σ h w){p:cE.nT}(ag:σ b=some p):l.length=0∨o+l.length<=p.tot:=by
 unfold Fy at a;split at a
 ·rename_i k vs t wr G;simp only[dW]at a;have I:=U.un a.2;obtain⟨q,arr,bd,cs,d,g,j,i,n,m,r,s,_⟩:=f.cells G;obtain rfl:p=q:=gm (ag.symm.trans d);have c:=iY List.length I;simp only[mw,pm]at c;omega
 ·cases a
def SB{p:cE.nT}{o ai l:Nat}{c:Option Nat}(b:0<ai)(a:M5 c l=true)(h:l=0∨o+l*ai<=p.tot):l<=jP p o ai c:=by
 cases c with
 |some n=>exact hZ a
 |none=>
  show l<=(p.tot-o)/ai;rcases h with h|h
  subst h;exact dh _;exact(atE b).2 z
def arx:∀(l:List bD) (vs:List U),u' h vs l=true->l.length*4<=vs.length
 |[],_,_=>by simp
 |r::l,hd::op::aO::a::vs,b=>by simp only[u',dW]at b;have:=arx l vs b.2;simp;omega
 |r::l,[],b=>by simp[u']at b
 |r::l,[_],b=>by simp[u']at b
 |r::l,[_,_],b=>by simp[u']at b
 |r::l,[_,_,_],b=>by simp[u']at b
def axZ(n:Nat):aT ρ σ (.int .i64 (.ofNat n))=some (.int .i64 (n:Int)):=by simp[aT]
def aiV:∀cs,b5 ρ σ (so cs)=some (sn cs)
 |[]=>by simp[so,sn,b5]
 |c::l=>by simp[so,sn,b5,Be,aT,aiV l]
def zy(a:List Nat)(i:Nat):Nat:=a.getD i 1
theorem aiY(F:Nat->Nat):∀(ss:List (ByteArray×Nat)) (a:List Nat) (k:Nat),a.length=ss.length->(∀i (hi:i<a.length),a[i]=F (k+i))->b5 ρ σ (EA ss a)=some (rY ss F k)
 |[],[],_,_,_=>by simp[EA,rY,b5]
 |c::l,m::f,k,d,b=>by
  have af:=b 0 (CP _)
  simp only[AG,hY]at af
  have e:=aiY F l f (k+1) (by simpa using d) fun i hi=>by
   have:=b (i+1) (Wn hi)
   simp only[H2]at this
   rw[this,show k+1+i=k+(i+1) by omega]
  simp[EA,rY,b5,Be,aT,e,←af]
def adL:∀(ss:List (Ψ×Nat)) (a:List Nat),a.length=ss.length->(EA ss a).length=ss.length*3
 |[],[],_=>rfl
 |c::l,m::b,h=>by simp[EA,adL l b (by simpa using h)];omega
def aiU:∀l,b5 ρ σ (Fv l)=some (s5 l)
 |[]=>by simp[Fv,s5,b5]
 |a::l=>by simp[Fv,s5,b5,aT,aiU l]
def XV:∀l,(Fv l).length=l.length
 |[]=>rfl
 |a::l=>by simp[Fv,XV l]
def Yt:∀l,(so l).length=l.length*2
 |[]=>rfl
 |a::l=>by simp[so,Yt l];omega
def awV{a:U}{args:List Nat}(d:XW h a args=true)(m:c_ ρ σ h w){c:Φ}(f:aT ρ σ a=some c):∃j k ac,c=.slice (some ⟨j,k,none⟩) args ac/\rp w (some ⟨j,k,none⟩) args/\Lo w (some ⟨j,k,none⟩) args/\args.length<=ac:=by
 unfold XW at d;split at d;rename_i b o l cap;simp only[dW]at d;obtain rfl:=gK d.1.1;simp only[aT,iW]at f;obtain⟨p,ag,rfl⟩:=f;let⟨arr,bd,cs,g,n,r⟩:=X4 d.2 m ag;have q:=X5 d.2 m ag;rw[XV]at q;rw[aiU]at n;cases n;refine⟨p.ba,p.del+o,_,rfl,λ_=>⟨_,_,rfl,de g,λi hi=>?_⟩,λ_=>⟨_,_,rfl,_,_,g⟩,SB al d.1.2 z⟩;simp only[World.cell?,g];rw[r i (by rw[XV];exact hi)];exact XU args i hi
 .rename_i b o l e;have:args=[]:=by simpa using d
  subst this;simp only[aT,iW]at f;obtain⟨p,ag,rfl⟩:=f;exact⟨_,_,_,rfl,λh=>by simp at h,λh=>by simp at h,dh _⟩
 cases d
theorem ary(f:c_ ρ σ h w){B:Nat}:∀(l:List bD) (vs:List U) (cs:List Value) (base:Nat),u' h vs l=true->b5 ρ σ vs=some cs->(∀i,i<vs.length->w.cell? ⟨B,base+i,none⟩=cs[i]?)->∀i (hi:i<l.length),∃e ac,II w B (base+i*4) l[i] e ac/\Lo w e l[i].args/\l[i].args.length<=ac
 |[],_,_,_,_,_,_,i,hi=>by simp at hi
 |r::l,hd::op::aO::a::vs,cs,base,b,c,d,i,hi=>by
  simp only[u',dW]at b
  obtain⟨⟨⟨⟨bN,dx⟩,gc⟩,z⟩,g⟩:=b
  have bN:=U.beq_eq bN
  have dx:=U.beq_eq dx
  have gc:=U.beq_eq gc
  subst bN dx gc
  simp only[b5,Be,axZ]at c
  cases aL:aT ρ σ a with
  |none=>rw[aL]at c;simp at c
  |some ca=>
   cases J:b5 ρ σ vs with
   |none=>rw[aL,J]at c;simp at c
   |some x=>
    rw[aL,J]at c
    simp only[cx]at c
    subst c
    cases i with
    |zero=>
     obtain⟨s,u,ac,rfl,q,m,k⟩:=awV z f aL
     have y:=d 0 aq
     have n:=d 1 aq
     have o:=d 2 aq
     have w3:=d 3 aq
     refine⟨_,ac,⟨?_,?_,?_,?_,q,⟨s,u,rfl⟩⟩,m,k⟩
     ·simpa using y
     ·simpa using n
     ·simpa using o
     ·simpa using w3
    |succ i=>
     have t:=ary f l vs x (base+4) g J (fun j A=>by
      have:=d (j+4) bw
      rw[show base+4+j=base+(j+4) by omega,this]
      simp) i (by simpa using hi)
     rw[show base+(i+1)*4=base+4+i*4 by omega]
     exact t
 |r::l,[],_,_,b,_,_,_,_=>by simp[u']at b
 |r::l,[_],_,_,b,_,_,_,_=>by simp[u']at b
 |r::l,[_,_],_,_,b,_,_,_,_=>by simp[u']at b
 |r::l,[_,_,_],_,_,b,_,_,_,_=>by simp[u']at b
theorem az1{S:c8}{d:List Nat}{v:U}{c:Value}(o:Bp S d (some (v,h))=true)(g:c_ ρ σ h w)(e:aT ρ σ v=some c):∃F a b,c=.tuple #[.agg F,.int .i64 a,.int .i64 b]/\xR S (zy d) S.dp w F/\∀i,1<=zy d i/\zy d i<=5:=by
 unfold Bp at o;split at o
 ·rename_i nm dk dw A M' cc bS r ev aW rb aK rX rc an x y aX rE;cases rE;simp only[dW]at o;obtain⟨⟨⟨⟨⟨⟨⟨⟨⟨⟨⟨⟨⟨bN,dx⟩,gc⟩,tG⟩,I⟩,T⟩,n⟩,O⟩,C⟩,D⟩,f⟩,L⟩,M⟩,N⟩:=o;have bN:=U.beq_eq bN;have dx:=U.beq_eq dx;have gc:=U.beq_eq gc;subst bN dx gc;obtain rfl:=gK tG;obtain rfl:=gK I;obtain rfl:=gK T;have n:=gK n;have fx:∀i,1<=zy d i/\zy d i<=5:=fun i=>by
   unfold zy;rw[qt];cases hi:d[i]? with
   |none=>simp
   |some m=>have:=iq.1 O m (CO hi);simp only[dW]at this;exact⟨by simpa using this.1,by simpa using this.2⟩
  simp only[aT,b5,Be,iW]at e;cases k:σ dw with
  |none=>rw[k]at e;simp at e
  |some t=>
   cases s:σ bS with
   |none=>rw[k,s]at e;simp at e
   |some j=>
    cases B:σ rb with
    |none=>rw[k,s,B]at e;simp at e
    |some u=>
     rw[k,s,B]at e;simp only[ov,cx]at e;obtain⟨l,K,rfl⟩:=e;subst K;obtain⟨V,J,aa,bZ,cz,a3⟩:=X4 C g k;rw[aiV]at cz;cases cz;obtain⟨ad,m3,j',G,E,cF⟩:=X4 D g s;rw[aiY (zy d) S.aJ d 0 n fun i hi=>by simp[zy,hi]]at E;cases E;have Z:=X5 C g k;rw[Yt]at Z;have X:=X5 D g s;rw[adL _ _ n]at X;unfold arw at f;split at f
     ·rename_i bv Q t3 ab W;simp only[dW]at f;obtain rfl:=gK f.1;obtain⟨q,arr,bd,cs,P,R,bb,bI,dr,Y,hG,jR,_⟩:=g.cells W;obtain rfl:u=q:=gm (B.symm.trans P);refine⟨_,x,y,rfl,⟨_,_,_,_,_,_,rfl,⟨t.ba,t.del+A,V,J,rfl,bZ,fun i hi=>?_⟩,⟨j.ba,j.del+r,rfl,⟨_,_,G⟩,fun i hi=>?_⟩,⟨u.ba,u.del+aK,rfl,⟨_,_,R⟩,?_⟩,SB al L z,SB al M z,SB al N (by have:=arx _ _ f.2;rw[pm]at this;omega)⟩,fx⟩
      ·have H:=Ys S.bB i hi;have b7:i*2+1<(so S.bB).length:=by rw[Yt];omega
       rw[a3 (i*2) z,show t.del+A+i*2+1=t.del+A+(i*2+1) by omega,a3 (i*2+1) b7];exact H
      ·have H:=adK (zy d) S.aJ 0 i hi;rw[gy]at H;have b7:i*3+2<(EA S.aJ d).length:=by rw[adL _ _ n];omega
       simp only[World.cell?,G];rw[cF (i*3) z,show j.del+r+i*3+1=j.del+r+(i*3+1) by omega,cF (i*3+1) z,show j.del+r+i*3+2=j.del+r+(i*3+2) by omega,cF (i*3+2) b7];exact H
      ·refine ary g S.dp (Q.drop aK) (cs.drop aK) (u.del+aK) f.2 (vF aK Y) fun i hi=>?_;simp only[pm]at hi;rw[k4,hG (aK+i) z,Ld]
     ·cases f
 ·cases o
end
def Ta:kM prog ol:=λg ar=>⟨0,by
 have:prog.globals.size=13:=aw
 rw[this]at ar
 simp[ol,ar]⟩
def T8(ρ:cj)(w:Γ):c_ ρ ol (hA ⟨.e,13⟩ []) w:=by exact ab3
def ahG(S:c8)(w':Γ)(e:Ending):Prop:=∃F a b M,e=.returned (.tuple #[.agg F,.int .i64 a,.int .i64 b])/\(∀i,1<=M i/\M i<=5)/\xR S M S.dp w' F/\2<=M S.an
theorem Km(S:c8)(j t:List Nat)(I:2<=zy j S.an)(aj:t.all (fun n=>decide (n<256))=true)(d:Bp S j ((i0 prog km j6.find 3000).call 17 [.str t] (hA ⟨.e,13⟩ []))=true)(w:World): Calls prog 17 #[.string (e2 t)] w fun e w'=>ahG S w' e/\Below w.heap.size w w':=by
 obtain⟨ρ,o,_⟩:=G_ (nH prog) (fun _=>(0,0)) (fun _=>#[]);cases f:(i0 prog km j6.find 3000).call 17 [.str t] (hA ⟨.e,13⟩ [])with
 |none=>rw[f]at d;cases d
 |some x=>
  obtain⟨v,p⟩:=x;rw[f]at d;have aL:b5 ρ ol [.str t]=some [.string (e2 t)]:=by simp only[b5,aT];rw[ci aj]
  refine(Al follows (ρ:=ρ) o (k6.rB tN) uw azg Ta aL (l:=[]) rfl rfl (T8 ρ w) f rfl).mono ?_;rintro e w' ⟨c,q,rfl,i⟩;obtain⟨g,a,b,rfl,k,m⟩:=az1 d i.h i.v;exact⟨⟨g,a,b,_,rfl,m,k,I⟩,i.b⟩
def Cx(n:Nat):List Nat:=if n=0 then ad5 else if n=1 then ad6 else if n=2 then ad7 else if n=3 then ad8 else if n=4 then ad9 else ad_
def aGZ(n:Nat)(w:Γ):χ 17 #[.string (e2 (Cx n))] w λe w'=>ahG (cG n) w' e:=by unfold cG Cx;by_cases af:n=0;rw[ci af,ci af];exact Km _ _ _ al aw aGS w;rw[bo af,bo af];by_cases H:n=1;rw[ci H,ci H];exact Km _ _ _ al aw aGT w;rw[bo H,bo H];by_cases I:n=2;rw[ci I,ci I];exact Km _ _ _ al aw aGU w;rw[bo I,bo I];by_cases b:n=3;rw[ci b,ci b];exact Km _ _ _ al aw aGV w;rw[bo b,bo b];by_cases a:n=4;rw[ci a,ci a];exact Km _ _ _ al aw aGW w;rw[bo a,bo a];exact Km _ _ _ al aw aGX w
def aJC(t:List Nat)(x:Option (U×ay)):Bool:=match x with
 |some (v,_)=>U.beq v (.str t)
 |none=>false
def azh:km 18=none:=aw
theorem KE(k:Nat)(t:List Nat)(aj:t.all (fun n=>decide (n<256))=true)(a:aJC t ((i0 prog km j6.find 30).call 18 [.int .i64 (.ofNat k)] (hA ⟨.e,13⟩ []))=true)(w:World): Calls prog 18 #[.int .i64 (k:Int)] w fun e w'=>e=.returned (.string (e2 t))/\Below w.heap.size w w':=by
 obtain⟨ρ,f,_⟩:=G_ (nH prog) (fun _=>(0,0)) (fun _=>#[]);cases b:(i0 prog km j6.find 30).call 18 [.int .i64 (.ofNat k)] (hA ⟨.e,13⟩ [])with
 |none=>rw[b]at a;cases a
 |some x=>obtain⟨v,g⟩:=x;rw[b]at a;have J:=U.beq_eq (show U.beq v (.str t)=true from a);subst J;refine(Al follows (ρ:=ρ) f (k6.rB tN) uw azh Ta (args:=[.int .i64 (.ofNat k)]) (cs:=[.int .i64 (k:Int)]) rfl (l:=[]) rfl rfl (T8 ρ w) b rfl).mono ?_;rintro e w' ⟨c,i,rfl,d⟩;have J:=d.v;simp only[aT]at J;rw[ci aj]at J;cases J;exact⟨rfl,d.b⟩
theorem aIK(n:Nat)(a:n<6)(w:World):Calls prog 18 #[.int .i64 (n:Int)] w fun e w'=>e=.returned (.string (e2 (Cx n)))/\Below w.heap.size w w':=by
 have:n=0∨n=1∨n=2∨n=3∨n=4∨n=5:=z;rcases this with rfl|rfl|rfl|rfl|rfl|rfl
 ·exact KE 0 ad5 aw aw w
 ·exact KE 1 ad6 aw aw w
 ·exact KE 2 ad7 aw aw w
 ·exact KE 3 ad8 aw aw w
 ·exact KE 4 ad9 aw aw w
 ·exact KE 5 ad_ aw aw w
end Go.bk.N
namespace Go.bk.N
open Go Go.Proofs Go.RowKit Go.di
open Go.aM (k_ uj er vq q5 Kx)
def Fr(t:Nat):Prop:=t=141∨t=60∨t=101∨t=3
structure i9 (w w':Γ):Prop where
 ai:w.heap.size<=w'.heap.size
 k:∀(b:Nat) (arr:Ω) (t:Nat) (bd:Nat×Nat),Fr t->w.heap[b]? =some (Obj.cells arr t bd)->w'.heap[b]? =some (Obj.cells arr t bd)
def i9.trans{a b c:Γ}(h:i9 a b)(g:i9 b c):i9 a c:=⟨c6 h.ai g.ai,λx arr t bd aj d=>g.k x arr t bd aj (h.k x arr t bd aj d)⟩
variable{w w':Γ}
def i9.K(G:β w w'):i9 w w':=⟨G.size,λb arr t bd _ h=>by rw[G.block b (de h)];exact h⟩
variable{b t:Nat}
def i9.set{cs:Ω}{fr:Nat×Nat}(G:w.heap[b]? =some (Obj.cells cs t fr))(aj:¬Fr t)(i:Nat)(u:Φ):i9 w (w.setCell ⟨b,i,none⟩ u):=
 ⟨aq,λc arr d bd a h=>by
  rw[ht _ _ _ _ (λe=>?_)]
  .exact h
  .rw[e,G]at h
   cases h
   exact aj a⟩
variable{a:Θ}{c:Nat}
def i9.next{f:Nat}{n:Nat}{N:Int}{e:Ending}{i:Nat}(g:w.heap[f]? =some (Obj.cells #[.slice a n c,i] 53 (0,0)))(d:vq w f a n N e w'):i9 w w':=
 ⟨by rw[d.2.2.1];exact aY _,λb arr t bd aj h=>by
  rw[d.2.2.2.1 b (λe=>?_)]
  .exact h
  .rw[e,g]at h
   cases h
   rcases aj with h|h|h|h<;>cases h⟩
def i9.cell(a:i9 w w')(aj:Fr t)(G:vx w b t)(o:Nat):w' ⟨b,o,none⟩=w ⟨b,o,none⟩:=by let⟨arr,bd,h⟩:=G;simp only[World.cell?,h,a.k b arr t bd aj h]
def i9.Vz(a:i9 w w')(aj:Fr t)(G:vx w b t):vx w' b t:=by let⟨arr,bd,h⟩:=G;exact⟨arr,bd,a.k b arr t bd aj h⟩
def vx.lt(h:vx w b t):b<w.heap.size:=by let⟨arr,bd,h⟩:=h;exact de h
def vx.K{B:Nat}(h:vx w b t)(a:b<B)(G:Below B w w'):vx w' b t:=by let⟨arr,bd,h⟩:=h;exact⟨arr,bd,by rw[G.block b a];exact h⟩
variable{ss:List (Ψ×Nat)}{M:Nat->Nat}
def A7.at(h:A7 w a ss M):s4 w a ss M:=by let⟨b,o,e,aj,c⟩:=h;exact⟨b,o,e,aj.lt,c⟩
variable{ra:Θ}
def A5.at{rs:List bD}(h:A5 w ra rs):wH w ra rs:=by let⟨b,o,e,aj,a⟩:=h;exact⟨b,o,e,aj.lt,λi hi=>by let⟨c,ac,H,_⟩:=a i hi;exact⟨c,ac,H⟩⟩
def A7.hN{d:Θ}(h:A7 w d ss M)(a:i9 w w'):A7 w' d ss M:=by let⟨b,o,e,aj,f⟩:=h;have c:=λo=>a.cell (t:=60) (.inr (.inl rfl)) aj o;exact⟨b,o,e,a.Vz (.inr (.inl rfl)) aj,λi hi=>by rw[c,c,c];exact f i hi⟩
def awW{l:List Nat}(h:rp w a l)(aj:Lo w a l)(d:i9 w w'):rp w' a l/\Lo w' a l:=by refine⟨λaf=>?_,λaf=>?_⟩;let⟨b,o,e,j,k⟩:=h af;let⟨f,g,c,G⟩:=aj af;rw[e]at c;cases c;exact⟨b,o,e,i4 j d.ai,λi hi=>by rw[d.cell (t:=3) (.inr (.inr (.inr rfl))) G];exact k i hi⟩;let⟨f,g,c,G⟩:=aj af;exact⟨f,g,c,d.Vz (.inr (.inr (.inr rfl))) G⟩
def A5.hN{rs:List bD}(h:A5 w ra rs)(a:i9 w w'):A5 w' ra rs:=by let⟨b,o,e,aj,d⟩:=h;have c:=λo=>a.cell (t:=101) (.inr (.inr (.inl rfl))) aj o;refine⟨b,o,e,a.Vz (.inr (.inr (.inl rfl))) aj,λi hi=>?_⟩;let⟨g,ac,H,I,k⟩:=d i hi;let⟨j,f⟩:=awW H.args I a;exact⟨g,ac,⟨by rw[c];exact H.bi,by rw[c];exact H.c1,by rw[c];exact H.c2,by rw[c];exact H.c3,j,H.cG⟩,f,k⟩
variable{ca:Θ}
def _root_.Go.di.jy.hN{cs:List (Ψ×Nat)}(h:jy w ca cs)(d:i9 w w'):jy w' ca cs:=by let⟨b,o,arr,bd,e,a,c⟩:=h;exact⟨b,o,arr,bd,e,d.k b arr 141 bd (.inl rfl) a,c⟩
def xR.hN{S:c8}{rs:List bD}{F:Ω}(h:xR S M rs w F)(a:i9 w w'):xR S M rs w' F:=by let⟨ca,cc,f,c,ra,rc,e,H,I,d,b⟩:=h;exact⟨ca,cc,f,c,ra,rc,e,H.hN a,I.hN a,d.hN a,b⟩
structure h0 (S:c8) (M:Nat->Nat) (rs:List bD) (base:Nat) (w:Γ) (ca:Θ) (cc eA hk dN fH:Nat):Prop where
 c:jy w ca S.bB
 bY:∃arr,w.heap[eA]? =some (Obj.cells arr 60 (0,0))
 s:A7 w (some ⟨eA,0,none⟩) S.aJ M
 gg:∃arr,w.heap[dN]? =some (Obj.cells arr 101 (0,0))/\arr.size=fH*4
 r:A5 w (some ⟨dN,0,none⟩) rs
 rl:rs.length<=fH
 bS:base<=eA
 rb:base<=dN
 cl:S.bB.length<=cc
 Hd:S.aJ.length<=hk
variable{cc:Nat}
def h0.az0{S:c8}{rs:List bD}{base:Nat}{eA a:Nat}(h:h0 S M rs base w ca cc eA c a b):xR S M rs w #[S.nm,S.dk,.slice ca S.bB cc,.slice (some ⟨eA,0,none⟩) S.aJ c,.slice (some ⟨a,0,none⟩) rs b,S.an]:=
 ⟨_,_,_,_,_,_,rfl,h.c,h.s,h.r,h.cl,h.Hd,h.rl⟩
def h0.hN{S:c8}{rs:List bD}{base:Nat}{eA d:Nat}(h:h0 S M rs base w ca cc eA d b c)(a:i9 w w'):h0 S M rs base w' ca cc eA d b c:=by let⟨arr,H⟩:=h.bY;let⟨e,I,f⟩:=h.gg;exact⟨h.c.hN a,⟨arr,a.k _ _ _ _ (.inr (.inl rfl)) H⟩,h.s.hN a,⟨e,a.k _ _ _ _ (.inr (.inr (.inl rfl))) I,f⟩,h.r.hN a,h.rl,h.bS,h.rb,h.cl,h.Hd⟩
theorem sN.nx{S:c8}(q:rx S){M:Nat->Nat}{rs:List bD}(O:0<rs.length){base:Nat}{w:World}{m n l:Value}{a:List vt}(h:sN S M rs base w m n l a):∃ca cc eA d b c,m=.slice ca S.bB.length cc/\n=.slice (some ⟨eA,0,none⟩) S.aJ.length d/\l=.slice (some ⟨b,0,none⟩) rs.length c/\h0 S M rs base w ca cc eA d b c:=by
 have s:a.length=rs.length:=by rw[←h.e,Wh]
 have C:m≠ .slice none 0 0:=fun e=>by
  rcases h.c.2 with⟨_,af⟩|⟨g,cap,r,ak,_⟩
  ·have:=q.axX;omega
  ·rw[e]at ak;cases ak
 have H:n≠ .slice none 0 0:=fun e=>by
  rcases h.s.2 with⟨_,af⟩|⟨g,cap,r,ak,_⟩
  ·have:=q.xw;omega
  ·rw[e]at ak;cases ak
 have J:l≠ .slice none 0 0:=fun e=>by
  rcases h.r.2 with⟨_,af⟩|⟨g,cap,r,ak,_⟩
  ·omega
  ·rw[e]at ak;cases ak
 obtain⟨t,N,x,rfl,_,a3,a4,_,e1⟩:=RJ h.c C;obtain⟨eA,d,y,rfl,B,cF,L,_,f⟩:=RJ h.s H;obtain⟨b,c,A,rfl,c2,c3,c4,c5,fe⟩:=RJ h.r J;rw[s]at c4 fe;refine⟨_,_,eA,d,b,c,rfl,rfl,by rw[s],⟨t,0,x,_,rfl,a3,fun i hi=>?_⟩,⟨y,cF⟩,⟨eA,0,rfl,⟨_,_,cF⟩,fun i hi=>?_⟩,⟨A,c3,c5⟩,⟨b,0,rfl,⟨_,_,c3⟩,fun i hi=>?_⟩,c4,B,c2,a4,L⟩
 ·rw[gy,e1 (i*2) z,e1 (i*2+1) z];exact Ys S.bB i hi
 ·have:=adK M S.aJ 0 i hi;rw[gy]at this;simp only[World.cell?,cF,gy];rw[f (i*3) z,f (i*3+1) z,f (i*3+2) z];exact this
 ·have o:i<a.length:=z;obtain⟨E,G,I,K⟩:=arv a i o;obtain⟨F,arr,bd,k,D⟩:=h.a a[i] (fp o);have aP:rs[i]=a[i].1:=by
   have:(a.map (·.1))[i]? =some a[i].1:=by simp[o]
   rw[h.e]at this;exact(kL.1 this).2
  refine⟨some ⟨a[i].2.1,a[i].2.2.1,none⟩,a[i].2.2.2,⟨?_,?_,?_,?_,fun _=>⟨_,_,rfl,de k,fun j u=>?_⟩,⟨_,_,rfl⟩⟩,fun _=>⟨_,_,rfl,⟨_,_,k⟩⟩,by rw[aP];exact F⟩
  ·simp only[World.cell?,c3,gy];rw[fe _ z,E,aP];rfl
  ·simp only[World.cell?,c3,gy];rw[fe _ z,G,aP];rfl
  ·simp only[World.cell?,c3,gy];rw[fe _ z,I,aP];rfl
  ·simp only[World.cell?,c3,gy];rw[fe _ z,K,aP];rfl
  ·simp only[World.cell?,k];have:=D j (by rw[←aP];exact u);rw[this];simp only[aP];rfl
def h0.aIY{S:c8}{rs:List bD}{base:Nat}{eA y s u:Nat}(h:h0 S M rs base w ca cc eA y s u)(i m:Nat)(hi:i<S.aJ):h0 S (λj=>if j=i then m else M j) rs base (w.setCell ⟨eA,i*3+2,none⟩ m) ca cc eA y s u:=by
 let⟨arr,g⟩:=h.bY;let⟨C,E,K⟩:=h.gg;have Q:∀(b t:Nat) (a:Ω) (bd:Nat×Nat),t≠60->w.heap[b]? =some (Obj.cells a t bd)->(w.setCell ⟨eA,i*3+2,none⟩ m).heap[b]? =some (Obj.cells a t bd):=λb t a bd aj G=>by rw[ht _ _ _ _ (λe=>?_)];exact G;rw[e,g]at G;cases G;exact aj rfl
 have l:=h' (i:=i*3+2) g m;have x:∀(b t o:Nat),vx w b t->t≠60->(w.setCell ⟨eA,i*3+2,none⟩ m) ⟨b,o,none⟩=w ⟨b,o,none⟩:=λb t o ⟨a,bd,G⟩ aj=>by simp only[World.cell?,G,Q b t a bd aj G]
 refine⟨?_,⟨_,l⟩,?_,⟨C,Q _ _ _ _ al E,K⟩,?_,h.rl,h.bS,h.rb,h.cl,h.Hd⟩;let⟨b,o,a,bd,e,f,d⟩:=h.c;exact⟨b,o,a,bd,e,Q _ _ _ _ al f,d⟩;let⟨b,o,e,aj,d⟩:=h.s;cases e;refine⟨eA,0,rfl,⟨_,_,l⟩,λj k=>?_⟩;have H:=d j k;have I:=d i hi;simp only[World.cell?,g,gy]at H I;simp only[World.cell?,l,gy];refine⟨by rw[AC z];exact H.1,by rw[AC z];exact H.2.1,?_⟩;by_cases e:j=i;subst e;have au:j*3+2<arr.size:=(hl.1 I.2.2).1;rw[ci rfl];simp[au];rw[bo e,AC z];exact H.2.2;let⟨b,o,e,aj,d⟩:=h.r;refine⟨b,o,e,?_,λj k=>?_⟩;let⟨a,bd,G⟩:=aj;exact⟨a,bd,Q _ _ _ _ al G⟩;let⟨B,ac,H,I,D⟩:=d j k;have c:=λo=>x b 101 o aj al;refine⟨B,ac,⟨by rw[c];exact H.bi,by rw[c];exact H.c1,by rw[c];exact H.c2,by rw[c];exact H.c3,λaf=>?_,H.cG⟩,λaf=>?_,D⟩;let⟨n,F,r,f,J⟩:=H.args af;let⟨dK,eL,FL,G⟩:=I af;rw[r]at FL;cases FL;exact⟨n,F,r,by simpa using f,λq A=>by rw[x n 3 _ G al];exact J q A⟩;exact aoL
end Go.bk.N
namespace Go.bk.N
open Go Go.Proofs Go.RowKit Go.di
def ait(b:Nat):∀(vs:List Φ) (o:Nat) (w:Γ) (arr:Ω) (t:Nat) (fr:Nat×Nat),w.heap[b]? =some (Obj.cells arr t fr)->∃a,(w.setCells b o vs).heap[b]? =some (Obj.cells a t fr)/\a.size=arr.size
 |[],_,w,arr,t,fr,h=>⟨arr,h,rfl⟩
 |v::r,o,w,arr,t,fr,h=>by let⟨a,H,I⟩:=ait b r (o+1) (w.setCell ⟨b,o,none⟩ v) _ t fr (h' h v);exact⟨a,H,by rw[I];simp⟩
def arY(b:Nat):∀(vs:List Φ) (o:Nat) (w:Γ),(w.setCells b o vs).heap.size=w.heap.size
 |[],_,_=>rfl
 |v::r,o,w=>by show((w.setCell ⟨b,o,none⟩ v).setCells b (o+1) r).heap.size=_;rw[arY b r];simp
def air{B b:Nat}(G:B<=b):∀(vs:List Φ) (o:Nat) {a w:Γ},Below B a w->Below B a (w.setCells b o vs)
 |[],_,_,_,h=>h
 |v::r,o,a,w,h=>air G r (o+1) (h.setCell (p:=⟨b,o,none⟩) G v)
def ot(arr:Ω)(n rX:Nat):List Φ:=(arr.toList.drop ((n+1)*4)).take ((rX-n-1)*4)
section
variable {S:c8} {M:Nat->Nat} {rs:List bD} {base:Nat} {w:Γ} {ca:Θ} {cc eA hk dN fH:Nat}
variable{arr:Ω}
def h0.cell(h:h0 S M rs base w ca cc eA hk dN fH)(aL:w.heap[dN]? =some (Obj.cells arr 101 (0,0))):∀k,k<rs.length*4->∃u,arr[k]? =some u/\u.oneCell'=true:=λk c=>by
 let⟨b,o,e,_,a⟩:=h.r
 cases e
 let⟨d,ac,H,_⟩:=a (k/4) z
 have bi:=H.bi
 have c1:=H.c1
 have c2:=H.c2
 have c3:=H.c3
 simp only[World.cell?,aL,gy]at bi c1 c2 c3
 have:k=k/4*4∨k=k/4*4+1∨k=k/4*4+2∨k=k/4*4+3:=z
 rcases this with e|e|e|e<;>rw[e]
 .exact⟨_,bi,rfl⟩
 .exact⟨_,c1,rfl⟩
 .exact⟨_,c2,rfl⟩
 .exact⟨_,c3,rfl⟩
variable{n:Nat}
def HC(h:h0 S M rs base w ca cc eA hk dN fH)(b:arr.size=fH*4)(a:n<rs):(ot arr n rs).length=(rs.length-n-1)*4:=by have:=h.rl;simp only[ot,mw,pm,iV];omega
def adZ(h:h0 S M rs base w ca cc eA hk dN fH){j:Nat}(a:j<(rs.length-n-1)*4):(ot arr n rs)[j]? =arr[(n+1)*4+j]? :=by simp only[ot,pk,a,oR,Ld];simp
def aKx(h:h0 S M rs base w ca cc eA hk dN fH)(aL:w.heap[dN]? =some (Obj.cells arr 101 (0,0)))(c:arr.size=fH*4)(b:n<rs):∀j u,(ot arr n rs)[j]? =some u->w.cell? ((⟨dN,(n+1)*4,none⟩:Addr).add j)=some u:=λj u a=>by
 have au:j<(rs.length-n-1)*4:=by rw[<-HC h c b];exact(kL.1 a).1
 rw[adZ h au]at a
 rw[XN]
 simp only[World.cell?,aL]
 exact a
def asC(h:h0 S M rs base w ca cc eA hk dN fH)(aL:w.heap[dN]? =some (Obj.cells arr 101 (0,0)))(c:arr.size=fH*4)(b:n<rs):∀u∈ot arr n rs,u.oneCell'=true:=λu hu=>by
 let⟨j,a⟩:=ES.1 hu
 have au:j<(rs.length-n-1)*4:=by rw[<-HC h c b];exact(kL.1 a).1
 rw[adZ h au]at a
 let⟨d,H,I⟩:=h.cell aL ((n+1)*4+j) z
 rw[H]at a
 cases a
 exact I
theorem h0.azc(h:h0 S M rs base w ca cc eA hk dN fH){arr:Array Value}(aL:w.heap[dN]? =some (Obj.cells arr 101 (0,0)))(x:arr.size=fH*4)(n:Nat)(s:n<rs.length): h0 S M (rs.eraseIdx n) base (w.setCells dN (n*4) (ot arr n rs.length)) ca cc eA hk dN fH:=by
 have X:=h.rl;have W:=HC h x s;have m:(rs.eraseIdx n).length=rs.length-1:=by rw[att,ci s]
 obtain⟨D,B,E⟩:=ait dN (ot arr n rs.length) (n*4) w arr 101 (0,0) aL;have Q:∀(b t:Nat) (a:Array Value) (bd:Nat×Nat),t≠101->w.heap[b]? =some (Obj.cells a t bd)->(w.setCells dN (n*4) (ot arr n rs.length)).heap[b]? =some (Obj.cells a t bd):=fun b t a bd aj G=>by
  rw[atg _ _ _ _ (de G) (fun e=>?_)]
  ·exact G
  ·rw[e,aL]at G;cases G;exact aj rfl
 have d:∀(b t o:Nat),vx w b t->t≠101->(w.setCells dN (n*4) (ot arr n rs.length)).cell? ⟨b,o,none⟩=w.cell? ⟨b,o,none⟩:=fun b t o ⟨a,bd,G⟩ aj=>by simp only[World.cell?,G,Q b t a bd aj G]
 have low:∀o,o<n*4->(w.setCells dN (n*4) (ot arr n rs.length)).cell? ⟨dN,o,none⟩=w.cell? ⟨dN,o,none⟩:=fun o P=>afo _ _ _ _ _ (fun _ _=>.inl P);have high:∀j,j<(rs.length-n-1)*4->(w.setCells dN (n*4) (ot arr n rs.length)).cell? ⟨dN,n*4+j,none⟩=w.cell? ⟨dN,(n+1)*4+j,none⟩:=fun j N=>by
  have H:=World.cell?_setCells_in dN (ot arr n rs.length) (n*4) w (fun q r=>by
   obtain⟨u,hu,_⟩:=h.cell aL (n*4+q) z
   have F:w.cell? ⟨dN,n*4+q,none⟩=some u:=by simp only[World.cell?,aL];exact hu
   rw[F];rfl) j z
  rw[H];have I:=adZ h (arr:=arr) (n:=n) N;rw[j_ z]at I;simp only[World.cell?,aL];exact I
 refine⟨?_,?_,?_,⟨D,B,by rw[E,x]⟩,?_,by rw[m];omega,h.bS,h.rb,h.cl,h.Hd⟩
 ·obtain⟨b,o,a,bd,e,l,c⟩:=h.c;exact⟨b,o,a,bd,e,Q _ _ _ _ al l,c⟩
 ·obtain⟨a,J⟩:=h.bY;exact⟨a,Q _ _ _ _ al J⟩
 ·obtain⟨b,o,e,aj,c⟩:=h.s;refine⟨b,o,e,?_,fun i hi=>?_⟩
  ·obtain⟨a,bd,G⟩:=aj;exact⟨a,bd,Q _ _ _ _ al G⟩
  ·rw[d b 60 _ aj al,d b 60 _ aj al,d b 60 _ aj al];exact c i hi
 ·obtain⟨b,o,e,aj,c⟩:=h.r;cases e;refine⟨dN,0,rfl,⟨_,_,B⟩,fun i hi=>?_⟩;rw[m]at hi;obtain⟨k,V,K,g⟩:∃k,∃Q:k<rs.length,(rs.eraseIdx n)[i]'(by rw[m];exact hi)=rs[k]/\∀f,f<4->(w.setCells dN (n*4) (ot arr n rs.length)).cell? ⟨dN,i*4+f,none⟩=w.cell? ⟨dN,k*4+f,none⟩:=by
   by_cases C:i<n
   ·exact⟨i,z,by rw[ats,dif_pos C],fun f R=>low _ z⟩
   ·refine⟨i+1,z,by rw[ats,dif_neg C],fun f R=>?_⟩;have:=high ((i-n)*4+f) z;rw[show n*4+((i-n)*4+f)=i*4+f by omega,show(n+1)*4+((i-n)*4+f)=(i+1)*4+f by omega]at this;exact this
  obtain⟨L,ac,H,I,O⟩:=c k V;rw[K];have bi:=H.bi;have c1:=H.c1;have c2:=H.c2;have c3:=H.c3;simp only[gy]at bi c1 c2 c3;simp only[gy];refine⟨L,ac,⟨?_,?_,?_,?_,fun af=>?_,H.cG⟩,fun af=>?_,O⟩
  ·have:=g 0 z;simp only[hY]at this;rw[this];exact bi
  ·rw[g 1 z];exact c1
  ·rw[g 2 z];exact c2
  ·rw[g 3 z];exact c3
  ·obtain⟨y,T,A,l,U⟩:=H.args af;obtain⟨dK,eL,FL,G⟩:=I af;rw[A]at FL;cases FL;exact⟨y,T,A,by rw[arY];exact l,fun q r=>by rw[d y 3 _ G al];exact U q r⟩
  ·exact aoL
end
end Go.bk.N
namespace Go.bk.N
open Go Go.Proofs.Tryz Go.Proofs Go.RowKit Go.di
def avG(S:c8)(M:Nat->Nat)(bQ:Nat->Nat->Nat)(w':Γ)(base:Nat)(e:Ending):Prop:=
 ∃v b8,e=.returned v/\nS w' base v S.aJ.length b8 M bQ
def aya(S:c8)(R:rx S)(zC:Fm S)(bQ:Nat->Nat->Nat)(w:Γ)(M:Nat->Nat)(E:∀i,1<=M i/\M i<=5)(rs:List bD)(g1:rs.Sublist S.dp)(D3:y' bQ rs)(ca be ra:Θ)(cc aW rc:Nat)(eD:jy w ca S.bB)(fB:s4 w be S.aJ M)(dE:wH w ra rs): χ 53 #[.agg #[S.nm,S.dk,.slice ca S.bB cc,.slice be S.aJ aW,.slice ra rs rc,S.an]] w λe w'=>avG S M bQ w' (w.heap.size+1) e:=by
 have i6:∀dn,β w (w.alloc dn):=λdn=>(bl _ _).alloc (aY _) _;let⟨dZ,ld,n_,jf,lj⟩:=iz aDe;have uc:=A (λW (G:β w W)=>ac8 S R zC W M E rs g1 ca be ra cc aW rc (eD.K G) (fB.K G) (dE.K G));have lH:∀W,χ 121 #[.int .i64 1] W λe w'=>Dg 1 e:=λW=>WH 1 W al;have aH:=A lH;have u:=A D3;have aE:=A (λr ae=>R.BX r (g1.subset ae));have uL:=R.xw;have sx:=R.aJ;have vV:rs.length<=40:=c6 g1.length_le R.dp;clear lH D3 zC;go_enter func53,ntmps53;go_wp2_with (go_at_call 51;refine(uc.out _ (i6 _)).mono ?_;rintro e m ⟨rfl,bu⟩);have aQ:AO m w #[S.nm,S.dk,.slice ca S.bB cc,.slice be S.aJ aW,.slice ra rs rc,S.an]:= AO.K (B:=w.heap.size+1) ⟨aq,c7 w _⟩ z (bu.mono aq);have co:β w m:=(i6 _).trans (bu.mono aq);have jI:w.heap.size+1<=m.heap.size:=aQ.1;clear bu uc i6;go_loopw [4,5] (λv i wr=>∃k:Nat,k<=S.aJ.length/\i=.int .i64 k/\(∃b8,nS wr (w.heap.size+1) v k b8 M (λ_ _=>0))/\Below (w.heap.size+1) m wr) (λ_ i _=>S.aJ.length-(RowKit.intOf i).toNat);case atStart=>exact⟨0,dh _,rfl,⟨λ_=>0,ne _ _ _ _,λs ay=>z,λs t ay=>z⟩,bl _ _⟩
 case round=>
  obtain⟨k,aL,rfl,⟨b8,f⟩,d⟩:=hrel;have C:=aQ.K z d;have Y:β w wr:=co.trans (d.mono z);have bv:=aN 3 C.2;have BA:=C.1;by_cases au:k<S.aJ
  .obtain⟨bS,eI,rfl,j3,dt⟩:=fB.K Y;let⟨lw,h3,hK⟩:=dt k au;have mq:=(E k).1;have OF:=(E k).2;have l4:(k:Int)<S.aJ.length:=z;have pa:(k:Int)<=1000:=z;have BP:(M k:Int)<=1000:=z;have qf:=aE6 (M k) mq OF;have aa:=f.row;go_wp2_with (at_builtin;refine lP _ rfl _ _ 104 rfl (w.heap.size+1) 107 dZ (.slice none 0 0) 1 24 underlying104 ld n_ jf lj rfl al _ k _ rfl ((aa.alloc _).alloc _) ⟨wr.heap.size+1,0,none⟩ 1 1 [.slice (some ⟨wr,0,none⟩) (M k+1) (M k+1)] rfl rfl (r5 (cs:=#[.slice (some ⟨wr,0,none⟩) (M k+1) (M k+1)]) (t:=107) (fr:=(0,0)) (by rw[<-jt wr (.cells (Array.replicate (M k+1) (.string ⟨#[]⟩)) 106)];exact pW _ _)) (by simp[Value.oneCell']) (by unfold maxLen;omega) z bw ?_;intro dS br gA ga _);have lS:=f.next z gA ga;have gn:Below (w.heap.size+1) m br:=(((d.alloc z _).alloc bw _).grown ga bw (wh aa));clear gA ga aa f qf;go_roundw;case rel=>first|exact⟨k+1,z,bz,⟨_,lS⟩,gn⟩|((repeat apply Exists.intro);refine⟨?_,rfl⟩;exact⟨k+1,z,bz,⟨_,lS⟩,gn⟩)
   case measure=>simp[RowKit.intOf];omega
  .obtain rfl:k=S.aJ.length:=z;obtain⟨g,cap,rfl,Gu,ag,K⟩:=f.gX uL;have ar:nS wr (w.heap.size+1) (.slice (some ⟨g,0,none⟩) S.aJ cap) S.aJ b8 M (qJ bQ rs 1 0):=f.mono λ_ _ _ _=>dh _;clear f K ag;obtain⟨w3,rfl⟩:∃w3:Γ,w3=wr:=⟨_,rfl⟩;go_wp2;go_loopw [6] (λi QL=>∃ai:Nat,1<=ai/\ai<=10/\i=.int .i64 ai/\nS QL (w.heap.size+1) (.slice (some ⟨g,0,none⟩) S.aJ cap) S.aJ b8 M (qJ bQ rs ai 0)/\Below (w.heap.size+1) m QL) (λi _=>10-(RowKit.intOf i).toNat);case atStart=>exact⟨1,z,z,rfl,ar,d⟩
   case round=>
    clear C Y bv BA ar d;obtain⟨bh,rfl⟩:∃bh:Γ,bh=wr:=⟨_,rfl⟩;obtain⟨ai,aT,aV,rfl,f,d⟩:=hrel;by_cases aX:ai<=9
    .have a_:(ai:Int)<=9:=z;go_wp2;go_loopw [7] (λi c=>∃k:Nat,k<=rs.length/\i=.int .i64 k/\nS c (w.heap.size+1) (.slice (some ⟨g,0,none⟩) S.aJ cap) S.aJ b8 M (qJ bQ rs ai k)/\Below (w.heap.size+1) m c) (λi _=>rs.length-(RowKit.intOf i).toNat);case atStart=>exact⟨0,z,rfl,f,d⟩
     case round=>
      clear f d;obtain⟨c,rfl⟩:∃c:Γ,c=wr:=⟨_,rfl⟩;obtain⟨k,nz,rfl,f,d⟩:=hrel;have C:=aQ.K z d;have Y:β w c:=co.trans (d.mono z);have cI:=aN 4 C.2;have bv:=aN 3 C.2;have BA:=C.1;by_cases F:k<rs
      .obtain⟨rb,aK,rfl,iR,dt⟩:=dE.K Y;let⟨aU,ac,N⟩:=dt k F;let⟨U,o4,zI,_,_⟩:=aE.out _ (fp F);have lw:=N.bi;have h3:=N.c1;have hK:=N.c2;have f3:=N.c3;obtain⟨bS,eI,rfl,j3,kf⟩:=fB.K Y;let⟨_,_,bb⟩:=kf _ U;have Ij:=A N.args;have W3:=A f;have OF:=(E rs[k].h).2;have l4:(k:Int)<rs.length:=z;have pa:(k:Int)<=1000:=z;have zY:(rs[k].h:Int)<(S.aJ.length:Int):=z;clear N dt kf f;by_cases bd:M rs[k].h<ai
       .have aB:(M rs[k].h:Int)<(ai:Int):=z;go_wp2;exact⟨⟨k+1,z,bz,(W3.out.K ((bl _ _).alloc (aY _) _)).mono λs i _ _=>by rw[Yq ai k s i F];exact H8 _ _,d.alloc z _⟩,by simp[RowKit.intOf];omega⟩
       .have aB:¬(M rs[k].h:Int)<(ai:Int):=z;have qf:∀w,(Instr.makeSlice 107 (.int .i64 10) (.int .i64 10)).run prog w=.ok (.slice (some ⟨w,0,none⟩) 10 10) (w.alloc (.cells (Array.replicate 10 (.string ⟨#[]⟩)) 106)):=λw=>aw;go_wp2_with (go_at_call 121;refine(aH.out _).mono ?_;rintro e L ⟨⟨V,rfl,GB,tu⟩,bJ⟩;have Z:kg L (c.heap.size+1) 10 lO:=(by have af:=kg.as4 (c.alloc (.cells #[.int .i64 rs[k].h,.string rs[k].op,.string rs[k].aO,.slice aU rs[k].args.length ac] 101)) 10 lO;rw[jt]at af;exact af.K aq bJ);let⟨bY,iG,bi,_,_⟩:=Z.cell (i:=1) al;have z0:=Z.free 1);have Z2:kg (L.setCell ⟨c.heap.size+1,1,none⟩ (.string V)) (c.heap.size+1) 10 lO:=Z.set al ⟨GB,tu⟩ al;have Ws:Below (c.heap.size+1) (c.alloc (.cells #[.int .i64 rs[k].h,.string rs[k].op,.string rs[k].aO,.slice aU rs[k].args.length ac] 101)) (L.setCell ⟨c.heap.size+1,1,none⟩ (.string V)):=(((bl _ _).alloc aq _).trans (bJ.mono aq)).setCell aq _;have ah:(L.setCell ⟨c.heap.size+1,1,none⟩ (.string V)).heap[c.heap.size]? =some (.cells #[.int .i64 rs[k].h,.string rs[k].op,.string rs[k].aO,.slice aU rs[k].args.length ac] 101 (0,0)):=by rw[Ws.block _ z];exact c7 _ _
        have an:β c (L.setCell ⟨c.heap.size+1,1,none⟩ (.string V)):=((bl _ _).alloc (aY _) _).trans (Ws.mono z);clear Z bJ Ws bi z0 GB tu qf bv cI lw h3 hK f3 bb;generalize (L.setCell ⟨c.heap.size+1,1,none⟩ (.string V))=br at Z2 ah an|-;have OB:=de ah;go_loopw [9,10] (λv i cU=>∃j l:Nat,c.heap.size<l/\j<=rs[k].args.length/\i=.int .i64 j/\v=.slice (some ⟨l,0,none⟩) 10 10/\kg cU l 10 (pz bQ (rs[k].args.take j) lO)/\β br cU) (λ_ i _=>rs[k].args.length-(RowKit.intOf i).toNat);case atStart=>exact⟨0,c.heap.size+1,z,z,rfl,rfl,Z2,bl _ _⟩
        case round=>
         clear Z2;obtain⟨j,l,aS,ab,rfl,rfl,X,iP⟩:=hrel;have aj:wr.heap[c.heap.size]? =some (.cells #[.int .i64 rs[k].h,.string rs[k].op,.string rs[k].aO,.slice aU rs[k].args.length ac] 101 (0,0)):=by rw[iP.block _ OB];exact ah
         have ew:=aN 3 aj;have Rw:β c wr:=b3 an iP;have x:=W3.out.K Rw;let⟨aC,si,ao,_,ag,K⟩:=x.gX uL;obtain⟨rfl,rfl⟩:g=aC/\cap=si:=by cases ao;exact⟨rfl,rfl⟩
         clear ao;by_cases ts:j<rs[k].args.length
         .obtain⟨dK,eL,rfl,iE,o5⟩:=(Ij.out.K Rw) z;have lC:=o5 j ts;have JA:=zI _ (fp ts);have qd:=K _ JA;have Z3:=(x.tJ _ JA).2;have aR:=(E rs[k].args[j]).2;have GI:(0:Int)<=(j:Int):=z;have Un:(j:Int)<(rs[k].args.length:Int):=z;have a':(j:Int)<=1000:=z;have ba:(rs[k].args[j]:Int)<(S.aJ.length:Int):=z;have ad:=apN bQ (rs[k].args.take j) rs[k].args[j] (rs[k].args.drop (j+1)) lO (by rw[<-H0 ts,xL];exact u.out.num _ (fp F));have dQ:∀i,i<M rs[k].args[j]+1->qJ bQ rs ai k rs[k].args[j] i<=bQ rs[k].args[j] i:=λi hi=>SH u ai k _ i z;have sS:=A (aDK l (b8 rs[k].args[j]) (M rs[k].args[j]+1) 10 (M rs[k].args[j]+1) (pz bQ (rs[k].args.take j) lO) (qJ bQ rs ai k rs[k].args[j]) wr z X Z3 ad.1 (λi hi=>rk (dQ i hi) (u.out.lt _ _)) (λi hi=>rk (Qg (λ_ _=>aY _) dQ z 10 (aY _)) (ad.2 i hi)));have gE:∀i,i<10->lq (pz bQ (rs[k].args.take j) lO) (qJ bQ rs ai k rs[k].args[j]) (M rs[k].args[j]+1) i 10<=pz bQ (rs[k].args.take (j+1)) lO i:=λi _=>by rw[r6 ts,ai5];exact Qg (λ_ _=>aY _) dQ z 10 (aY _)
          have aI:=A gE;clear X Z3 ad dQ gE K x o5;go_wp2_with (go_at_call 122;refine sS.out.mono ?_;rintro e w7 ⟨rfl,Ti,ha⟩);exact⟨⟨j+1,wr.heap.size,by have:=Rw.size;have:=iP.size;omega,z,bz,rfl,Ti.mono aI,b3 iP ha⟩,by simp[RowKit.intOf];omega⟩
         .obtain rfl:j=rs[k].args.length:=z;have yj:=K _ U;let⟨aA,Q⟩:=x.tJ _ U;let⟨ax,r3,fW,gY,eo⟩:=Q.cell (i:=ai) z;let⟨ak,av,SM,kI,am⟩:=X.cell (i:=ai) z;have gP:=Q.free ai;have gg:=aN 0 aj;rw[sL]at am;have bx:r3<281474976710656:=by have H:=SH u ai k rs[k].h ai z;have I:=u.out.lt rs[k].h ai;omega
          have b0:av<281474976710656:=rk am (apO bQ _ lO (u.out.num _ (fp F)) ai z);have b7:b8 rs[k].h<wr.heap.size:=Q.1;have cw:=de aj;have bf:(0:Int)<=(ai:Int):=z;have aM:(ai:Int)<(M rs[k].h:Int)+1:=z;have aO:(ai:Int)<10:=z;have aZ:(0:Int)<=(rs[k].h:Int):=z;have iS:l<wr.heap.size:=X.1;have J9:b8 rs[k].h<c.heap.size:=(W3.out.tJ _ U).2.1;have aD:g≠b8 rs[k].h:=λe=>by let⟨_,aP,az,_⟩:=Q;exact U1 x.row az al (by simp[Value.ownBlock,e])
          have aG:=A x;clear X Q x K;go_wp2;have UU:c.heap.size≠b8 rs[k].h:=z;have aF:l≠b8 rs[k].h:=z;refine CK (S:=(λW=>W ⟨c,0,none⟩=some (.int .i64 rs[k].h)/\W ⟨g,rs[k].h,none⟩=some (.slice (some ⟨b8 rs[k].h,0,none⟩) (M rs[k].h+1) (M rs[k].h+1))/\W ⟨l,ai,none⟩=ak)) aw ?_ (λko=>?_);exact⟨gg,yj,SM⟩;refine qr (i:=0) (oi:=_) (v:=?_) rfl aw aw aw (λ_ _ _ h=>h) (Or.inl ⟨by rfl,?_⟩) (by assumption) ?_;rotate_left;exact q3;refine ix ?_;refine qr (i:=1) (oi:=_) (v:=?_) rfl aw aw aw (λ_ _ _ h=>h) (Or.inl ⟨by rfl,?_⟩) (by assumption) ?_;rotate_left;exact q3;refine ix ?_;refine qr (i:=2) (oi:=_) (v:=?_) rfl aw aw aw (λ_ _ _ h=>h) (Or.inl ⟨by rfl,?_⟩) (by assumption) ?_;rotate_left;exact q3;refine ix ?_;refine qr (i:=3) (oi:=_) (v:=?_) rfl aw aw aw (λ_ _ _ h=>h) (Or.inl ⟨by rfl,?_⟩) (by assumption) ?_;rotate_left;exact q3;refine ix ?_;refine qr (i:=4) (oi:=_) (v:=?_) rfl aw aw aw (λ_ _ _ h=>h) (Or.inl ⟨by rfl,?_⟩) (by assumption) ?_;rotate_left;exact q3;refine ix ?_;refine qr (i:=5) (oi:=_) (v:=?_) rfl aw aw aw (λ_ _ _ h=>h) (Or.inl ⟨by rfl,?_⟩) (by assumption) ?_;rotate_left;exact q3;refine ix ?_;refine qr (i:=6) (oi:=_) (v:=?_) rfl aw aw aw (λ_ _ _ h=>h) (Or.inl ⟨by rfl,?_⟩) (by assumption) ?_;rotate_left;exact q3;refine ix ?_;refine qr (i:=7) (oi:=_) (v:=?_) rfl aw aw aw (λ_ _ _ h=>h) (Or.inl ⟨by rfl,?_⟩) (by assumption) ?_;rotate_left;exact q3;refine ix ?_;refine qr (i:=8) (oi:=_) (v:=?_) rfl aw aw aw (λ_ _ _ h=>h) (Or.inl ⟨by rfl,?_⟩) (by assumption) ?_;rotate_left;exact q3;refine ix ?_;refine qr (i:=9) (oi:=_) (v:=?_) rfl aw aw aw (λ_ _ _ h=>h) (Or.inl ⟨by rfl,?_⟩) (by assumption) ?_;rotate_left;exact q3;refine ix ?_;refine qr (i:=10) (oi:=_) (v:=?_) rfl aw aw aw (λ_ _ _ h=>h) (Or.inl ⟨by rfl,?_⟩) (by assumption) ?_;rotate_left;exact q3;refine ix ?_;refine qr (i:=11) (oi:=_) (v:=?_) rfl aw aw aw (λ_ _ _ h=>h) (Or.inl ⟨by rfl,?_⟩) (by assumption) ?_;rotate_left;exact q3;refine ix ?_;refine qr (i:=12) (oi:=_) (v:=?_) rfl aw aw aw (λ_ _ _ h=>h) (Or.inl ⟨by rfl,?_⟩) (by assumption) ?_;rotate_left;exact q3;refine ix ?_;refine qr (i:=14) (oi:=_) (v:=?_) rfl aw aw aw (λ_ _ _ h=>h) (Or.inl ⟨by rfl,?_⟩) (by assumption) ?_;rotate_left;exact q3;refine ix ?_;refine qr (i:=15) (oi:=_) (v:=?_) rfl aw aw aw (λ_ _ _ h=>h) (Or.inl ⟨by rfl,?_⟩) (by assumption) ?_;rotate_left;exact q3;refine ix ?_;refine qr (i:=16) (oi:=_) (v:=?_) rfl aw aw aw (λ_ _ _ h=>h) (Or.inl ⟨by rfl,?_⟩) (by assumption) ?_;rotate_left;exact q3;refine ix ?_;refine qr (i:=17) (oi:=_) (v:=?_) rfl aw aw aw (λ_ _ _ h=>h) (Or.inl ⟨by rfl,?_⟩) (by assumption) ?_;rotate_left;exact q3;refine ix ?_;refine pg 13 (λT n=>?_);go_simp;refine n.out _ _ ⟨gg,yj,SM⟩ (λko=>?_);clear n T;refine ix ?_;refine pg 18 (λT n=>?_);go_simp;go_at_call 54;refine(XO ax ak r3 av _ gY kI bx b0).mono ?_;rintro e y ⟨⟨cO,rfl,yw,rJ⟩,D⟩;have bI:y.frozen? ⟨b8 rs[k].h,ai,none⟩=false:=(by rw[D.frozen (by simpa using b7)];exact gP);have dr:y ⟨b8 rs[k].h,ai,none⟩=ax:=(by rw[D.cell (by simpa using b7)];exact fW);have d':y ⟨g,rs[k].h,none⟩=some (.slice (some ⟨b8 rs[k].h,0,none⟩) (M rs[k].h+1) (M rs[k].h+1)):=(by rw[D.cell (by simpa using ag)];exact yj);have hG:y ⟨c,0,none⟩=some (.int .i64 rs[k].h):=(by rw[D.cell (by simpa using cw)];exact gg);have jR:y ⟨l,ai,none⟩=ak:=(by rw[D.cell (by simpa using iS)];exact SM);refine n.out _ _ ⟨hG,d',jR⟩ (λko=>?_);clear n T;refine ix ?_;refine qr (i:=19) (oi:=_) (v:=?_) rfl aw aw aw (λ_ _ _ h=>h) (Or.inl ⟨by rfl,?_⟩) (by assumption) ?_;rotate_left;exact q3
          refine ix ?_;refine pg 20 (λT n=>?_);go_simp;refine n.out _ _ ⟨(nN (ht _ _ _ _ UU)).trans hG,(nN (ht _ _ _ _ aD)).trans d',(nN (ht _ _ _ _ aF)).trans jR⟩ (λko=>?_);clear n T;refine ix ?_;refine EM aw ?_ _;all_goals(
           have O:nS (y.setCell ⟨b8 rs[k].h,ai,none⟩ (.string cO)) (w.heap.size+1) (.slice (some ⟨g,0,none⟩) S.aJ cap) S.aJ b8 M (qJ bQ rs ai (k+1)):=(nS.K (w:=wr.drew) (aG.out.K ((bl _ _).drew)) D).set (λs i _ _=>by rw[Yq ai k s i F];exact H8 _ _) U z ⟨yw,rJ⟩ (by rw[Yq ai k _ ai F,ci ⟨rfl,rfl⟩];omega)
           have jr:Below (w.heap.size+1) m (y.setCell ⟨b8 rs[k].h,ai,none⟩ (.string cO)):=(((d.trans (Rw.mono z)).drew).trans (D.mono (by show w.heap.size+1<=wr.heap.size;omega))).setCell aA _
           have iv:=A O
           clear O bI dr d' hG jR fW SM gP gg yj
           go_wp2
           go_roundw
           case rel=>first|exact⟨k+1,z,bz,iv,jr⟩|((repeat apply Exists.intro);refine⟨?_,rfl⟩;exact⟨k+1,z,bz,iv,jr⟩)
           case measure=>simp[RowKit.intOf];omega)
      .obtain rfl:k=rs.length:=z;have sw:nS c (w.heap.size+1) (.slice (some ⟨g,0,none⟩) S.aJ cap) S.aJ b8 M (qJ bQ rs (ai+1) 0):=f.mono λs i _ hi=>axR u ai s i (by have:=(E s).2;omega);clear f;go_wp2;exact⟨⟨ai+1,z,z,bz,sw,d⟩,by simp[RowKit.intOf];omega⟩
    .obtain rfl:ai=10:=z;have O:nS bh (w.heap.size+1) (.slice (some ⟨g,0,none⟩) S.aJ cap) S.aJ b8 M bQ:=f.mono λs i _ hi=>SH u 10 0 s i (by have:=(E s).2;omega);have iv:=A O;have aJ:=A (co.trans (d.mono z));clear f d O;go_wp2;go_ret;exact⟨⟨_,b8,rfl,iv⟩,aJ⟩
def at3(e:Ending):Prop:=∃n:Int,e=.returned (.int .i64 n)
def azE(S:c8)(B:rx S)(Z:Au S=true)(w:Γ)(M:Nat->Nat)(rX:Nat)(ca l ra:Θ)(cc n rc:Nat)(X:jy w ca S.bB)(I:s4 w l S.aJ M)(r:bD)(s:r∈S.dp)(g:Θ)(ac:Nat)(U:rp w g r.args)(o:Φ)(T:l_ w o): χ 52 #[.agg #[S.nm,S.dk,.slice ca S.bB cc,.slice l S.aJ n,.slice ra rX rc,S.an],.agg #[r.h,r.op,r.aO,.slice g r.args ac],o] w λe w'=>at3 e:=by
 have q:∀D C,β w ((w.alloc D).alloc C):=λD C=>((bl _ _).alloc (aY _) _).alloc aq _;have F:=A (λW (G:β w W)=>aLP S Z r s W o ca cc (T.K G) (X.K G));let⟨V,o4,P,_,_⟩:=B.BX r s;have sx:=B.aJ;go_enter func52,ntmps52;go_upto_region 2 with(go_at_call 120;refine(F.out _ (q _ _)).mono ?_;rintro e j ⟨⟨jl,Ar,ah,kd,O,rfl,Y⟩,c⟩)
 have f:Lr j w (w.heap.size+1) #[S.nm,S.dk,.slice ca S.bB cc,.slice l S.aJ n,.slice ra rX rc,S.an] #[r.h,r.op,r.aO,.slice g r.args ac]:=by have ai:=c.size;simp only[jt]at ai;refine⟨z,z,?_,?_⟩;rw[c.block _ (by simp only[jt];omega),uC _ _ (by simp only[jt];omega)];exact c7 w _;rw[c.block _ (by simp only[jt];omega)];have:=c7 (w.alloc (.cells #[S.nm,S.dk,.slice ca S.bB cc,.slice l S.aJ n,.slice ra rX rc,S.an] 29)) (.cells #[r.h,r.op,r.aO,.slice g r.args ac] 101);exact ao4
 have co:β w j:=(q _ _).trans (c.mono bw);clear c F q;by_cases N:O=0
 .subst N;have H:=aN 3 f.2.2.2;have gg:=aN 0 f.2.2.2;have y:=aN 3 f.2.2.1;obtain⟨bS,eI,rfl,L,d⟩:=I.K co;by_cases R:Ar=r.args.length
  .subst R;let⟨_,bN,_⟩:=d _ V;have zY:(r.h:Int)<S.aJ.length:=z;have Q:((r.args.length:Int) !=(r.args.length:Int))=false:=aq;by_cases zO:((S.aJ[r.h].2:Int) !=kd)=true;exact acb
   .have ad:((S.aJ[r.h].2:Int) !=kd)=false:=by simpa using zO
    go_wp2;go_loopw [10] (λi wr=>∃k:Nat,k<=r.args.length/\i=.int .i64 k/\β j wr) (λi _=>r.args.length-(RowKit.intOf i).toNat);case atStart=>exact⟨0,z,rfl,bl _ _⟩
    case round=>
     clear bN gg H y d L;obtain⟨k,ab,rfl,a⟩:=hrel;have E:=f.K a;have m:β w wr:=b3 co a;have H:=aN 3 E.2.2.2;have y:=aN 3 E.2.2.1;by_cases au:k<r.args
     .obtain⟨dK,eL,rfl,iE,K⟩:=(U.K m) z;have bZ:=K k au;let⟨al,ak,tA,L,d⟩:=I.K m;cases tA;let⟨_,bN,_⟩:=d _ (P _ (fp au));obtain⟨Vz,aj,rfl,ag,u⟩:=(Y.K a).2 z;let⟨x,aa⟩:=u k au;have m':(0:Int)<=(k:Int):=z;have l4:(k:Int)<r.args.length:=z;have pa:(k:Int)<=1000:=z;have BP:(r.args[k]:Int)<(S.aJ.length:Int):=by have:=P _ (fp au);omega
      have Un:(0:Int)<=(r.args[k]:Int):=z;clear K d u;go_wp2;go_quiet (fail)
      go_wp2;all_goals first
       |(
        go_roundw
        case rel=>first|exact⟨k+1,z,bz,a.trans (rq.K ⟨_,rfl⟩ _)⟩|((repeat apply Exists.intro);refine⟨?_,rfl⟩;exact⟨k+1,z,bz,a.trans (rq.K ⟨_,rfl⟩ _)⟩)
        case measure=>simp[RowKit.intOf];omega)
       |(go_ret;exact⟨⟨_,rfl⟩,m.trans (rq.K ⟨_,rfl⟩ _)⟩)
     .go_wp2;go_ret;exact⟨⟨_,rfl⟩,m⟩
  have Q:((Ar:Int) !=(r.args.length:Int))=true:=bw;exact acb
 .have af:(O !=0)=true:=by simp[N]
  exact acb
def RC(S:c8)(M:Nat->Nat)(bQ:Nat->Nat->Nat)(w:Γ)(va:Θ)(n:Nat):Prop:=
 n<=12/\(0<n->∃(g:Nat) (b8:Nat->Nat),va=some ⟨g,0,none⟩/\g<w.heap.size/\∀s,s<n->w ⟨g,s,none⟩=some (.slice (some ⟨b8 s,0,none⟩) (M s+1) (M s+1))/\kg w (b8 s) (M s+1) (bQ s))
variable{w:Γ}{n:Nat}
def RC.K{S:c8}{M:Nat->Nat}{bQ:Nat->Nat->Nat}{w':Γ}{va:Θ}(h:RC S M bQ w va n)(G:β w w'):RC S M bQ w' va n:=
 ⟨h.1,λaf=>by
  let⟨g,b8,e,c,a⟩:=h.2 af
  exact⟨g,b8,e,cT G c,λs b=>⟨by rw[G.cell c];exact(a s b).1,(a s b).2.K (a s b).2.1 G⟩⟩⟩
def ayb(S:c8)(b:rx S)(t:Fm S)(bQ:Nat->Nat->Nat)(w:Γ)(M:Nat->Nat)(q:∀i,1<=M i/\M i<=5)(rs:List bD)(r:rs.Sublist S.dp)(j:y' bQ rs)(ca a ra:Θ)(cc d rc:Nat)(o:jy w ca S.bB)(p:s4 w a S.aJ M)(n:wH w ra rs):
  χ 53 #[.agg #[S.nm,S.dk,.slice ca S.bB cc,.slice a S.aJ d,.slice ra rs rc,S.an]] w λe w'=>(∃va m,e=.returned (.slice va S.aJ m)/\RC S M bQ w' va S.aJ):=
 (aya S b t bQ w M q rs r j ca a ra cc d rc o p n).mono λe w' ⟨h,G⟩=>⟨by
  obtain⟨v,b8,rfl,f⟩:=h
  obtain⟨g,cap,rfl,_,k,l⟩:=f.gX b.xw
  exact⟨_,_,rfl,b.aJ,λ_=>⟨g,b8,rfl,k,λs c=>⟨l s c,(f.tJ s c).2⟩⟩⟩,G⟩
def r7(w:Γ)(b n:Nat):Prop:=∃cs:Ω,w.heap[b]? =some (.cells cs 4 (0,0))/\cs.size=n/\∀i,i<n->∃x,cs[i]? =some (.bool x)
variable{b:Nat}
def r7.cell(h:r7 w b n){i:Nat}(hi:i<n):∃x,w ⟨b,i,none⟩=some (.bool x):=by let⟨cs,H,I,a⟩:=h;let⟨x,e⟩:=a i hi;exact⟨x,kQ H e⟩
def r7.free(h:r7 w b n)(i:Nat):w.frozen? ⟨b,i,none⟩=false:=by let⟨cs,H,_⟩:=h;simp[World.frozen?,H]
def r7.set(h:r7 w b n)(j:Nat)(x:Bool):r7 (w.setCell ⟨b,j,none⟩ (.bool x)) b n:=by let⟨cs,H,I,c⟩:=h;refine⟨cs.setIfInBounds j (.bool x),h' H _,by simpa using I,λi hi=>?_⟩;by_cases e:i=j;subst e;exact⟨x,by simp[I,hi]⟩;let⟨y,a⟩:=c i hi;exact⟨y,by rw[AC (it e)];exact a⟩
def r7.d_(w:Γ)(n:Nat):r7 (w.alloc (.cells (Array.replicate n (.bool false)) 4)) w n:=
 ⟨_,c7 w _,aq,λi hi=>⟨false,by simp[hi]⟩⟩
def r7.acp(w:Γ)(n j:Nat):r7 (w.alloc (.cells ((Array.replicate n (.bool false)).setIfInBounds j (.bool true)) 4)) w n:=
 ⟨_,c7 w _,aq,λi hi=>by
  by_cases e:i=j
  .subst e;exact⟨true,by simp[hi]⟩
  .exact⟨false,by rw[AC (it e)];simp[hi]⟩⟩
def aE7(n:Nat)(H:1<=n)(a:n<=12):∀(w:Γ),(Instr.makeSlice 109 (.int .i64 (n:Int)) (.int .i64 (n:Int))).run prog w=.ok (.slice (some ⟨w,0,none⟩) n n) (w.alloc (.cells (Array.replicate n (.bool false)) 4)):=by exact aoq
def avF(M:Nat->Nat)(bQ:Nat->Nat->Nat)(an:Nat)(e:Ending):Prop:=∃n m:Int,e=.returned (.tuple #[.int .i64 n,.int .i64 m])/\(m=0->∃j,j<=M an/\bQ an j≠0)
def axJ(S:c8)(n:rx S)(zC:Fm S)(bQ:Nat->Nat->Nat)(hq:Au S=true)(w:Γ)(M:Nat->Nat)(fx:∀i,1<=M i/\M i<=5)(rs:List bD)(R:rs.Sublist S.dp)(D3:y' bQ rs)(ca u ra:Θ)(cc N rc:Nat)(eD:jy w ca S.bB)(fB:s4 w u S.aJ M)(Z:wH w ra rs)(bA:Φ)(bg:l_ w bA): χ 21 #[.agg #[S.nm,S.dk,.slice ca S.bB cc,.slice u S.aJ N,.slice ra rs rc,S.an],bA] w λe w'=>avF M bQ S.an e:=by
 have i6:∀dn,β w (w.alloc dn):=λdn=>(bl _ _).alloc (aY _) _;have uc:=A (λW (G:β w W)=>ac8 S n zC W M fx rs R ca u ra cc N rc (eD.K G) (fB.K G) (Z.K G));have ah:=A (λW (G:β w W)=>ayb S n zC bQ W M fx rs R D3 ca u ra cc N rc (eD.K G) (fB.K G) (Z.K G));have aj:=A (λW (G:β w W) r (O:r∈S.dp) L ac (cS:rp W L r.args)=>azE S n hq W M rs ca u ra cc N rc (eD.K G) (fB.K G) r O L ac cS bA (bg.K G));have yp:=A D3;have ay:=A (λr O=>n.BX r (R.subset O));have hx:=A (λ(r:bD) (O:r∈rs)=>R.subset O);have uL:=n.xw;have sx:=n.aJ;have fb:=n.an;have vV:rs.length<=40:=c6 R.length_le n.dp;clear bg D3 zC;go_enter func21,ntmps21;go_wp2_with (go_at_call 51;refine(uc.out _ (i6 _)).mono ?_;rintro e X ⟨rfl,bu⟩);have aQ:AO X w #[S.nm,S.dk,.slice ca S.bB cc,.slice u S.aJ N,.slice ra rs rc,S.an]:= AO.K (B:=w.heap.size+1) ⟨aq,c7 w _⟩ z (bu.mono aq);have co:β w X:=(i6 _).trans (bu.mono aq);clear bu uc i6;go_loopw [7] (λi wr=>∃k:Nat,k<=rs.length/\i=.int .i64 k/\β X wr) (λi _=>rs.length-(RowKit.intOf i).toNat);case atStart=>exact⟨0,dh _,rfl,bl _ _⟩
 case round=>
  obtain⟨k,ao,rfl,a⟩:=hrel;have d:=aQ.K aQ.1 a;have m:β w wr:=b3 co a;let⟨dA,ak,aI,P,Y,h2⟩:=gp d.2;have BA:=d.1;by_cases au:k<rs
  .obtain⟨rb,aK,rfl,iR,q⟩:=Z.K m;let⟨L,ac,f⟩:=q k au;have lw:=f.bi;have h3:=f.c1;have hK:=f.c2;have f3:=f.c3;have Ij:=A f.args;have m':(0:Int)<=(k:Int):=z;have l4:(k:Int)<rs.length:=z;have pa:(k:Int)<=1000:=z;clear f q;go_wp2;go_still_tail 7,aw
   go_wp2_with (go_at_call 52;refine(aj.out _ m.drew rs[k] (hx.out _ (fp au)) L ac (Ij.out.K ((bl _ _).drew))).mono ?_;rintro e bh ⟨⟨il,rfl⟩,bq⟩);all_goals first
    |(
      go_roundw
      case rel=>first|exact⟨k+1,z,bz,(a.drew).trans (bq.mono a.size)⟩|((repeat apply Exists.intro);refine⟨?_,rfl⟩;exact⟨k+1,z,bz,(a.drew).trans (bq.mono a.size)⟩)
      case measure=>simp[RowKit.intOf];omega)
    |(go_ret2;exact⟨⟨_,_,rfl,λh=>by exfalso;have aa:(il !=0)=true:=(by assumption);rw[h]at aa;simp at aa⟩,m.drew.trans (bq.mono m.size)⟩)
  .obtain rfl:k=rs.length:=z;clear aj;go_upto_block 2 with(go_at_call 53;refine(ah.out _ m).mono ?_;rintro e o ⟨⟨va,cB,rfl,yj⟩,bJ⟩)
   have qC:=d.K d.1 bJ;have qA:β w o:=b3 m bJ;clear dA ak aI P Y h2 d m bJ a aQ co BA ah;go_cut [] (λc0=>β o c0/\Hid (∃j,j<=M S.an/\bQ S.an j≠0));case first=>have aJ:=yj.1;(go_wp2_with fail;go_loopw [10] (λi wr=>∃k:Nat,k<=S.aJ.length/\i=.int .i64 k/\β o wr/\Hid (∀s,s<k->∃j,j<=M s/\bQ s j≠0)) (λi _=>S.aJ.length-(RowKit.intOf i).toNat);case atStart=>exact⟨0,dh _,rfl,bl _ _,A λs ad=>z⟩);case round=>obtain⟨l,rfl⟩:∃l:Γ,l=wr:=⟨_,rfl⟩;obtain⟨k,ao,rfl,a,Q⟩:=hrel;by_cases au:k<S.aJ;{have m':(0:Int)<=(k:Int):=z;have l4:(k:Int)<S.aJ.length:=z;have pa:(k:Int)<=1000:=z;have OF:=(fx k).2;obtain⟨Yk,b8,rfl,ar,gt⟩:=(yj.K a).2 z;let⟨xe,am⟩:=gt k au;have jc:=am.1;(go_wp2;go_loopw [11,12] (λt i C=>∃(j v:Nat) (s:Ψ),j<=M k+1/\i=.int .i64 j/\t=.string s/\AY s v/\v<=j*2147483648/\β l C/\Hid (v≠0->∃g,g<j/\bQ k g≠0)) (λ_ i _=>M k+1-(RowKit.intOf i).toNat);case atStart=>exact⟨0,0,⟨#[]⟩,z,rfl,rfl,⟨rfl,al,λ_=>rfl⟩,z,bl _ _,A λh=>absurd rfl h⟩);case round=>(obtain⟨j,v,s,ab,rfl,rfl,ad,J,T,sr⟩:=hrel;have aH:wr ⟨Yk,k,none⟩=some (.slice (some ⟨b8 k,0,none⟩) (M k+1) (M k+1)):=by rw[T.cell ar];exact xe);have jo:β o wr:=b3 a T;by_cases E:j<M k+1;{(let⟨ax,K,ho,av,aB⟩:=(am.K jc T).cell E;have BP:(0:Int)<=(j:Int):=z;have zY:(j:Int)<(M k:Int)+1:=z;have GI:(j:Int)<=1000:=z;have bx:K<2147483648:=rk aB (yp.out.lt _ _);have an:Hid (v+K≠0->∃g,g<j+1/\bQ k g≠0):=A λh=>by by_cases af:v=0;exact⟨j,z,z⟩;let⟨g,H,I⟩:=sr.out af;exact⟨g,z,I⟩);have jZ:=A (λW=>XO s ax v K W ad av z z);clear xe;(go_wp2_with (go_at_call 54;refine(jZ.out _).mono ?_;rintro e w7 ⟨⟨cO,rfl,yw,rJ⟩,ha⟩);go_roundw;case rel=>first|exact⟨j+1,v+K,cO,z,bz,rfl,⟨yw,rJ⟩,z,b3 T ha,an⟩|((repeat apply Exists.intro);refine⟨?_,rfl⟩;exact⟨j+1,v+K,cO,z,bz,rfl,⟨yw,rJ⟩,z,b3 T ha,an⟩));case measure=>simp[RowKit.intOf];omega};{have zY:¬(j:Int)<(M k:Int)+1:=z;clear xe;by_cases hH:s.size=0;{(have z0:((s.size:Int)==0)=true:=by simp[hH]);clear hH;go_wp2;go_ret2;exact⟨⟨_,_,rfl,λh=>by simp at h⟩,b3 qA jo⟩};{(have z0:((s.size:Int)==0)=false:=by rw[mx];omega);(have DG:Hid (∀D,D<k+1->∃j,j<=M D/\bQ D j≠0):=A λD m_=>by by_cases e:D=k;subst e;let⟨g,H,I⟩:=sr.out (λe=>hH (ad.2.2 e));exact⟨g,z,I⟩;exact Q.out D z);clear hH;(go_wp2;go_roundw;case rel=>first|exact⟨k+1,z,bz,jo,DG⟩|((repeat apply Exists.intro);refine⟨?_,rfl⟩;exact⟨k+1,z,bz,jo,DG⟩));case measure=>simp[RowKit.intOf];omega}}};{go_wp2_with fail;go_meet;exact⟨a,A (Q.out S.an z)⟩}
   case rest=>let⟨hcut,Q⟩:=hcut;have F:=qC.K qC.1 hcut;have V:β w wc:=b3 qA hcut;clear qC qA hcut yj yp;have qf:=aE7 S.aJ uL sx;obtain⟨-,-,-,P,-,h2⟩:=gp F.2;have yo:=F.1;have Bq:=r7.d_ wc S.aJ;let⟨fV,bi⟩:=Bq.cell fb;have z0:=Bq.free S.an;have jh:(S.an:Int)<S.aJ.length:=z;have jn:=A (r7.acp wc S.aJ S.an);have oU:=A (fu wc (.cells ((Array.replicate S.aJ (.bool false)).setIfInBounds S.an (.bool true)) 4));clear Bq;(go_wp2;clear qf bi z0 P h2;generalize (wc.alloc (.cells ((Array.replicate S.aJ (.bool false)).setIfInBounds S.an (.bool true)) 4))=tR at jn oU|-;go_loopw [14] (λi wr=>∃k:Nat,k<=S.aJ.length/\i=.int .i64 k/\r7 wr wc S.aJ/\β wc wr) (λi _=>S.aJ.length-(RowKit.intOf i).toNat);case atStart=>exact⟨0,dh _,rfl,jn,oU⟩);case round=>clear jn oU;obtain⟨l,rfl⟩:∃l:Γ,l=wr:=⟨_,rfl⟩;obtain⟨ai,az,rfl,c,a⟩:=hrel;have d:=F.K yo a;have P:=aN 3 d.2;by_cases aG:ai<S.aJ;{have m':(ai:Int)<S.aJ.length:=z;have l4:(ai:Int)<=1000:=z;(go_wp2;go_loopw [15] (λi U=>∃k:Nat,k<=rs.length/\i=.int .i64 k/\r7 U wc S.aJ/\β wc U) (λi _=>rs.length-(RowKit.intOf i).toNat);case atStart=>exact⟨0,dh _,rfl,c,a⟩);case round=>clear c a d P;obtain⟨U,rfl⟩:∃U:Γ,U=wr:=⟨_,rfl⟩;obtain⟨k,nz,rfl,c,a⟩:=hrel;have d:=F.K yo a;have Y:=aN 4 d.2;by_cases uK:k<rs;{have pa:(k:Int)<rs.length:=z;have BP:(k:Int)<=1000:=z;have zY:(0:Int)<=(k:Int):=z;let⟨ck,o4,zI,_,_⟩:=ay.out _ (fp uK);have GI:(rs[k].h:Int)<(S.aJ.length:Int):=z;have Un:(0:Int)<=(rs[k].h:Int):=z;(go_wp2;go_loopw [16] (λi C=>∃j:Nat,j<=rs[k].args.length/\i=.int .i64 j/\r7 C wc S.aJ/\β wc C) (λi _=>rs[k].args.length-(RowKit.intOf i).toNat);case atStart=>exact⟨0,dh _,rfl,c,a⟩);case round=>clear c a d Y;obtain⟨j,ab,rfl,c,a⟩:=hrel;have d:=F.K yo a;have Y:=aN 4 d.2;have m:β w wr:=V.trans (a.mono (by have:=V.size;omega));obtain⟨rb,aK,rfl,iR,q⟩:=Z.K m;let⟨L,ac,f⟩:=q k uK;have lw:=f.bi;have f3:=f.c3;by_cases E:j<rs[k].args.length;{let⟨x,ja⟩:=c.cell ck;have ag:(j:Int)<(rs[k].args.length:Int):=z;have aA:(0:Int)<=(j:Int):=z;have aC:(j:Int)<=1000:=z;cases x;{clear q f;(go_wp2;go_roundw;case rel=>first|exact⟨k+1,z,bz,c,a⟩|((repeat apply Exists.intro);refine⟨?_,rfl⟩;exact⟨k+1,z,bz,c,a⟩));case measure=>simp[RowKit.intOf];omega};{obtain⟨dK,eL,rfl,iE,o5⟩:=f.args z;have lC:=o5 j E;have JA:=zI _ (fp E);have aD:(rs[k].args[j]:Int)<(S.aJ.length:Int):=z;have aE:(0:Int)<=(rs[k].args[j]:Int):=z;let⟨y,pA⟩:=c.cell JA;have aF:=c.free rs[k].args[j];have g8:=A (c.set rs[k].args[j] true);have R0:=A (a.setCell (p:=⟨wc,rs[k].args[j],none⟩) (aY _) (.bool true));clear q f o5 c a;(go_wp2;go_roundw;case rel=>first|exact⟨j+1,z,bz,g8,R0⟩|((repeat apply Exists.intro);refine⟨?_,rfl⟩;exact⟨j+1,z,bz,g8,R0⟩));case measure=>simp[RowKit.intOf];omega}};{have ag:¬(j:Int)<(rs[k].args.length:Int):=z;clear q f;(go_wp2;go_roundw;case rel=>first|exact⟨k+1,z,bz,c,a⟩|((repeat apply Exists.intro);refine⟨?_,rfl⟩;exact⟨k+1,z,bz,c,a⟩));case measure=>simp[RowKit.intOf];omega}};{(go_wp2;go_roundw;case rel=>first|exact⟨ai+1,z,bz,c,a⟩|((repeat apply Exists.intro);refine⟨?_,rfl⟩;exact⟨ai+1,z,bz,c,a⟩));case measure=>simp[RowKit.intOf];omega}};{have LN:β w l:=V.trans (a.mono (by have:=V.size;omega));(go_wp2;go_loopw [17] (λi C=>∃j:Nat,j<=S.aJ.length/\i=.int .i64 j/\C=l) (λi _=>S.aJ.length-(RowKit.intOf i).toNat);case atStart=>exact⟨0,dh _,rfl,rfl⟩);case round=>obtain⟨j,ab,rfl,rfl⟩:=hrel;by_cases E:j<S.aJ;{let⟨x,ja⟩:=c.cell E;have ag:(j:Int)<S.aJ.length:=z;have aA:(0:Int)<=(j:Int):=z;have aC:(j:Int)<=1000:=z;cases x;{go_wp2;go_ret2;exact⟨⟨_,_,rfl,λ_=>Q.out⟩,LN⟩};{(go_wp2;go_roundw;case rel=>first|exact⟨j+1,z,bz,gL⟩|exact⟨j+1,z,bz,rfl⟩|((repeat apply Exists.intro);refine⟨?_,rfl⟩;exact⟨j+1,z,bz,rfl⟩));case measure=>simp[RowKit.intOf];omega}};{go_wp2;go_ret2;exact⟨⟨_,_,rfl,λ_=>Q.out⟩,LN⟩}}
end Go.bk.N
namespace Go.bk.N
open Go Go.Proofs Go.di
def apB(k:Nat)(c:UInt8):Bool:=(Nat.ble 97 c.toNat&&Nat.ble c.toNat 122)||(Nat.ble 65 c.toNat&&Nat.ble c.toNat 90)||(Nat.blt 0 k&&(Nat.beq c.toNat 95||(Nat.ble 48 c.toNat&&Nat.ble c.toNat 57)))
def GT(s:Ψ):Bool:=Nat.ble 1 s.size&&Nat.ble s.size 20&&(s.data.toList.zipIdx.all λp=>apB p.2 p.1)
def aiw(s:Ψ)(k:Nat)(a:k<s.size):s.data.toList[k]? =some s[k]:=by rw[j_ (by rw[iV];exact a)];rfl
variable{s:Ψ}
def acm(h:GT s=true):uf s:=by simp only[GT,dW]at h;let⟨⟨H,I⟩,b⟩:=h;refine⟨hZ H,hZ I,λk a=>?_⟩;have c:(s[k],k)∈s.data.toList.zipIdx:=Wj.2 (aiw s k a);have:=iq.1 b _ c;simp only[apB,Q2,dW,Lk,Nat.beq_eq,Nat.blt_eq]at this;omega
def acM(s:Ψ):Bool:=Nat.ble s.size 60&&(s.data.toList.all λc=>Nat.ble 32 c.toNat&&Nat.ble c.toNat 126)&&Nat.beq (s.data.toList.count 39) 0
def aGQ(h:acM s=true):ahw s:=by simp only[acM,dW]at h;let⟨⟨H,I⟩,b⟩:=h;refine⟨hZ H,λk a=>?_,gK b⟩;have:=iq.1 I s[k] (CO (aiw s k a));simp only[dW,Lk]at this;omega
def Ef(k:Nat):Bool:=Nat.ble 1 k&&Nat.ble k 5
def IW(a b:Ψ):Bool:=a.data.toList.map UInt8.toNat==b.data.toList.map UInt8.toNat
def axf{a b:Ψ}(h:IW a b=false):a≠b:=λe=>by
 subst e
 simp[IW]at h
def Nn:List (Ψ×Nat)->Bool
 |[]=>true
 |c::l=>l.all (λd=> !IW c.1 d.1)&&Nn l
theorem YS:∀{l:List (ByteArray×Nat)},Nn l=true->∀i j (hi:i<l.length) (a:j<l.length),i<j->l[i].1≠l[j].1
 |[],_,i,_,hi,_,_=>by simp at hi
 |c::l,h,i,j,hi,a,d=>by
  simp only[Nn,dW]at h
  cases j with
  |zero=>omega
  |succ j=>
   cases i with
   |zero=>
    have b:j<l.length:=by simpa using a
    have:=iq.1 h.1 l[j] (fp b)
    exact axf (by simpa using this)
   |succ i=>exact YS h.2 i j (by simpa using hi) (by simpa using a) z
def adb(r q:bD):Bool:=Nat.beq r.h q.h&&IW r.op q.op&&IW r.aO q.aO&&(r.args==q.args)
def aIF{r q:bD}(h:adb r q=false):Lz r q:=by by_cases H:r.h=q.h;by_cases I:r.op=q.op;by_cases b:r.aO=q.aO;by_cases a:r.args=q.args;exfalso;simp[adb,H,I,b,a,IW]at h;exact .inr (.inr (.inr a));exact .inr (.inr (.inl b));exact .inr (.inl I);exact .inl H
def SU:List bD->Bool
 |[]=>true
 |r::l=>l.all (λq=> !adb r q)&&SU l
def ajv:∀{l:List bD},SU l=true->l.Pairwise Lz
 |[],_=>List.Pairwise.nil
 |r::l,h=>by simp only[SU,dW]at h;exact List.Pairwise.cons (λq a=>aIF (by have:=iq.1 h.1 q a;simpa using this)) (ajv h.2)
def art(b:Nat)(r:bD):Bool:=GT r.op&&acM r.aO&&Nat.ble r.args.length 3&&r.args.all (λa=>Nat.blt a b)&&Nat.blt r.h b
def adv(S:c8):Bool:=Nat.blt S.dk 100&&GT S.nm&&S.bB.all (λc=>GT c.1&&Ef c.2)&&Nn S.bB&&S.aJ.all (λc=>GT c.1&&Ef c.2)&&Nn S.aJ&&S.dp.all (art S.aJ.length)&&SU S.dp
theorem aJE{S:c8}(h:adv S=true):Fm S:=by
 simp only[adv,dW]at h;obtain⟨⟨⟨⟨⟨⟨⟨H,I⟩,j⟩,f⟩,k⟩,s⟩,t⟩,q⟩:=h;have b:∀{l:List (ByteArray×Nat)},l.all (fun c=>GT c.1&&Ef c.2)=true->∀c∈l,uf c.1/\1<=c.2/\c.2<=5:=fun d c e=>by have:=iq.1 d c e;simp only[Ef,dW,Lk]at this;exact⟨acm this.1,this.2.1,this.2.2⟩
 refine⟨by simpa using H,acm I,b j,YS f,b k,YS s,fun r i=>?_,ajv q⟩;have:=iq.1 t r i;simp only[art,dW,Lk,Nat.blt_eq]at this;obtain⟨⟨⟨⟨g,n⟩,m⟩,p⟩,o⟩:=this;exact⟨acm g,aGQ n,m,fun a aL=>by have:=iq.1 p a aL;simpa using this,o⟩
def aJ1(S:c8):Bool:=tH S.dp S.an||Kl S.dp S.an
def aJz(S:c8):Bool:=Nat.ble S.dp.length 9
def arW(p:c8->Bool):Bool:=p mP&&p mQ&&p mu&&p om&&p lp&&p nb
def Vo{p:c8->Bool}(h:arW p=true)(n:Nat):p (cG n)=true:=by simp only[arW,dW]at h;let⟨⟨⟨⟨⟨af,H⟩,I⟩,b⟩,a⟩,c⟩:=h;unfold cG;split;exact af;split;exact H;split;exact I;split;exact b;split;exact a;exact c
def arZ(n:Nat):Fm (cG n):=aJE (Vo (p:=adv) aw n)
def aJx(n:Nat):KF (cG n).bQ (cG n).dp (cG n).an (cG n).aJ.length=true:=Vo (p:=λS=>KF S.bQ S.dp S.an S.aJ) aw n
def aJv(n:Nat):(cG n).dp.length<=9:=hZ (Vo (p:=aJz) aw n)
def aJy(n:Nat)(M:Nat->Nat)(I:2<=M (cG n).an):x4 (cG n).dp M (cG n).an:=by
 have h:=Vo (p:=aJ1) aw n;rcases atc.1 h with h|h
 exact .inl (Ut h);exact .inr ⟨I,ap' h⟩
end Go.bk.N
namespace Go.bk.N
open Go Go.Proofs.Tryz Go.Proofs Go.RowKit Go.di
open Go.aM (k_ uj er vq q5 Kx)
def aJw(n:Nat):6<=(cG n).dp.length:=by unfold cG;split;decide;split;decide;split;decide;split;decide;split;decide;decide
theorem ax9(S:c8)(b:rx S)(w:World)(M:Nat->Nat)(rs:List bD)(s:0<rs.length)(j:rs.Sublist S.dp)(ca g ra:Option Addr)(cc i rc:Nat)(h:jy w ca S.bB)(q:A7 w g S.aJ M)(o:A5 w ra rs):
  Calls prog 20 #[.agg #[.string S.nm,.int .i64 S.dk,.slice ca S.bB.length cc,.slice g S.aJ.length i,.slice ra rs.length rc,.int .i64 S.an]] w fun e w'=>(∃k l eA f c d,e=.returned (.agg #[.string S.nm,.int .i64 S.dk,.slice k S.bB.length l,.slice (some ⟨eA,0,none⟩) S.aJ.length f,.slice (some ⟨c,0,none⟩) rs.length d,.int .i64 S.an])/\h0 S M rs w.heap.size w' k l eA f c d)/\Below w.heap.size w w':=
 (I4 S b w M rs (c6 j.length_le b.dp) (fun r m=>(b.BX r (j.subset m)).2.1) ca g ra cc i rc h q.at o.at).mono fun e w' ⟨⟨x,y,u,t,aP,h⟩,G⟩=>⟨by
  obtain⟨ca,cc,eA,f,c,d,rfl,rfl,rfl,p⟩:=h.nx b s
  exact⟨ca,cc,eA,f,c,d,aP,p⟩,G⟩
structure xZ (w:Γ) (a:Θ) (n g_:Nat) (F:Ω) (wr:Γ):Prop where
 b:Below w.heap.size w wr
 q:wr.heap[w.heap.size]? =some (.cells #[.string ⟨#[]⟩,.int .i64 0,.slice none 0 0,.slice none 0 0,.slice none 0 0,.int .i64 0] 29 (0,0))
 m:∃c cf:Nat,wr.heap[w.heap.size+1]? =some (.cells #[.slice a n c,.int .i64 cf] 53 (0,0))
 g:wr.heap[g_]? =some (.cells F 29 (0,0))
 NI:w.heap.size+2<=g_
section
variable {w wr w':Γ} {a:Θ} {n g_:Nat} {F:Ω}
def xZ.K(h:xZ w a n g_ F wr)(G:β wr w'):xZ w a n g_ F w':=by let⟨c,d,b⟩:=h.m;exact⟨b3 h.b G,by rw[G.block _ (de h.q)];exact h.q,⟨c,d,by rw[G.block _ (de b)];exact b⟩,by rw[G.block _ (de h.g)];exact h.g,h.NI⟩
def xZ.num(h:xZ w a n g_ F wr)(d:k_ w a n)(f:∀q,a=some q->0<n->q.block<w):er wr (w.heap.size+1) a n:=by
 let⟨c,m,l⟩:=h.m;refine⟨c,m,l,?_,λq j af e=>?_⟩;rcases d with d|⟨b,o,rfl,g⟩;exact .inl d;exact .inr ⟨b,o,rfl,λi hi=>by let⟨x,k⟩:=g i hi;have r:b<w.heap.size:=f _ rfl z;exact⟨x,by rw[h.b.cell r];exact k⟩⟩
 have:=f q j af;omega
variable{N:Int}{e:Ending}
def xZ.next(h:xZ w a n g_ F wr)(d:vq wr (w.heap.size+1) a n N e w'):xZ w a n g_ F w'/\i9 wr w':=by let⟨bi,o,m⟩:=h.m;refine⟨?_,i9.next m d⟩;let⟨_,⟨c,j,f,_⟩,g,b,i,aj,ag⟩:=d;have:=h.NI;exact⟨⟨i.trans h.b.os,aj.trans h.b.tape,ag.trans h.b.output,by rw[g];exact h.b.size,λk l=>by rw[b _ z];exact h.b.block k l⟩,by rw[b _ z];exact h.q,⟨c,j,f⟩,by rw[b _ z];exact h.g,h.NI⟩
end
structure A0 (w:Γ) (a:Θ) (n:Nat) (wr:Γ):Prop where
 b:Below w.heap.size w wr
 q:wr.heap[w.heap.size]? =some (.cells #[.string ⟨#[]⟩,.int .i64 0,.slice none 0 0,.slice none 0 0,.slice none 0 0,.int .i64 0] 29 (0,0))
 m:∃c cf:Nat,wr.heap[w.heap.size+1]? =some (.cells #[.slice a n c,.int .i64 cf] 53 (0,0))
variable{w wr:Γ}{a:Θ}{n:Nat}
def A0.K{w':Γ}(h:A0 w a n wr)(G:β wr w'):A0 w a n w':=by let⟨c,d,b⟩:=h.m;exact⟨b3 h.b G,by rw[G.block _ (de h.q)];exact h.q,⟨c,d,by rw[G.block _ (de b)];exact b⟩⟩
theorem A0.next{w wr w':World}{a:Option Addr}{n:Nat}(h:A0 w a n wr){N:Int}{e:Ending}(d:vq wr (w.heap.size+1) a n N e w'):A0 w a n w':=by
 obtain⟨_,⟨c,j,f,_⟩,g,b,i,aj,ag⟩:=d;exact⟨⟨i.trans h.b.os,aj.trans h.b.tape,ag.trans h.b.output,by rw[g];exact h.b.size,fun k l=>by rw[b _ z];exact h.b.block k l⟩,by rw[b _ z];exact h.q,⟨c,j,f⟩⟩
def A0.to(h:A0 w a n wr)(F:Ω):xZ w a n wr F (wr.alloc (.cells F 29)):=by have H:=h.K ((bl _ _).alloc (aY _) (.cells F 29));let⟨c,d,b⟩:=h.m;have:=de b;exact⟨H.b,H.q,H.m,c7 _ _,z⟩
def IQ:Ω:=#[.string ⟨#[]⟩,.int .i64 0,.slice none 0 0,.slice none 0 0,.slice none 0 0,.int .i64 0]
def R7(S:c8)(w:Γ)(a:Θ)(n g_ k:Nat)(wr:Γ):Prop:=
 ∃F M rs,xZ w a n g_ F wr/\xR S M rs wr F/\(∀i,1<=M i/\M i<=5)/\rs.Sublist S.dp/\S.dp.length<=rs.length+k/\x4 rs M S.an
def IE(S:c8)(k g:Nat)(b c:Γ):Prop:=
 Below b.heap.size b c/\∃(M:Nat->Nat) (rs:List bD) (ca:Θ) (cc eA f d e:Nat),c.heap[g]? =some (.cells #[.string S.nm,.int .i64 S.dk,.slice ca S.bB.length cc,.slice (some ⟨eA,0,none⟩) S.aJ.length f,.slice (some ⟨d,0,none⟩) rs.length e,.int .i64 S.an] 29 (0,0))/\h0 S M rs b.heap.size c ca cc eA f d e/\(∀i,1<=M i/\M i<=5)/\rs.Sublist S.dp/\S.dp.length<=rs.length+(k+1)
def avS(w':Γ)(e:Ending):Prop:=∃(s:Nat) (M:Nat->Nat) (rs:List bD) (F:Ω),e=.returned (.agg F)/\xR (cG s) M rs w' F/\(∀i,1<=M i/\M i<=5)/\rs.Sublist (cG s).dp/\0<rs.length/\x4 rs M (cG s).an
variable{k c:Nat}{W:Γ}
def IE.drew{S:c8}{b:Γ}(h:IE S k c b W):IE S k c b W.drew:=by let⟨H,M,rs,ca,cc,eA,i,f,g,I,e,d⟩:=h;exact⟨H.drew,M,rs,ca,cc,eA,i,f,g,I,e.hN (i9.K (lk W)),d⟩
variable{b:Nat}{z0 z3 z4 z5:Φ}
def ann{h j:Φ}(G:w.heap[b]? =some (.cells #[z0,h,j,z3,z4,z5] 29 (0,0)))(a0 bZ cz a3 a4 a5:Φ): i9 w ((((((w.setCell ⟨b,0,none⟩ a0).setCell ⟨b,1,none⟩ bZ).setCell ⟨b,2,none⟩ cz).setCell ⟨b,3,none⟩ a3).setCell ⟨b,4,none⟩ a4).setCell ⟨b,5,none⟩ a5)/\((((((w.setCell ⟨b,0,none⟩ a0).setCell ⟨b,1,none⟩ bZ).setCell ⟨b,2,none⟩ cz).setCell ⟨b,3,none⟩ a3).setCell ⟨b,4,none⟩ a4).setCell ⟨b,5,none⟩ a5).heap[b]? =some (.cells #[a0,bZ,cz,a3,a4,a5] 29 (0,0)):=by
 have d:=h' (i:=0) G a0;have c:=h' (i:=1) d bZ;have cF:=h' (i:=2) c cz;have e:=h' (i:=3) cF a3;have f:=h' (i:=4) e a4;have g:=h' (i:=5) f a5;have aj:¬Fr 29:=by unfold Fr;decide
 exact⟨(((((i9.set G aj 0 a0).trans (i9.set d aj 1 bZ)).trans (i9.set c aj 2 cz)).trans (i9.set cF aj 3 a3)).trans (i9.set e aj 4 a4)).trans (i9.set f aj 5 a5),g⟩
def alF{x:Nat}(c:x≠b)(a0 bZ cz a3 a4 a5:Φ):((((((w.setCell ⟨b,0,none⟩ a0).setCell ⟨b,1,none⟩ bZ).setCell ⟨b,2,none⟩ cz).setCell ⟨b,3,none⟩ a3).setCell ⟨b,4,none⟩ a4).setCell ⟨b,5,none⟩ a5).heap[x]? =w.heap[x]? :=by rw[ht _ _ _ _ c,ht _ _ _ _ c,ht _ _ _ _ c,ht _ _ _ _ c,ht _ _ _ _ c,ht _ _ _ _ c]
variable{M:Nat->Nat}
def aE1{S:c8}{w7:Γ}{g_:Nat}{g l a0 bZ cz a3 a4 a5:Φ}(h:xZ w a n g_ #[z0,g,l,z3,z4,z5] w7){rs:List bD}(f:xR S M rs w7 #[a0,bZ,cz,a3,a4,a5])(q:∀i,1<=M i/\M i<=5)(o:rs.Sublist S.dp)(m:S.dp.length<=rs.length+k)(b:x4 rs M S.an): R7 S w a n g_ k ((((((w7.setCell ⟨g_,0,none⟩ a0).setCell ⟨g_,1,none⟩ bZ).setCell ⟨g_,2,none⟩ cz).setCell ⟨g_,3,none⟩ a3).setCell ⟨g_,4,none⟩ a4).setCell ⟨g_,5,none⟩ a5):=by let⟨d,G⟩:=ann h.g a0 bZ cz a3 a4 a5;let⟨c,j,e⟩:=h.m;have r:=h.NI;exact⟨_,M,rs,⟨X1 h.b z a0 bZ cz a3 a4 a5,by rw[alF z];exact h.q,⟨c,j,by rw[alF z];exact e⟩,G,h.NI⟩,f.hN d,q,o,m,b⟩
variable{ca:Θ}{cc t l:Nat}{arr:Ω}
def apF{S:c8}{f:Γ}{rs:List bD}{eA h d:Nat}(s:β f W)(g:W.heap[c]? =some (.cells #[S.nm,S.dk,.slice ca S.bB cc,.slice (some ⟨eA,0,none⟩) S.aJ h,.slice (some ⟨b,0,none⟩) rs d,S.an] 29 (0,0)))(p:f.heap.size<=c)(m:h0 S M rs f W ca cc eA h b d)(aL:W.heap[b]? =some (Obj.cells arr 101 (0,0)))(q:arr.size=d*4)(aj:t<rs)(u:l=rs.length-1)(y:∀i,1<=M i/\M i<=5)(x:rs.Sublist S.dp)(z:S.dp.length<=rs.length+k): IE S k c f ((W.setCells b (t*4) (ot arr t rs)).setCell ⟨c,4,none⟩ (.slice (some ⟨b,0,none⟩) l d)):=by
 have o:(rs.eraseIdx t).length=rs.length-1:=by rw[att,ci aj]
 have r:c≠b:=λe=>by rw[e,aL]at g;cases g
 have j:(W.setCells b (t*4) (ot arr t rs)).heap[c]? =some (.cells #[S.nm,S.dk,.slice ca S.bB cc,.slice (some ⟨eA,0,none⟩) S.aJ h,.slice (some ⟨b,0,none⟩) rs d,S.an] 29 (0,0)):=by rw[atg _ _ _ _ (de g) r];exact g
 refine⟨(air m.rb _ _ s).setCell p _,M,rs.eraseIdx t,ca,cc,eA,h,b,d,?_,(m.azc aL q t aj).hN (i9.set j (by unfold Fr;decide) 4 _),y,(List.eraseIdx_sublist ..).trans x,by rw[o];omega⟩;rw[o,<-u];exact h' j _
def apG{S:c8}{f:Nat}{b:Γ}{rs:List bD}{eA g:Nat}(s:β b W)(j:W.heap[f]? =some (.cells #[S.nm,S.dk,.slice ca S.bB cc,.slice (some ⟨eA,0,none⟩) S.aJ l,.slice (some ⟨c,0,none⟩) rs g,S.an] 29 (0,0)))(d:h0 S M rs b W ca cc eA l c g)(aj:t<S.aJ){m:Nat}(q:1<=m/\m<=5)(x:∀i,1<=M i/\M i<=5)(u:rs.Sublist S.dp)(y:S.dp.length<=rs.length+k): IE S k f b (W.setCell ⟨eA,t*3+2,none⟩ m):=by
 let⟨arr,o⟩:=d.bY;have r:f≠eA:=λe=>by rw[e,o]at j;cases j
 refine⟨s.setCell d.bS _,_,rs,ca,cc,eA,l,c,g,by rw[ht _ _ _ _ r];exact j,d.aIY t m aj,λi=>?_,u,z⟩;by_cases e:i=t;simp only[e,oR];exact q;simp only[e,pZ];exact x i
def ar6{S:c8}{rs:List bD}{base:Nat}{eA i:Nat}(h:h0 S M rs base w ca cc eA i b c)(aL:w.heap[b]? =some (Obj.cells arr 101 (0,0)))(g:arr.size=c*4)(f:n<rs):∀j,j<(ot arr n rs).length->(w ⟨b,0+n*4+j,none⟩).isSome=true/\w.frozen? ⟨b,0+n*4+j,none⟩=false:=λj e=>by
 rw[HC h g f]at e
 let⟨u,hu,_⟩:=h.cell aL (n*4+j) z
 refine⟨?_,by simp[World.frozen?,aL]⟩
 have d:w ⟨b,0+n*4+j,none⟩=some u:=by rw[gy];simp only[World.cell?,aL];exact hu
 rw[d];rfl
theorem aEx(w:World)(a:Option Addr)(n c:Nat)(dY:13<=w.heap.size)(ad:k_ w a n)(az:∀q,a=some q->0<n->q.block<w.heap.size)(av:n<=maxLen): Calls prog 5 #[.slice a n c] w fun e w'=>avS w' e/\Below w.heap.size w w':=by
 obtain⟨Ue,TL,lz,jF,m8⟩:=iz amZ;go_enter func5,ntmps5;go_upto_region 2 with fail
 have F6:A0 w a n ((w.alloc (.cells IQ 29)).alloc (.cells #[.slice a n c,.int .i64 0] 53)):=by
  have cC:=jt w (.cells IQ 29);refine⟨(((bl _ _).alloc (aY _) _).alloc aq _),?_,⟨c,0,?_⟩⟩
  ·rw[uC _ _ z];exact c7 _ _
  ·rw[←cC];exact c7 _ _
 have yf:er ((w.alloc (.cells IQ 29)).alloc (.cells #[.slice a n c,.int .i64 0] 53)) (w.heap.size+1) a n:=by
  have cC:=jt w (.cells IQ 29);have G:Below w.heap.size w ((w.alloc (.cells IQ 29)).alloc (.cells #[.slice a n c,.int .i64 0] 53)):=((bl _ _).alloc (aY _) _).alloc aq _;refine⟨c,0,by rw[←cC];exact c7 _ _,?_,fun q aE af e=>?_⟩
  ·rcases ad with ad|⟨b,o,rfl,aL⟩
   ·exact .inl ad
   ·exact .inr ⟨b,o,rfl,fun i hi=>by obtain⟨x,aa⟩:=aL i hi;have jc:b<w.heap.size:=az _ rfl z;exact⟨x,by rw[G.cell jc];exact aa⟩⟩
  ·have:=az q aE af;omega
 unfold IQ at F6 yf;have z0:((w.alloc (.cells #[.string ⟨#[]⟩,.int .i64 0,.slice none 0 0,.slice none 0 0,.slice none 0 0,.int .i64 0] 29)).alloc (.cells #[.slice a n c,.int .i64 0] 53)).heap.size=w.heap.size+2:=aq;generalize ((w.alloc (.cells #[.string ⟨#[]⟩,.int .i64 0,.slice none 0 0,.slice none 0 0,.slice none 0 0,.int .i64 0] 29)).alloc (.cells #[.slice a n c,.int .i64 0] 53))=jW at F6 yf z0⊢;have ao:=A F6;have LU:=A yf;have dT:=A ad;clear F6 yf ad;go_upto_block 0 with(first
  |(go_at_call 19;refine(q5 _ (w.heap.size+1) a n 6 al al av LU.out).mono ?_;rintro e w3 tE;have ar:=A (ao.out.next tE);obtain⟨⟨r,nC,aZ,rfl⟩,tE⟩:=tE;obtain⟨s,rfl⟩:∃s:Nat,r=(s:Int):=⟨r.toNat,z⟩;have D7:s<6:=z;clear tE)
  |(go_at_call 18;refine(aIK s D7 _).mono ?_;rintro e C ⟨rfl,bq⟩)
  |(go_at_call 17;refine(aGZ s _).mono ?_;rintro e bc ⟨⟨F,x,y,M,rfl,g,R,aD⟩,bJ⟩;obtain⟨ca,cc,T,V,ra,rc,rfl,qN,N3,N0,Tf⟩:=R))
 have Th:R7 (cG s) w a n bc.heap.size 0 (bc.alloc (.cells #[.string (cG s).nm,.int .i64 (cG s).dk,.slice ca (cG s).bB.length cc,.slice T (cG s).aJ.length V,.slice ra (cG s).dp.length rc,.int .i64 (cG s).an] 29)):=
  ⟨_,M,(cG s).dp,((ar.out.K bq).K bJ).to _,xR.hN ⟨_,_,_,_,_,_,rfl,qN,N3,N0,Tf⟩ (i9.K ((bl _ _).alloc (aY _) _)),g,List.Sublist.refl _,aY _,aJy s M aD⟩
 have K:=Qb s;have hq:=aLO s;have zC:=A (arZ s);have ay:=A (aJx s);have aZ:=aJw s;clear qN N3 N0 bq bJ ar ao LU g z0 aD Tf;generalize (bc.alloc (.cells #[.string (cG s).nm,.int .i64 (cG s).dk,.slice ca (cG s).bB.length cc,.slice T (cG s).aJ.length V,.slice ra (cG s).dp.length rc,.int .i64 (cG s).an] 29))=bu at Th⊢;generalize bc.heap.size=g_ at Th⊢
 go_wp2_with fail;go_loopw [7] (fun i wr=>∃k:Nat,k<=3/\i=.int .i64 k/\R7 (cG s) w a n g_ k wr) (fun i _=>3-(RowKit.intOf i).toNat);case atStart=>exact⟨0,z,rfl,Th⟩
 case round=>
  clear Th;obtain⟨k,bk,rfl,F,M,rs,B,R,g,P,df,F'⟩:=hrel;have an:=A F';have bg:=A R;clear F' bg;have aO:=R;obtain⟨ca,cc,T,V,ra,rc,rfl,qN,N3,N0,Tf⟩:=aO;clear Tf;by_cases au:k<3
  ·have m':(k:Int)<3:=z;have nC:0<rs.length:=z;have RZ:=A B;have cp:=A R;clear B R qN N3 N0;go_upto_block 2 with(first
    |(have aT:=aX;go_at_call 20;refine(ax9 (cG s) K J M rs nC P ca T ra cc V rc RR.out.1 RR.out.2.1 RR.out.2.2).mono ?_;rintro e w3 ⟨⟨X,Z,eA,Y,d,l,rfl,ax⟩,bj⟩)
    |(have aT:=OP;go_at_call 19;refine(q5 _ (w.heap.size+1) a n 40 al al av (RX.out.num dT.out az)).mono ?_;rintro e J sy;have RY:=A (RX.out.next sy).1;have ni:=A (wx.out.hN (RX.out.next sy).2);obtain⟨⟨aK,aX,bm,rfl⟩,sy⟩:=sy;clear sy;obtain⟨E,rfl⟩:∃q:Nat,aK=(q:Int):=⟨aK.toNat,z⟩;have RR:Hid (jy J ca (cG s).bB/\A7 J T (cG s).aJ M/\A5 J ra rs):=(by obtain⟨fq,fs,bo,bp,e5,e6,aP,H,I,ah,_⟩:=ni.out;cases aP;exact A ⟨H,I,ah⟩);obtain⟨gW,eM,ft,hJ,kR,mC⟩:=gp RY.out.g)
    |(go_at_call 19;refine(q5 _ (w.heap.size+1) a n 4 al al av (RZ.out.num dT.out az)).mono ?_;rintro e am mr;have RX:=A (RZ.out.next mr).1;have wx:=A (cp.out.hN (RZ.out.next mr).2);obtain⟨⟨im,OP,aV,rfl⟩,mr⟩:=mr;clear mr;obtain⟨il,rfl⟩:∃q:Nat,im=(q:Int):=⟨im.toNat,z⟩))
   have Lq:Below w3.heap.size w3 (w3.alloc (.cells #[.string (cG s).nm,.int .i64 (cG s).dk,.slice X (cG s).bB.length Z,.slice (some ⟨eA,0,none⟩) (cG s).aJ.length Y,.slice (some ⟨d,0,none⟩) rs.length l,.int .i64 (cG s).an] 29)):=(bl _ _).alloc (aY _) _;have D:=ax.hN (i9.K Lq);have U:Below J.heap.size J (w3.alloc (.cells #[.string (cG s).nm,.int .i64 (cG s).dk,.slice X (cG s).bB.length Z,.slice (some ⟨eA,0,none⟩) (cG s).aJ.length Y,.slice (some ⟨d,0,none⟩) rs.length l,.int .i64 (cG s).an] 29)):=b3 bj Lq;have m:(w3.alloc (.cells #[.string (cG s).nm,.int .i64 (cG s).dk,.slice X (cG s).bB.length Z,.slice (some ⟨eA,0,none⟩) (cG s).aJ.length Y,.slice (some ⟨d,0,none⟩) rs.length l,.int .i64 (cG s).an] 29)).heap[w3.heap.size]? =some (.cells #[.string (cG s).nm,.int .i64 (cG s).dk,.slice X (cG s).bB.length Z,.slice (some ⟨eA,0,none⟩) (cG s).aJ.length Y,.slice (some ⟨d,0,none⟩) rs.length l,.int .i64 (cG s).an] 29 (0,0)):=c7 _ _;have OJ:J.heap.size<=w3.heap.size:=bj.size;have aM:13<=J.heap.size:=by have:=RY.out.b.size;omega
   clear ax bj Lq RX wx RZ cp OP aV gW eM ft hJ kR mC RR;generalize (w3.alloc (.cells #[.string (cG s).nm,.int .i64 (cG s).dk,.slice X (cG s).bB.length Z,.slice (some ⟨eA,0,none⟩) (cG s).aJ.length Y,.slice (some ⟨d,0,none⟩) rs.length l,.int .i64 (cG s).an] 29))=C at D U m⊢;generalize w3.heap.size=f at m OJ⊢;go_cut [] (fun c0=>IE (cG s) k f J c0);case first=>
    obtain⟨-,-,-,bv,cI⟩:=ai_ m;have z4:C.frozen? ⟨f,4,none⟩=false:=by simp[World.frozen?,m]
    have BC:=de m;by_cases bN:il=1
    ·subst bN;have BE:((rs.length:Int)==0)=false:=by rw[mx];omega
     go_upto_region 12 with fail
     rw[show(E:Int)%(rs.length:Int)=((E%rs.length:Nat):Int)from rfl];have aj:=yP E nC;generalize E%rs.length=t at aj⊢;obtain⟨arr,aI,O⟩:=D.gg;have kU:=D.rl;have N:=A (D.hN (i9.K (lk C)));have Q:Hid (C.drew.heap[d]? =some (Obj.cells arr 101 (0,0))):=A aI;have bn:rs.length<=40:=c6 P.length_le K.dp;have dU:(0:Int)<=(t:Int):=z;have cO:(t:Int)<=(l:Int):=z;have t3:(t:Int)+1<=(rs.length:Int):=z;have t4:(t:Int)+1<=(l:Int):=z;have t5:IntKind.i64.wrap ((t:Int)+1)=(t:Int)+1:=pU _ ⟨z,z⟩;have nc:(rs.length:Int)<=(l:Int):=z;have Cu:(0:Int)<=(t:Int)+1:=z;have Hx:(t:Int)<=(t:Int)+1:=z;have t9:t<=t+1:=z;clear aI;have aJ:f≠d:=fun e=>by rw[e]at m;have:=Q.out;rw[show C.drew.heap[d]? =C.heap[d]? from rfl,m]at this;cases this
     by_cases j1:l=t+1
     ·subst j1
      go_region_law (first|(refine step_append_room (by rfl) _ _ _ (by rfl) 101 Ue 4 afk TL jF d 0 t (t+1) (by rfl) ⟨d,0,none⟩ 0 0 (ot arr t rs.length) (by rfl) (by rw[HC N.out O aj];omega) (fun j u ab=>by have af:=HC N.out O aj;have H:=(kL.1 ab).1;omega) (asC N.out Q.out O aj) z (ar6 N.out Q.out O aj) ?_;have J5:(C.drew.setCells d (t*4) (ot arr t rs.length)).cell? ⟨f,4,none⟩=some (.slice (some ⟨d,0,none⟩) rs.length (t+1)):=(by rw[afo _ _ _ _ _ (fun e _=>absurd e aJ)];exact cI);have z9:(C.drew.setCells d (t*4) (ot arr t rs.length)).frozen? ⟨f,4,none⟩=false:=(by rw[atf];exact z4)))
      all_goals(
       go_wp2_with fail
       go_meet
       exact apF U.drew m OJ N.out Q.out O aj z g P df)
     ·go_region_law (first|(refine step_append_room (by rfl) _ _ _ (by rfl) 101 Ue 4 afk TL jF d 0 t (l) (by rfl) ⟨d,(t+1)*4,none⟩ (rs.length-(t+1)) (l-(t+1)) (ot arr t rs.length) (by rfl) (by rw[HC N.out O aj];omega) (aKx N.out Q.out O aj) (asC N.out Q.out O aj) z (ar6 N.out Q.out O aj) ?_;have J5:(C.drew.setCells d (t*4) (ot arr t rs.length)).cell? ⟨f,4,none⟩=some (.slice (some ⟨d,0,none⟩) rs.length (l)):=(by rw[afo _ _ _ _ _ (fun e _=>absurd e aJ)];exact cI);have z9:(C.drew.setCells d (t*4) (ot arr t rs.length)).frozen? ⟨f,4,none⟩=false:=(by rw[atf];exact z4)))
      all_goals(
       go_wp2_with fail
       go_meet
       exact apF U.drew m OJ N.out Q.out O aj z g P df)
    by_cases dx:il=2
    ·subst dx;have aU:=K.xw;have BE:(((cG s).aJ.length:Int)==0)=false:=by rw[mx];omega
     go_upto_region 15 with fail
     rw[show(E:Int)%((cG s).aJ.length:Int)=((E%(cG s).aJ.length:Nat):Int)from rfl];have aj:=yP E K.xw;generalize E%(cG s).aJ.length=t at aj⊢;have sx:=K.aJ;obtain⟨a_,ae⟩:=D.bY;obtain⟨bf,bd,tA,_,kf⟩:=D.s;cases tA;have bb:=(kf t aj).2.2;simp only[gy]at bb;have dJ:C.frozen? ⟨eA,t*3+2,none⟩=false:=by simp[World.frozen?,ae]
     have gF:=(g t).1;have a':=(g t).2;have dU:(0:Int)<=(t:Int):=z;have cO:(t:Int)<((cG s).aJ.length:Int):=z;have t3:(t:Int)<=1000:=z;have t4:(M t:Int)<=5:=z;have t5:(1:Int)<=(M t:Int):=z;clear kf
     go_region
     all_goals(
      go_wp2_with fail
      go_meet
      rw[show max (1:Int) ((M t:Int)-1)=((max 1 (M t-1):Nat):Int) by omega]
      exact(apG U m D aj z g P df).drew)
    by_cases gc:il=3
    ·subst gc;have aU:=K.xw;have BE:(((cG s).aJ.length:Int)==0)=false:=by rw[mx];omega
     go_upto_region 18 with fail
     rw[show(E:Int)%((cG s).aJ.length:Int)=((E%(cG s).aJ.length:Nat):Int)from rfl];have aj:=yP E K.xw;generalize E%(cG s).aJ.length=t at aj⊢;have sx:=K.aJ;obtain⟨a_,ae⟩:=D.bY;obtain⟨bf,bd,tA,_,kf⟩:=D.s;cases tA;have bb:=(kf t aj).2.2;simp only[gy]at bb;have dJ:C.frozen? ⟨eA,t*3+2,none⟩=false:=by simp[World.frozen?,ae]
     have gF:=(g t).1;have a':=(g t).2;have dU:(0:Int)<=(t:Int):=z;have cO:(t:Int)<((cG s).aJ.length:Int):=z;have t3:(t:Int)<=1000:=z;have t4:(M t:Int)<=5:=z;have t5:(1:Int)<=(M t:Int):=z;clear kf
     go_region
     all_goals(
      go_wp2_with fail
      go_meet
      rw[show min (5:Int) ((M t:Int)+1)=((min 5 (M t+1):Nat):Int) by omega]
      exact(apG U m D aj z g P df).drew)
    have gQ:((il:Int)==1)=false:=bw;have gb:((il:Int)==2)=false:=bw;have jg:((il:Int)==3)=false:=bw
    go_wp2_with fail;go_meet;exact⟨U,M,rs,X,Z,eA,Y,d,l,m,D,g,P,z⟩
   case rest=>
    obtain⟨hR,y8,S,SA,SE,ak,Vn,ai,U',TZ,F7,aB,ag,aR⟩:=hcut;clear D U m;obtain⟨af,H,I,ah,aS,b4⟩:=gp TZ;have bs:13<=wc.heap.size:=c6 aM hR.size;have E_:=A F7;obtain⟨bi,aH⟩:∃bQ:Nat->Nat->Nat,y' bQ S/\∀j,j<=y8 (cG s).an->bQ (cG s).an j≠0->x4 S y8 (cG s).an:=⟨_,ayf K.need ay.out ag,fun j H I=>aJ2 ay.out H I⟩;have aw:=A aH;clear F7 aH
    go_wp2
    go_region_held3 (fun W=>W.cell? ⟨f,0,none⟩=some (.string (cG s).nm)/\W.cell? ⟨f,1,none⟩=some (.int .i64 (cG s).dk)/\W.cell? ⟨f,2,none⟩=some (.slice SA (cG s).bB.length SE)/\W.cell? ⟨f,3,none⟩=some (.slice (some ⟨ak,0,none⟩) (cG s).aJ.length Vn)/\W.cell? ⟨f,4,none⟩=some (.slice (some ⟨ai,0,none⟩) S.length U')/\W.cell? ⟨f,5,none⟩=some (.int .i64 (cG s).an))
     (first|exact⟨af,H,I,ah,aS,b4⟩|exact⟨eQ,dB,dF,gB,hI,h8⟩|exact⟨t0,dU,cO,t3,t4,t5⟩)
     (first
      |(go_at_call 22;refine(ain _ (by show 13<=wc.heap.size;omega)).mono ?_;rintro e br ⟨⟨bA,rfl,aF⟩,dj⟩;have T0:br.heap[f]? =some (.cells #[.string (cG s).nm,.int .i64 (cG s).dk,.slice SA (cG s).bB.length SE,.slice (some ⟨ak,0,none⟩) (cG s).aJ.length Vn,.slice (some ⟨ai,0,none⟩) S.length U',.int .i64 (cG s).an] 29 (0,0)):=(by rw[dj.block f (de TZ)];exact TZ);have E':=A (E_.out.hN (i9.trans (i9.K (lk wc)) (i9.K dj)));obtain⟨eQ,dB,dF,gB,hI,h8⟩:=gp T0)
      |(go_at_call 21;refine(axJ (cG s) K zC.out bi hq br y8 aB S ag aw.out.1 SA _ _ SE Vn U' E'.out.c E'.out.s.at E'.out.r.at bA aF).mono ?_;rintro e w7 ⟨⟨bx,tS,rfl,JE⟩,ha⟩;have aN:=A JE;clear JE;have aG:w7.heap[f]? =some (.cells #[.string (cG s).nm,.int .i64 (cG s).dk,.slice SA (cG s).bB.length SE,.slice (some ⟨ak,0,none⟩) (cG s).aJ.length Vn,.slice (some ⟨ai,0,none⟩) S.length U',.int .i64 (cG s).an] 29 (0,0)):=(by rw[ha.block f (de T0)];exact T0);obtain⟨t0,dU,cO,t3,t4,t5⟩:=gp aG))
    have gC:Below wc.heap.size wc br:=(lk wc).trans dj;have Wr:Below J.heap.size J w7:=(b3 hR gC).trans (ha.mono (c6 hR.size gC.size));have L:=RY.out.K Wr;have aA:=ni.out.hN (i9.K Wr);have Ti:=E'.out.hN (i9.K ha);obtain⟨gW,eM,ft,hJ,kR,mC⟩:=gp L.g;have eg:w7.frozen? ⟨g_,0,none⟩=false:=by simp[World.frozen?,L.g]
    have dz:w7.frozen? ⟨g_,1,none⟩=false:=by simp[World.frozen?,L.g]
    have dJ:w7.frozen? ⟨g_,2,none⟩=false:=by simp[World.frozen?,L.g]
    have cP:w7.frozen? ⟨g_,3,none⟩=false:=by simp[World.frozen?,L.g]
    have jv:w7.frozen? ⟨g_,4,none⟩=false:=by simp[World.frozen?,L.g]
    have j9:w7.frozen? ⟨g_,5,none⟩=false:=by simp[World.frozen?,L.g]
    have Mn:Hid (R7 (cG s) w a n g_ (k+1) w7):=A ⟨_,M,rs,L,aA,g,P,z,an.out⟩;have Sa:=A (fun yg:x4 S y8 (cG s).an=>aE1 L Ti.az0 aB ag aR yg);clear L aA Ti E' E_ gC Wr hR TZ T0 aG af H I ah aS b4 eQ dB dF gB hI h8 RY ni aF;by_cases aC:tS=0
    ·subst aC;have Sa:=A (Sa.out (by obtain⟨ba,aQ,o9⟩:=aN.out rfl;exact aw.out.2 ba aQ o9))
     go_wp2;go_roundw;case rel=>first|exact⟨k+1,z,bz,Sa.out⟩|((repeat apply Exists.intro);refine⟨?_,rfl⟩;exact⟨k+1,z,bz,Sa.out⟩)
     case measure=>simp[RowKit.intOf];omega
    ·have tF:(tS==0)=false:=by simpa using aC
     go_wp2;go_roundw;case rel=>first|exact⟨k+1,z,bz,Mn.out⟩|((repeat apply Exists.intro);refine⟨?_,rfl⟩;exact⟨k+1,z,bz,Mn.out⟩)
     case measure=>simp[RowKit.intOf];omega
  ·have m':¬(k:Int)<3:=z;obtain⟨gW,eM,ft,hJ,kR,mC⟩:=gp B.g;obtain⟨eQ,dB,dF,gB,hI,h8⟩:=gp B.q;have eg:wr.frozen? ⟨w.heap.size,0,none⟩=false:=by simp[World.frozen?,B.q]
   have dz:wr.frozen? ⟨w.heap.size,1,none⟩=false:=by simp[World.frozen?,B.q]
   have dJ:wr.frozen? ⟨w.heap.size,2,none⟩=false:=by simp[World.frozen?,B.q]
   have cP:wr.frozen? ⟨w.heap.size,3,none⟩=false:=by simp[World.frozen?,B.q]
   have jv:wr.frozen? ⟨w.heap.size,4,none⟩=false:=by simp[World.frozen?,B.q]
   have j9:wr.frozen? ⟨w.heap.size,5,none⟩=false:=by simp[World.frozen?,B.q]
   have LJ:=A (ann B.q (.string (cG s).nm) (.int .i64 (cG s).dk) (.slice ca (cG s).bB.length cc) (.slice T (cG s).aJ.length V) (.slice ra rs.length rc) (.int .i64 (cG s).an));have gn:=A (X1 B.b (b:=w.heap.size) (aY _) (.string (cG s).nm) (.int .i64 (cG s).dk) (.slice ca (cG s).bB.length cc) (.slice T (cG s).aJ.length V) (.slice ra rs.length rc) (.int .i64 (cG s).an));have gM:=A R;clear B R qN N3 N0
   go_wp2;refine gd (afq (fn:=f5) rfl _ _ w.heap.size 29 _ (0,0) _ rfl LJ.out.2 underlying29 rfl arX) rfl ?_;exact⟨⟨s,M,rs,_,rfl,gM.out.hN LJ.out.1,g,P,z,an.out⟩,gn.out⟩
end Go.bk.N
