/- ItemInForce, one part of the proof. -/
import Derived.Test.YtdhifebhlocikaaGreatDoorP08
set_option linter.all false
set_option maxRecDepth 100000
set_option maxHeartbeats 16000000
namespace Go.bE
open Go Go.Proofs.Tryz Go.cE Go.Proofs Go.RowKit Go.aM
open Go.bk.N (ol G_ py Be l_)
open Go.di (c8 bD jy)
def Mh(w:Γ)(a:Θ)(l:List Nat):Prop:=l.length<=8/\(0<l.length->∃b o,a=some ⟨b,o,none⟩/\b<w.heap.size/\∀i (hi:i<l.length),w ⟨b,o+i,none⟩=some (.int .i64 (l[i]:Int)))
variable{w:Γ}{l:List Nat}
def Mh.K{w':Γ}{a:Θ}(h:Mh w a l)(G:β w w'):Mh w' a l:=
 ⟨h.1,λaf=>by
  let⟨b,o,e,c,d⟩:=h.2 af
  exact⟨b,o,e,cT G c,λi hi=>(G.cell c).trans (d i hi)⟩⟩
def am3(l:List Nat):List U:=l.map λn=>.int .i64 (.ofNat n)
def ash(l:List Ψ):List U:=l.map py
def aqB(n:Nat):List U:=[.int .i64 (.ofNat n),.int .i64 (.ofNat 1),.int .i64 (.ofNat 200),.str []]
def MJ(h:ay)(b e:Nat)(l:List U):Bool:=match h.cW b with
 |some (.cells a vs _ _)=>Nat.beq e a&&U.p_ (vs.take l.length) l
 |_=>false
def Uj(h:ay)(a:U)(l:List Nat):Bool:=Nat.ble l.length 8&&(match a with
 |.dM=>l.isEmpty
 |.slice b 0 n 1 _=>Nat.beq n l.length&&MJ h b 3 (am3 l)
 |_=>false)
def Vw(h:ay)(a:U)(l:List Ψ):Bool:=Nat.ble l.length 8&&(match a with
 |.dM=>l.isEmpty
 |.slice b 0 n 1 _=>Nat.beq n l.length&&MJ h b 9 (ash l)
 |_=>false)
def Kn(h:ay)(a:U)(o:Option Nat):Bool:=match a,o with
 |.dM,none=>true
 |.slice b 0 1 4 _,some n=>MJ h b 299 (aqB n)
 |_,_=>false
def X0{ρ:cj}{σ:b9}{h:ay}{w:Γ}(d:c_ ρ σ h w){b e:Nat}{l:List U}(G:MJ h b e l=true):∃p arr bd,σ b=some p/\w.heap[p.ba]? =some (.cells arr e bd)/\∀i v,l[i]? =some v->∃x,aT ρ σ v=some x/\arr[p.del+i]? =some x/\w ⟨p.ba,p.del+i,none⟩=some x:=by
 unfold MJ at G;split at G
 .rename_i q vs t wr ar;simp only[dW]at G;obtain⟨H,I⟩:=G;obtain rfl:=gK H;have I:=U.un I;obtain⟨p,arr,bd,cs,ag,c,o,n,_,f,g,j,_⟩:=d.cells ar;refine⟨p,arr,bd,ag,c,λi v J=>?_⟩;have hi:i<l.length:=(kL.1 J).1;have r:l.length<=vs.length:=by have:=iY List.length I;rw[mw]at this;omega
  have m:vs[i]? =some v:=by rw[<-I]at J;rw[pk,ci z]at J;exact J
  obtain⟨x,a,k⟩:=zq f m;exact⟨x,k,by rw[j i z,a],by rw[g i z,a]⟩
 .cases G
variable{c:Φ}
def aDp{ρ:cj}{σ:b9}{h:ay}(k:c_ ρ σ h w){a:U}(hi:Uj h a l=true)(O:aT ρ σ a=some c):∃e ac,c=.slice e l ac/\Mh w e l:=by
 simp only[Uj,dW]at hi;let⟨d,hi⟩:=hi;have d:l.length<=8:=by simpa using d
 split at hi;exact apl;rename_i b n cap;simp only[aT,iW]at O;obtain⟨p,ag,rfl⟩:=O;simp only[dW]at hi;let⟨H,I⟩:=hi;obtain rfl:=gK H;let⟨q,arr,bd,g,j,m⟩:=X0 k I;obtain rfl:p=q:=gm (ag.symm.trans g);refine⟨_,_,rfl,d,λ_=>⟨p.ba,p.del+0,rfl,(hl.1 j).1,λi hi=>?_⟩⟩;let⟨x,f,_,o⟩:=m i (.int .i64 (.ofNat l[i])) (by simp[am3,hi]);simp only[aT,cx]at f;rw[hY,o,<-f];rfl;cases hi
def aKd{ρ:cj}{σ:b9}{h:ay}(k:c_ ρ σ h w){a:U}{l:List Ψ}(hi:Vw h a l=true)(O:aT ρ σ a=some c):∃d ac,c=.slice d l ac/\g0 aD w d l:=by
 simp only[Vw,dW]at hi;let⟨f,hi⟩:=hi;have f:l.length<=8:=by simpa using f
 split at hi;exact apl;rename_i b n cap;simp only[aT,iW]at O;obtain⟨p,ag,rfl⟩:=O;simp only[dW]at hi;let⟨H,I⟩:=hi;obtain rfl:=gK H;let⟨q,arr,bd,g,j,m⟩:=X0 k I;obtain rfl:p=q:=gm (ag.symm.trans g);refine⟨_,_,rfl,z,λ_=>⟨p.ba,p.del+0,rfl,gL,(hl.1 j).1,λi hi=>?_⟩⟩;let⟨x,e,_,o⟩:=m i (py l[i]) (by simp[ash,hi]);rw[Be]at e;rw[hY,o,<-e];cases hi
def aHd{ρ:cj}{σ:b9}{h:ay}(l:c_ ρ σ h w){a:U}{n:Nat}(hi:Kn h a (some n)=true)(e:aT ρ σ a=some c):∃f ac,c=.slice f 1 ac/\p5 w f (n:Int):=by
 unfold Kn at hi;split at hi;rename_i H I;cases I
 .rename_i b cap m H;injection H with H
  subst H;simp only[aT,iW]at e;obtain⟨p,ag,rfl⟩:=e;let⟨q,arr,bd,g,j,o⟩:=X0 l hi;obtain rfl:p=q:=gm (ag.symm.trans g);have d:∀i v,(aqB n)[i]? =some v->arr[p.del+i]? =aT ρ σ v:=λi v J=>by let⟨x,k,aL,_⟩:=o i v J;rw[aL,k]
  exact⟨_,_,rfl,p.ba,p.del+0,arr,bd,rfl,j,by rw[hY];exact d 0 _ rfl,by rw[hY];exact d 1 _ rfl,by rw[hY];exact d 2 _ rfl,by rw[hY];exact(d 3 _ rfl).trans (by simp[aT,e2])⟩
 cases hi
def aFE{ρ:cj}{σ:b9}{h:ay}{a:U}(hi:Kn h a none=true)(b:aT ρ σ a=some c):c=.slice none 0 0:=by unfold Kn at hi;split at hi;simp only[aT,cx]at b;exact b.symm;rename_i H;cases H;cases hi
structure yZ where
 nm:List Ψ
 k:Nat
 n:Nat
 dH:Nat
 ds:Nat
 p:Option Nat
def azn:km 193=none:=aw
noncomputable def g5(op aO:Ψ):Option (U×ay):=(i0 prog km j6.find 300).call 193 [py op,py aO] (hA ⟨.e,13⟩ [])
def g4(f:yZ)(x:Option (U×ay)):Bool:=match x with
 |some (.tup [.agg [a,.int .i64 k,.int .i64 n,.int .i64 dH,.int .i64 ds,p],.bool true],h)=>Vw h a f.nm&&U.p_ [.int .i64 k,.int .i64 n,.int .i64 dH,.int .i64 ds] [.int .i64 (.ofNat f.k),.int .i64 (.ofNat f.n),.int .i64 (.ofNat f.dH),.int .i64 (.ofNat f.ds)]&&Kn h p f.p
 |_=>false
def pw(w:Γ)(a:Θ)(l:Nat)(o:Option Nat):Prop:=match o with
 |none=>a=none/\l=0
 |some n=>l=1/\p5 w a (n:Int)
def Dh(f:yZ)(e:Ending)(w':Γ):Prop:=∃a d aO b c,e=.returned (.tuple #[.agg #[.slice a f.nm.length d,.int .i64 (f.k:Int),.int .i64 (f.n:Int),.int .i64 (f.dH:Int),.int .i64 (f.ds:Int),.slice aO b c],.bool true])/\g0 aD w' a f.nm/\pw w' aO b f.p
def q6(op aO:Ψ)(f:yZ)(i:g4 f (g5 op aO)=true)(w:Γ):Calls prog 193 #[.string op,.string aO] w λe w'=>Dh f e w'/\β w w':=by
 obtain⟨ρ,E,_⟩:=G_ (nH prog) (λ_=>(0,0)) (λ_=>#[]);have ar:kM prog ol:=λg ar=>⟨0,by
  rw[ako]at ar
  simp[ol,ar]⟩
 have C:c_ ρ ol (hA ⟨.e,13⟩ []) w:=by exact ab3
 have D:∃a k n dH ds p h,g5 op aO=some (.tup [.agg [a,.int .i64 k,.int .i64 n,.int .i64 dH,.int .i64 ds,p],.bool true],h)/\Vw h a f.nm=true/\U.p_ [.int .i64 k,.int .i64 n,.int .i64 dH,.int .i64 ds] [.int .i64 (.ofNat f.k),.int .i64 (.ofNat f.n),.int .i64 (.ofNat f.dH),.int .i64 (.ofNat f.ds)]=true/\Kn h p f.p=true:=by unfold g4 at i;split at i;{rename_i K;simp only[dW]at i;exact⟨_,_,_,_,_,_,_,K,i.1.1,i.1.2,i.2⟩};{cases i}
 obtain⟨a,k,n,dH,ds,p,M,J,H,I,o⟩:=D;have I:=U.un I;simp only[qs,U.int.injEq,EX,AM]at I;obtain⟨rfl,rfl,rfl,rfl⟩:=I;refine(Al follows (ρ:=ρ) E (k6.rB tN) uw azn ar (args:=[py op,py aO]) (cs:=[.string op,.string aO]) (by simp[b5,Be]) (l:=[]) rfl rfl C J rfl).mono ?_;rintro e w' ⟨c,u,rfl,q⟩;refine⟨?_,q.b⟩;have d:=q.v;simp only[aT,b5]at d;cases r:aT ρ u a with
 |none=>rw[r]at d;simp at d
 |some N=>
  cases j:aT ρ u p with
  |none=>rw[r,j]at d;simp at d
  |some L=>
   rw[r,j]at d;simp at d;subst d;obtain⟨y,t,rfl,s⟩:=aKd q.h H r;cases ag:f.p with
   |none=>rw[ag]at o;obtain rfl:=aFE o j;exact⟨y,t,none,0,0,rfl,s,by simp[pw,ag]⟩
   |some m=>rw[ag]at o;obtain⟨A,B,rfl,F⟩:=aHd q.h o j;exact⟨y,t,A,1,B,rfl,s,by simp only[pw,ag];exact⟨gL,F⟩⟩
end Go.bE
namespace Go.bE
open Go Go.Proofs.Tryz Go.cE Go.Proofs Go.RowKit Go.aM Go.bk.N
open Go.di (c8 bD jy)
noncomputable def fZ(S:c8)(r:bD)(b:List Nat):Bool:=match ad' S r with
 |some (.tup [a,.int .i64 _,.int .i64 (.ofNat 0)],h)=>st h (ws S)&&Uj h a b
 |_=>false
def Di(b:List Nat)(e:Ending)(w':Γ):Prop:=∃a ac k,e=.returned (.tuple #[.slice a b.length ac,.int .i64 k,.int .i64 0])/\Mh w' a b
def q_(S:c8)(r:bD)(l:List Nat)(d:fZ S r l=true)(w:Γ)(bA:Φ)(ca:Θ)(cc:Nat)(D:l_ w bA)(K:jy w ca S.bB): Calls prog 120 #[.string r.op,.string r.aO,bA,.slice ca S.bB.length cc] w λe w'=>Di l e w'/\β w w':=by
 obtain⟨ρ,σ,h,N,ar,bV,X,rL,JD⟩:=D;obtain⟨dw,o,arr,bd,rfl,mI,O⟩:=K;have mp:∀b,21<=b->σ b=none:=λb G=>bV.kn b z;have C:∀b p,σ b=some p->b≠21:=λb p G e=>by rw[e,mp 21 z]at G;cases G
 obtain⟨kw,zX⟩:∃kw:b9,kw=λb=>if b=21 then some ⟨dw,o,2*cc⟩else σ b:=⟨_,rfl⟩
 have aa:mV σ kw:=λb p G=>by rw[zX];simp only;rw[bo (C b p G)];exact G
 have NP:kw 21=some ⟨dw,o,2*cc⟩:=by rw[zX];simp
 have kH:pR (ws S)=true:=ar0 He (by simp[pR,eG]);have s:Dp (ws S)=true:=by exact apf
 have base:∀b x,(b,x)∈nY->∃p e vs,x=.aK e vs/\σ b=some p/\e≠141/\(∃arr bd,w.heap[p.ba]? =some (.cells arr e bd))/\kA (ρ.at w) σ p w.heap[p.ba]? (.aK e vs):=λb x av=>by exact ao1
 have pe:∀b x,(hA ⟨.e,22⟩ (ws S)).cW b=some x->(b,x)∈nY∨(b=21/\x=.aK 141 (so S.bB)):=λb x G=>by exact aoS
 have aaq:nv w dw=arr:=by simp[nv,mI]
 have vO:qM w dw=bd:=by simp[qM,mI]
 have u:c_ (ρ.at w) kw (hA ⟨.e,22⟩ (ws S)) w:=by exact aof
 have U:kM prog kw:=λg V=>by obtain⟨n,B⟩:=ar g V;exact⟨n,aa _ _ B⟩
 have P:b5 (ρ.at w) kw [py r.op,py r.aO,Bb,.slice 21 0 S.bB.length 2 none]=some [.string r.op,.string r.aO,bA,.slice (some ⟨dw,o,none⟩) S.bB.length cc]:=by exact an3
 have F:∃a k h,ad' S r=some (.tup [a,.int .i64 k,.int .i64 (.ofNat 0)],h)/\st h (ws S)=true/\Uj h a l=true:=by unfold fZ at d;split at d;{rename_i T;simp only[dW]at d;exact⟨_,_,_,T,d.1,d.2⟩};{cases d}
 obtain⟨a,k,W,Q,M,R⟩:=F;refine(Al follows (ρ:=ρ.at w) N (k6.rB tN) uw ajX U P kH s u Q M).mono ?_;rintro e w' ⟨c,E,rfl,j⟩;refine⟨?_,j.b⟩;have J:=j.v;simp only[aT,iW]at J;obtain⟨x,f,rfl⟩:=J;simp only[b5]at f;cases m:aT (ρ.at w) E a with
 |none=>rw[m]at f;simp at f
 |some y=>rw[m]at f;simp only[aT,cx]at f;subst f;obtain⟨A,ac,rfl,L⟩:=aDp j.h R m;exact⟨A,ac,k,rfl,L⟩
def pO:Ψ:=⟨#[112,114,105,99,101,115]⟩
def oA:Ψ:=⟨#[99,111,100,101]⟩
def oL:Ψ:=⟨#[112,114,105,99,101]⟩
def yB:Ψ:=⟨#[110,97,109,101]⟩
def GO:U:=.agg [.str [112,114,105,99,101,115],.slice 13 0 3 1 none,.slice 18 0 2 1 none]
def aj4(x:Option (U×ay)):Bool:=match x with
 |some (.tup [v,.bool true],h)=>U.beq v GO&&st h nY
 |_=>false
def asG(x:Option (U×ay)):Bool:=match x with
 |some (.bool true,h)=>st h nY
 |_=>false
def azk:km 195=none:=aw
def azm:km 293=none:=aw
def azy:aj4 ((i0 prog km j6.find 300).call 195 [Bb,.str [112,114,105,99,101,115]] (hA ⟨.e,21⟩ nY))=true:=aw
def aIi:asG ((i0 prog km j6.find 300).call 293 [GO] (hA ⟨.e,21⟩ nY))=true:=aw
variable{w:Γ}
def aio{ρ:cj}{σ:b9}{h:ay}(a:c_ ρ σ h w)(y:h.nx=21)(d:KA h nY=true):c_ (ρ.at w) σ (hA ⟨.e,21⟩ nY) w:=by have n:∀b,21<=b->σ b=none:=λb G=>a.kn b z;refine⟨λb x G=>?_,λb i x s p g G l ag k m=>?_,λb G=>n b (by rw[G8]at G;exact G)⟩;obtain⟨e,vs,t,wr,rfl,c⟩:=Ak d (Af He G);let⟨p,ag,j⟩:=a.ba b _ c;exact⟨p,ag,ac9 j⟩;obtain⟨e,vs,t,wr,rfl,c⟩:=Ak d (Af He G);obtain⟨r,o,u,q,rfl,f⟩:=Ak d (Af He l);exact a.inj b i _ _ p g c f ag k m
def RH(w:Γ)(c:Φ):Prop:=∃ca cc ra rc,c=.agg #[.string pO,.slice ca 3 cc,.slice ra 2 rc]/\g0 aD w ca [oA,oL,yB]/\fz aD (aR aD 0) w ra [[hX ⟨#[65]⟩,gR 25 1,hX ⟨#[97,112,112,108,101]⟩],[hX ⟨#[66]⟩,gR 3 0,hX ⟨#[98,114,101,97,100]⟩]]
def RH.K{w':Γ}{c:Φ}(h:RH w c)(G:β w w'):RH w' c:=by let⟨ca,cc,ra,rc,e,H,I⟩:=h;exact⟨ca,cc,ra,rc,e,H.K G,fz.K (aR.mono aD 0) I G⟩
variable{b:Nat}
def Vf{ρ:cj}{σ:b9}{h:ay}(f:c_ ρ σ h w)(l:KA h nY=true){e:Nat}{vs:List U}(d:(b,eK.aK e vs)∈nY):∃p cs,σ b=some p/\p.ba<w/\b5 ρ σ vs=some cs/\∀i,i<vs.length->w ⟨p.ba,p.del+i,none⟩=cs[i]? :=by
 let⟨n,m,t,wr,ak,k⟩:=Ak l d;injection ak with ak a
 subst ak;subst a;let⟨p,arr,bd,cs,ag,c,_,_,_,g,j,_⟩:=f.cells k;exact⟨p,cs,ag,(hl.1 c).1,g,j⟩
def aqL{w:Γ}{b o:Nat}{cs:List Φ}{c1 c3:Ψ}{N S:Int}(c:b<w.heap.size)(a:∀i,i<21->w ⟨b,o+i,none⟩=cs[i]?)(e:cs=[.int .i64 1,.string c1,.int .i64 0,.int .i64 0,.int .i64 0,.slice none 0 0,.slice none 0 0,.int .i64 2,.string bX,.int .i64 N,.int .i64 S,.int .i64 0,.slice none 0 0,.slice none 0 0,.int .i64 1,.string c3,.int .i64 0,.int .i64 0,.int .i64 0,.slice none 0 0,.slice none 0 0]):cm aD (aR aD 0) w (some ⟨b,o,none⟩) [hX c1,gR N S,hX c3]:=by
 subst e;refine⟨aq,λ_=>⟨b,o,rfl,gL,c,λj d=>?_⟩⟩;match j,d with
 |0,_=>exact⟨1,c1,0,0,0,none,0,0,none,0,0,aR.jb aD 0 w 1 c1 0 0 0 none 0 none 0,a 0 z,a 1 z,a 2 z,a 3 z,a 4 z,a 5 z,a 6 z⟩
 |1,_=>exact⟨2,bX,N,S,0,none,0,0,none,0,0,aR.jb aD 0 w 2 bX N S 0 none 0 none 0,a 7 z,a 8 z,a 9 z,a 10 z,a 11 z,a 12 z,a 13 z⟩
 |2,_=>exact⟨1,c3,0,0,0,none,0,0,none,0,0,aR.jb aD 0 w 1 c3 0 0 0 none 0 none 0,a 14 z,a 15 z,a 16 z,a 17 z,a 18 z,a 19 z,a 20 z⟩
def aw3(w:Γ)(k:Φ)(Y:l_ w k):∃c,RH w c/\(∀W,β w W->Calls prog 195 #[k,.string pO] W λe w'=>e=.returned (.tuple #[c,.bool true])/\β W w')/\(∀W,β w W->Calls prog 293 #[c] W λe w'=>oW e/\β W w'):=by
 obtain⟨ρ,σ,h,A,ar,d,C,g,D⟩:=Y;obtain⟨s,YF,E,N,r,G⟩:=Vf d g (b:=13) (e:=9) (vs:=[.str [99,111,100,101],.str [112,114,105,99,101],.str [110,97,109,101]]) (by simp[nY]);obtain⟨aqm,s8,Z,O,u,T⟩:=Vf d g (b:=16) (e:=44) (vs:=_) (by unfold nY;exact jw _ (ri ..));obtain⟨af,aa,X,P,x,V⟩:=Vf d g (b:=17) (e:=44) (vs:=_) (by unfold nY;exact jw _ (jw _ (ri ..)));obtain⟨y,ad,L,Q,l,t⟩:=Vf d g (b:=18) (e:=45) (vs:=_) (by unfold nY;exact jw _ (jw _ (jw _ (ri ..))));simp[b5,aT,e2]at r;simp[b5,aT,e2]at u;simp[b5,aT,e2]at x;simp[b5,aT,Z,X]at l;have F:∃ca cc ra rc,aT ρ σ GO=some (.agg #[.string pO,.slice ca 3 cc,.slice ra 2 rc])/\g0 aD w ca [oA,oL,yB]/\fz aD (aR aD 0) w ra [[hX ⟨#[65]⟩,gR 25 1,hX ⟨#[97,112,112,108,101]⟩],[hX ⟨#[66]⟩,gR 3 0,hX ⟨#[98,114,101,97,100]⟩]]:=by
  refine⟨some ⟨s.ba,s.del,none⟩,_,some ⟨y.ba,y.del,none⟩,_,by simp[GO,aT,b5,e2,E,L,pO];exact⟨rfl,rfl⟩,⟨aq,λ_=>⟨_,_,rfl,gL,N,λi hi=>?_⟩⟩,⟨aq,λ_=>⟨_,_,rfl,gL,Q,λi hi=>?_⟩⟩⟩
  .have hi:i<3:=hi;rw[G i (by simpa using hi),<-r];match i,hi with
   |0,_=>rfl
   |1,_=>rfl
   |2,_=>rfl
  .have hi:i<2:=hi;match i,hi with
   |0,_=>exact⟨_,_,by rw[t 0 aq,<-l];rfl,aqL O (λj m=>T j (by simpa using m)) u.symm⟩
   |1,_=>exact⟨_,_,by rw[t 1 aq,<-l];rfl,aqL P (λj m=>V j (by simpa using m)) x.symm⟩
 obtain⟨ca,cc,ra,rc,B,K,S⟩:=F;refine⟨_,⟨ca,cc,ra,rc,rfl,K,S⟩,λW n=>?_,λW n=>?_⟩
 .have hrel:=aio (d.K n) C g;have a:=azy;unfold aj4 at a;split at a
  .rename_i v R q;simp only[dW]at a;obtain⟨H,I⟩:=a;obtain rfl:=U.beq_eq H;have o:b5 (ρ.at W) σ [Bb,.str [112,114,105,99,101,115]]=some [k,.string pO]:=by(have H:aT (ρ.at W) σ Bb=some k:=by rw[I3 (ρ:=ρ.at W) (ρ':=ρ) rfl];exact D);simp only[b5,H];simp[aT,e2,pO]
   refine(Al follows (ρ:=ρ.at W) A (k6.rB tN) uw azk ar o He aw hrel q I).mono ?_;rintro e w' ⟨c,z,rfl,f⟩;refine⟨?_,f.b⟩;have J:=f.v;have M:aT (ρ.at W) z GO=some (.agg #[.string pO,.slice ca 3 cc,.slice ra 2 rc]):=by rw[I3 (ρ:=ρ.at W) (ρ':=ρ) rfl];exact Bf f.ext B
   simp only[aT,b5]at J;rw[M]at J;simp at J;rw[<-J]
  .cases a
 .have hrel:=aio (d.K n) C g;have a:=aIi;unfold asG at a;split at a
  .rename_i R q;have o:b5 (ρ.at W) σ [GO]=some [.agg #[.string pO,.slice ca 3 cc,.slice ra 2 rc]]:=by(have H:aT (ρ.at W) σ GO=some (.agg #[.string pO,.slice ca 3 cc,.slice ra 2 rc]):=by rw[I3 (ρ:=ρ.at W) (ρ':=ρ) rfl];exact B);simp only[b5,H]
   refine(Al follows (ρ:=ρ.at W) A (k6.rB tN) uw azm ar o He aw hrel q a).mono ?_;rintro e w' ⟨c,z,rfl,f⟩;refine⟨?_,f.b⟩;have J:=f.v;simp only[aT,cx]at J;rw[<-J];rfl
  .cases a
end Go.bE
namespace Go.bE
open Go Go.Proofs.Tryz Go.Proofs Go.RowKit Go.Lib Go.aM
variable{w:Γ}
def aqK{c:Θ}{c1 c3:Ψ}{N S:Int}(h:cm aD (aR aD 0) w c [hX c1,gR N S,hX c3]):∃a b k l n m f g d e,c=some ⟨a,b,none⟩/\a<w/\vv w a b (.int .i64 1) (.string c1) (.int .i64 0) (.int .i64 0) (.int .i64 0) (.slice k 0 l) (.slice n 0 m)/\vv w a (b+7) (.int .i64 2) (.string bX) N S (.int .i64 0) (.slice f 0 g) (.slice d 0 e):=by
 obtain⟨a,b,rfl,_,r,o⟩:=h.2 aq;let⟨J,bY,L,P,K,k,x,l,n,y,m,s,i⟩:=o 0 aq;let⟨bN,F,G,I,H,f,M,g,d,O,e,q,j⟩:=o 1 aq;let⟨_,t,u,z,A,dA,_⟩:=s;let⟨_,C,B,D,E,ak,_⟩:=q;injection dA with dA
 injection ak with ak
 simp only[qs,HX,HY,EK,EX,AM]at dA ak;obtain⟨rfl,rfl,rfl,rfl,rfl,⟨rfl,rfl,rfl⟩,rfl,rfl,rfl⟩:=dA;obtain⟨rfl,rfl,rfl,rfl,rfl,⟨rfl,rfl,rfl⟩,rfl,rfl,rfl⟩:=ak;simp only[vh,hY,Rr,tV]at i j;exact⟨a,b,_,_,_,_,_,_,_,_,rfl,r,i,j⟩
variable{x:Int}
def axU(h:(∃(k:Nat) (a:k<[oA,oL,yB].length),x=k/\[oA,oL,yB][k]=oA)∨(x= -1/\oA∉[oA,oL,yB])):x=0:=by
 rcases h with⟨k,a,rfl,aP⟩|⟨_,aP⟩
 .match k,a with
  |0,_=>rfl
  |1,_=>exact absurd aP (show oL≠oA by decide)
  |2,_=>exact absurd aP (show yB≠oA by decide)
 exact absurd aq aP
def axW(h:(∃(k:Nat) (a:k<[oA,oL,yB].length),x=k/\[oA,oL,yB][k]=oL)∨(x= -1/\oL∉[oA,oL,yB])):x=1:=by
 rcases h with⟨k,a,rfl,aP⟩|⟨_,aP⟩
 .match k,a with
  |0,_=>exact absurd aP (show oA≠oL by decide)
  |1,_=>rfl
  |2,_=>exact absurd aP (show yB≠oL by decide)
 exact absurd aq aP
structure Iz (w:Γ) (F aF:Ω) (wr:Γ):Prop where
 b:Below w.heap.size w wr
 g:wr.heap[w.heap.size]? =some (.cells F 111 (0,0))
 l:wr.heap[w.heap.size+1]? =some (.cells aF 44 (0,0))
 o:wr.heap[w.heap.size+1+1]? =some (.cells fo 44 (0,0))
def Iz.K{wr w':Γ}{F a:Ω}(h:Iz w F a wr)(G:β wr w'):Iz w F a w':=
 ⟨b3 h.b G,by rw[G.block _ (bM h.g)];exact h.g,by rw[G.block _ (bM h.l)];exact h.l,by rw[G.block _ (bM h.o)];exact h.o⟩
def Iz.start(w:Γ)(F a:Ω):Iz w F a (((w.alloc (.cells F 111)).alloc (.cells a 44)).alloc (.cells fo 44)):=by let⟨H,I,c,b⟩:=QF w (.cells F 111) (.cells a 44) (.cells fo 44);exact⟨H,I,c,b⟩
def azx{m:Nat}(av:1<=m)(w:Γ)(c:Φ)(e':RH w c)(dE:∀W,β w W->χ 293 #[c] W λe w'=>oW e)(bY:Ψ)(E B:Θ)(C D:Nat): χ 526 #[c,oA,.agg (bC 1 bY 0 0 0 E 0 C B 0 D),oL] w (e_ w m):=by
 obtain⟨ca,cc,ra,rc,rfl,gt,qU⟩:=e';have H:=A (Iz.start w #[pO,.slice ca 3 cc,.slice ra 2 rc] (bC 1 bY 0 0 0 E 0 C B 0 D));have bp:=A dE;have bP:=A λW (ao:β w W) s=>abs W ca cc [oA,oL,yB] s (gt.K ao);obtain⟨cV,lX,rfl,_,o,V⟩:=qU.2 aq;let⟨af,ah,Y,hH⟩:=V 0 aq;let⟨ag,ai,S,ik⟩:=V 1 aq;obtain⟨lw,ct,jC,jD,jj,jK,fq,fs,e5,e6,rfl,f,q,r⟩:=aqK hH;obtain⟨h3,a_,nt,n0,ln,lo,IX,IZ,Kv,Kw,rfl,d,u,y⟩:=aqK ik;simp only[AG,H2,hY,l8,tV,gy,Nat.reduceAdd]at Y S;have ad:=A λW=>abz 0 0 W (bC 1 ⟨#[65]⟩ 0 0 0 jC 0 jD jj 0 jK) (bC 1 bY 0 0 0 E 0 C B 0 D) (hX ⟨#[65]⟩) _ (aR.jb aD 0 W 1 ⟨#[65]⟩ 0 0 0 jC jD jj jK) (aR.jb aD 0 W 1 bY 0 0 0 E C B D);have ae:=A λW=>abz 0 0 W (bC 1 ⟨#[66]⟩ 0 0 0 nt 0 n0 ln 0 lo) (bC 1 bY 0 0 0 E 0 C B 0 D) (hX ⟨#[66]⟩) _ (aR.jb aD 0 W 1 ⟨#[66]⟩ 0 0 0 nt n0 ln lo) (aR.jb aD 0 W 1 bY 0 0 0 E C B D);clear dE gt qU V hH ik;go_enter func526,ntmps526;go_upto_region 1 with fail
 generalize (((w.alloc (.cells #[pO,.slice ca 3 cc,.slice (some ⟨cV,lX,none⟩) 2 rc] 111)).alloc (.cells (bC 1 bY 0 0 0 E 0 C B 0 D) 44)).alloc (.cells fo 44))=am at H|-;have F:=H.out;let⟨eQ,dB,dF⟩:=x_ F.g;have g3:=bM F.g;have Z:=F.b;clear F;go_upto_region 4 with(go_at_call 293;refine(bp.out _ Z).mono ?_;rintro e L ⟨rfl,bu⟩)
 have n:=A (H.out.K bu);have b_:=aN 1 n.out.g;have b7:=bM n.out.g;have k:=n.out.b;clear eQ dB dF g3 H Z bu;go_upto_region 5 with(go_at_call 562;refine(bP.out _ k _).mono ?_;rintro e w3 ⟨⟨x,rfl,K⟩,rfl⟩;obtain rfl:=axU K)
 go_upto_region 8 with(go_at_call 562;refine(bP.out _ k _).mono ?_;rintro e w3 ⟨⟨x,rfl,K⟩,rfl⟩;obtain rfl:=axW K)
 go_wp2;have G:=aN 2 n.out.g;let⟨u0,u1,u2,u3,u4,u5,u6⟩:=eU n.out.l;have cw:=bM n.out.l;have gg:=aA k o Y;have M:=cT k o;have R:=aA k f q.bi;have Q:=aA k f q.c1;have P:=aA k f q.c2;have O:=aA k f q.c3;have U:=aA k f q.c4;have T:=aA k f q.c5;have X:=aA k f q.fe;have I:=cT k f;refine AF 3 ?_;rw[pX];go_wp2;go_still_tail 9,aw;change wpList _ _ _ _ _ L.drew;have ih:=A (n.out.K (lk L));clear gg R Q P O U T X u0 u1 u2 u3 u4 u5 u6 b7 cw b_ G M I k n;generalize L.drew=w3 at*;go_upto_region 12 with(go_at_call 563;refine(ad.out _).mono ?_;rintro e N ⟨⟨im,rfl⟩,g⟩;have j:=A (ih.out.K g);clear g ih)
 cases im with
 |true=>
  have a:=j.out.b;have aI:=aN 2 j.out.g;have le:=bM j.out.g;have fT:=aA a o Y;have GN:=cT a o;have ab:=cT a f;have gW:=aA a f r.bi;have eM:=aA a f r.c1;have ft:=aA a f r.c2;have hJ:=aA a f r.c3;have kR:=aA a f r.c4;have mC:=aA a f r.c5;have p':=aA a f r.fe;let⟨hf,dn,dR,fy,gG,hg,hj⟩:=eU j.out.o;let⟨z0,cC,dC,z3,z4,z5,eJ⟩:=hp j.out.o
  go_wp2;refine gd (j5 (fn:=f526) rfl _ _ (w.heap.size+1+1) 44 _ (0,0) _ _ rfl rfl (iJ j.out.o _ _ _ _ _ _ _) k2 rfl jk) rfl ?_;exact⟨e_.some _ _ _ (aR.jb _ 1 _ 2 bX _ _ 0 _ _ _ _) (.gR 25 1 ⟨aq,aq,z,z,.inr al⟩ (by
   have:10^3<=10^(2*m+1):=k5 z z
   simp only[Int.natAbs]
   omega) z),iU j.out.b z _ _ _ _ _ _ _⟩
 |false=>
  have g:=j.out.b;have G:=aN 2 j.out.g;have b7:=bM j.out.g;let⟨u0,u1,u2,u3,u4,u5,u6⟩:=eU j.out.l;have cw:=bM j.out.l;have gg:=aA g o S;have M:=cT g o;have R:=aA g d u.bi;have Q:=aA g d u.c1;have P:=aA g d u.c2;have O:=aA g d u.c3;have U:=aA g d u.c4;have T:=aA g d u.c5;have X:=aA g d u.fe;have I:=cT g d
  go_wp2;rw[pX]
  go_wp2;go_still_tail 9,aw;change wpList _ _ _ _ _ N.drew;have jp:=A (j.out.K (lk N));clear gg R Q P O U T X u0 u1 u2 u3 u4 u5 u6 b7 cw G M I g j;generalize N.drew=bc at*;go_upto_region 12 with(go_at_call 563;refine(ae.out _).mono ?_;rintro e br ⟨⟨xt,rfl⟩,dj⟩;have l:=A (jp.out.K dj);clear dj jp)
  cases xt with
  |true=>
   have a:=l.out.b;have aI:=aN 2 l.out.g;have le:=bM l.out.g;have fT:=aA a o S;have GN:=cT a o;have ab:=cT a d;have gW:=aA a d y.bi;have eM:=aA a d y.c1;have ft:=aA a d y.c2;have hJ:=aA a d y.c3;have kR:=aA a d y.c4;have mC:=aA a d y.c5;have p':=aA a d y.fe;let⟨hf,dn,dR,fy,gG,hg,hj⟩:=eU l.out.o;let⟨z0,cC,dC,z3,z4,z5,eJ⟩:=hp l.out.o
   go_wp2;refine gd (j5 (fn:=f526) rfl _ _ (w.heap.size+1+1) 44 _ (0,0) _ _ rfl rfl (iJ l.out.o _ _ _ _ _ _ _) k2 rfl jk) rfl ?_;exact⟨e_.some _ _ _ (aR.jb _ 1 _ 2 bX _ _ 0 _ _ _ _) (.gR 3 0 ⟨aq,aq,z,z,.inl rfl⟩ (by
    have:10^3<=10^(2*m+1):=k5 z z
    simp only[Int.natAbs]
    omega) z),iU l.out.b z _ _ _ _ _ _ _⟩
  |false=>
   have G:=aN 2 l.out.g;have b7:=bM l.out.g;let⟨hf,dn,dR,fy,gG,hg,hj⟩:=eU l.out.o;let⟨z0,cC,dC,z3,z4,z5,eJ⟩:=hp l.out.o
   go_wp2;rw[pX]
   go_wp2;refine gd (j5 (fn:=f526) rfl _ _ (w.heap.size+1+1) 44 _ (0,0) _ _ rfl rfl (iJ l.out.o _ _ _ _ _ _ _) k2 rfl jk) rfl ?_;exact⟨e_.none _ _ _ 18 al al,iU l.out.b z _ _ _ _ _ _ _⟩
end Go.bE
namespace Go.bE
open Go Go.Proofs.Tryz Go.Proofs Go.RowKit Go.Lib Go.aM
open Go.bk.N (l_)
def aKt(q:Nat)(P fn dH ds:Int)(ff:Θ)(gr Q:Nat)(m:Nat)(av:1<=m)(bY:Ψ)(w:Γ)(cb aU:Θ)(ac:Nat)(L:Φ)(bg:l_ w L)(ax:g0 aD w cb [pO,oA,oL])(h:cm aD (aR aD 1) w aU [hX bY]): χ 482 #[.string ⟨#[108,111,111,107,117,112]⟩,.agg (e3 cb 3 q P fn dH ds ff gr Q),L,.slice aU 1 ac] w (e_ w m):=by
 have wT:((⟨#[108,111,111,107,117,112]⟩:Ψ).toList==(⟨#[108,111,111,107,117,112]⟩:Ψ).toList)=true:=qH _;obtain⟨b,o,rfl,G,E,B,y,C,af⟩:=MH h;let⟨c,e',JG,aa⟩:=aw3 w L bg;have bp:=A JG;have bP:=A λW (ao:β w W)=>azx (m:=m) av W c (e'.K ao) (λaZ eV=>aa aZ (b3 ao eV)) bY E y B C;obtain⟨ca,cc,ra,rc,rfl,_⟩:=e';obtain⟨g,gY,rfl,_,r,D⟩:=ax.2 aq;have R:=D 0 aq;have M:=D 1 aq;have O:=D 2 aq;simp only[AG,H2,hY]at R M O;have n:=A (lu.start w (e3 (some ⟨g,gY,none⟩) 3 q P fn dH ds ff gr Q) 251);clear h D ax JG aa bg;go_enter VZ,V6;go_upto_region 1 with fail
 generalize ((w.alloc (.cells (e3 (some ⟨g,gY,none⟩) 3 q P fn dH ds ff gr Q) 251)).alloc (.cells fo 44))=am at n|-;have u:=n.out.b;have fV:=aN 0 n.out.g;have BS:=bM n.out.g;have iG:=aA u r R;have ab:=cT u r;go_upto_region 4 with(go_at_call 195;refine(bp.out _ u).mono ?_;rintro e w3 ⟨rfl,d⟩)
 have S:=n.out.K d;have s:=A (S.K (fu w3 (.cells #[pO,.slice ca 3 cc,.slice ra 2 rc] 111)));have N:=c7 w3 (.cells #[pO,.slice ca 3 cc,.slice ra 2 rc] 111);have jV:w.heap.size+1<w3.heap.size:=bM S.o;clear fV BS iG ab u d n S;generalize w3.heap.size=j at*;generalize (w3.alloc (.cells #[pO,.slice ca 3 cc,.slice ra 2 rc] 111))=a at*;have f:=s.out.b;let⟨bi,c1,c2⟩:=x_ N;have c3:a ⟨w,0,none⟩=some (.slice (some ⟨g,gY,none⟩) 3 q):=aN 0 s.out.g;have c4:a ⟨g,gY+1,none⟩=oA:=aA f r M;have c5:a ⟨b,o,none⟩=(1:Int):=aA f G af.bi;have fe:a ⟨b,o+1,none⟩=bY:=aA f G af.c1;have U:a ⟨b,o+2,none⟩=(0:Int):=aA f G af.c2;have T:a ⟨b,o+3,none⟩=(0:Int):=aA f G af.c3;have V:a ⟨b,o+4,none⟩=(0:Int):=aA f G af.c4;have X:a ⟨b,o+5,none⟩=some (.slice E 0 B):=aA f G af.c5;have H:a ⟨b,o+6,none⟩=some (.slice y 0 C):=aA f G af.fe;have F:a ⟨g,gY+2,none⟩=oL:=aA f r O;have jB:a.drew.cell? ⟨j,0,none⟩=pO:=bi;have vA:a.drew.cell? ⟨j,1,none⟩=some (.slice ca 3 cc):=c1;have ry:a.drew.cell? ⟨j,2,none⟩=some (.slice ra 2 rc):=c2;have wM:a.drew.cell? ⟨w,0,none⟩=some (.slice (some ⟨g,gY,none⟩) 3 q):=c3;have MU:a.drew.cell? ⟨g,gY+1,none⟩=oA:=c4;have MV:a.drew.cell? ⟨b,o,none⟩=(1:Int):=c5;have MW:a.drew.cell? ⟨b,o+1,none⟩=bY:=fe;have MY:a.drew.cell? ⟨b,o+2,none⟩=(0:Int):=U;have MZ:a.drew.cell? ⟨b,o+3,none⟩=(0:Int):=T;have M0:a.drew.cell? ⟨b,o+4,none⟩=(0:Int):=V;have MS:a.drew.cell? ⟨b,o+5,none⟩=some (.slice E 0 B):=X;have Yd:a.drew.cell? ⟨b,o+6,none⟩=some (.slice y 0 C):=H;have Ye:a.drew.cell? ⟨g,gY+2,none⟩=oL:=F;have l:w.heap.size+1≠b:=z;have yC:w.heap.size+1≠w.heap.size:=z;have Kf:w.heap.size+1≠g:=z;have K:w.heap.size+1≠j:=z;have jc:=cT f G;have BC:=cT f r;have hT:=bM s.out.g;have tt:=bM N;have k:=A jc;have vl:=A BC;have hw:=A hT;have I:=A tt;have i6:=A f.drew;have sU:=A (s.out.K (lk a));have dO:w.heap.size+1<a.heap.size:=bM s.out.o;clear f G r R M O af N;go_region_held3 (λaZ=>aZ ⟨j,0,none⟩=pO/\aZ ⟨j,1,none⟩=some (.slice ca 3 cc)/\aZ ⟨j,2,none⟩=some (.slice ra 2 rc)/\aZ ⟨w,0,none⟩=some (.slice (some ⟨g,gY,none⟩) 3 q)/\aZ ⟨g,gY+1,none⟩=oA/\aZ ⟨b,o,none⟩=(1:Int)/\aZ ⟨b,o+1,none⟩=bY/\aZ ⟨b,o+2,none⟩=(0:Int)/\aZ ⟨b,o+3,none⟩=(0:Int)/\aZ ⟨b,o+4,none⟩=(0:Int)/\aZ ⟨b,o+5,none⟩=some (.slice E 0 B)/\aZ ⟨b,o+6,none⟩=some (.slice y 0 C)/\aZ ⟨g,gY+2,none⟩=oL) (first|with_reducible exact⟨bi,c1,c2,c3,c4,c5,fe,U,T,V,X,H,F⟩|with_reducible exact⟨jB,vA,ry,wM,MU,MV,MW,MY,MZ,M0,MS,Yd,Ye⟩|with_reducible exact⟨eg,dz,dJ,cP,jv,j9,l7,tS,xD,xE,xC,Y,Z⟩|with_reducible exact⟨(fg K).trans eg,(fg K).trans dz,(fg K).trans dJ,(fg yC).trans cP,(fg Kf).trans jv,(fg l).trans j9,(fg l).trans l7,(fg l).trans tS,(fg l).trans xD,(fg l).trans xE,(fg l).trans xC,(fg l).trans Y,(fg Kf).trans Z⟩|go_keep) (first|(go_at_call 526;refine(bP.out _ i6).mono ?_;rintro e w3 ⟨⟨gc,oh,wF,Dj,od,IX,ad,IZ,Kv,ag,Kw,ae,rfl,oF,lD,l3⟩,d⟩;have x:=sU.out.K d;have eg:=aA d I bi;have dz:=aA d I c1;have dJ:=aA d I c2;have cP:=aA d hw c3;have jv:=aA d vl c4;have j9:=aA d k c5;have l7:=aA d k fe;have tS:=aA d k U;have xD:=aA d k T;have xE:=aA d k V;have xC:=aA d k X;have Y:=aA d k H;have Z:=aA d vl F;let⟨hf,dn,dR,fy,gG,hg,hj⟩:=eU x.o;let⟨z0,cC,dC,z3,z4,z5,eJ⟩:=hp x.o));go_wp2;refine gd (j5 (fn:=f482) rfl _ _ (w.heap.size+1) 44 _ (0,0) _ _ rfl rfl (iJ x.o _ _ _ _ _ _ _) k2 rfl jk) rfl ?_;exact⟨e_.put (base:=a.drew.heap.size) ⟨_,_,_,_,_,_,_,_,_,_,_,_,rfl,oF,lD,l3⟩ (show w.heap.size+1<a from dO) (show w.heap.size<=a.heap.size by omega),iU x.b z _ _ _ _ _ _ _⟩
end Go.bE
namespace Go.bE
open Go Go.Proofs.Tryz Go.Proofs Go.RowKit Go.Lib Go.aM
def bs.kind:bs->Int|.mk k _ _ _ _ _ _=>k
def wE(a:List Nat)(l:List bs):Prop:=l.length=a.length/\∀i (H:i<l.length) (I:i<a.length),l[i].kind=(a[i]:Int)
def pu(a:List Nat)(l:List bs)(k:Nat):Prop:=∀i (H:i<l.length) (I:i<a.length),i<k->l[i].kind=(a[i]:Int)
variable{w w':Γ}
def _root_.LA.PI{b:Nat}{x:Obj}(h:w.heap[b]? =some x)(G:β w w'):w'.heap[b]? =some x:=by rw[G.block _ (bM h)];exact h
def pu.zero(a:List Nat)(l:List bs):pu a l 0:=λi _ _ hi=>z
variable{l:List bs}{k:Nat}
def pu.next{a:List Nat}(h:pu a l k)(H:k<l)(I:k<a)(b:l[k].kind=(a[k]:Int)):pu a l (k+1):=λi _ _ hi=>by
 by_cases e:i=k
 .subst e;exact b
 .exact h i _ _ z
def pu.all{c:List Nat}(h:pu c l k)(H:l.length=c.length)(I:l.length<=k):wE c l:=⟨H,λi a b=>h i a b z⟩
def j7:List Ψ:=[⟨#[99,111,110,99,97,116]⟩,⟨#[117,112,112,101,114]⟩,⟨#[108,111,119,101,114]⟩,⟨#[116,114,105,109]⟩,⟨#[101,120,116,114,97,99,116]⟩,⟨#[108,101,110,103,116,104]⟩,⟨#[112,97,114,115,101]⟩,⟨#[114,101,97,100]⟩,⟨#[109,97,116,99,104]⟩]
def nK:List Ψ:=[⟨#[108,111,111,107,117,112]⟩,⟨#[116,97,98,108,101]⟩,⟨#[119,104,101,114,101]⟩,⟨#[106,111,105,110]⟩,⟨#[112,105,99,107]⟩,⟨#[115,117,109]⟩,⟨#[99,111,117,110,116]⟩,⟨#[102,105,114,115,116]⟩]
def Qf(w:Γ)(l:List Ψ)(h:l.length<=40):g0 aD (w.alloc (.cells (l.map Value.string).toArray 9)) (some ⟨w,0,none⟩) l:=
 ⟨h,λ_=>⟨_,_,rfl,gL,aq,λi hi=>by
  rw[gy]
  exact kQ (c7 w _) (by simp[hi])⟩⟩
structure wv (w wr:Γ):Prop where
 b:Below w.heap.size w wr
 o:wr.heap[w.heap.size]? =some (.cells fo 44 (0,0))
def wv.K{wr:Γ}(h:wv w wr)(G:β wr w'):wv w w':=
 ⟨b3 h.b G,by rw[G.block _ (bM h.o)];exact h.o⟩
def wv.start(w:Γ):wv w (w.alloc (.cells fo 44)):=⟨(bl _ _).alloc (aY _) _,c7 _ _⟩
def pw.K{w w':Γ}{a:Θ}{l:Nat}{o:Option Nat}(h:pw w a l o)(G:β w w'):pw w' a l o:=by
 cases o with
 |none=>exact h
 |some n=>exact⟨h.1,h.2.K G⟩
def Sq(m:Nat)(op aO:Ψ)(ee:List Nat)(f:yZ)(w:Γ)(R:Φ)(ca:Θ)(cl cc:Nat)(fv:Θ)(rl rc:Nat) (pq:∀W,β w W->χ 120 #[op,aO,R,.slice ca cl cc] W (Di ee)) (pn:∀W,χ 193 #[op,aO] W (Dh f)) (kG:∀k∈ee,1<=k)(F:Θ)(ac:Nat)(l:List bs)(P:∀v∈l,∃n,e9 n v)(h:cm aD (aR aD 1) w F l) (Jc:(op.toList==[105,102])=false)(Nt:(op.toList==[99,111,108])=false)(SZ:(op.toList==[116,101,120,116])=false)(Y0:(op.toList==[110,117,109,98,101,114])=false)(ab:(op.toList==[100,97,116,101])=false)(ad:(op.toList==[98,111,111,108])=false)(mq:op∈j7) (Y:wE ee l->∀W c j a d g,β w W->g0 aD W c f.nm->pw W a d f.p->χ 481 #[op,aO,.agg (e3 c f.nm j f.k f.n f.dH f.ds a d g),.slice F l ac] W (e_ W m)): χ 415 #[op,aO,.slice F l ac,R,.slice ca cl cc,.slice fv rl rc] w (e_ w m):=by
 have D:=A (wv.start w);have T:=A pq;have S:=A pn;have qx:=A Y;have pp:=A λW (u:β w W)=>(cm.K (aR.mono aD 1) h u).2;have sR:=A P;have e8:=h.1;have AX:=A kG;have Mf:=A mq;clear mq;clear pq pn Y h P kG;go_enter HR,HT;go_upto_region 1 with fail
 generalize w.alloc (.cells fo 44)=am at D|-;have Q:=D.out.b;go_upto_region 2 with(go_at_call 120;refine(T.out _ Q).mono ?_;rintro e ap ⟨⟨J6,J7,J8,rfl,g'⟩,U⟩;generalize rI:ee.length=ob)
 have e0:=A (D.out.K U);clear T D Q U;by_cases G:l.length=ob
 .have dA:((l.length:Int) !=(ob:Int))=false:=by simp[G]
  have gi:=A λW (u:β ap W)=>(g'.K u).2;clear g';go_wp2;go_loopw [20,21] (λi _ wr=>∃k:Nat,k<=l.length/\i=.int .i64 k/\β ap wr/\pu ee l k) (λi _ _=>l.length-(RowKit.intOf i).toNat);case atStart=>exact⟨0,dh _,rfl,bl _ _,pu.zero _ _⟩
  case round=>obtain⟨k,aa,rfl,bm,qO⟩:=hrel;have eS:=A (e0.out.K bm);by_cases au:k<l;exact Ke;{(have rF:wE ee l:=qO.all (G.trans rI.symm) z;have dO:=bm.size;clear qO gi pp sR e0 bm;go_upto_region 22 with(go_at_call 193;refine(S.out _).mono ?_;rintro e x ⟨⟨c,j,a,d,g,rfl,qR,qg⟩,bJ⟩));(have Z:=eS.out.K bJ;have s:=A (Z.K (fu x (.cells (e3 c f.nm j f.k f.n f.dH f.ds a d g) 251)));have r:=c7 x (.cells (e3 c f.nm j f.k f.n f.dH f.ds a d g) 251);have B:=A (qR.K (fu x (.cells (e3 c f.nm j f.k f.n f.dH f.ds a d g) 251)));have C:=A (pw.K qg (fu x (.cells (e3 c f.nm j f.k f.n f.dH f.ds a d g) 251)));clear Z bJ eS qR qg S;generalize x.heap.size=jq at*;generalize x.alloc (.cells (e3 c f.nm j f.k f.n f.dH f.ds a d g) 251)=y at*;replace r:=A r;go_upto_region 39 with fail);(have O:g0 aD (y.alloc (.cells (j7.map Value.string).toArray 9)) (some ⟨y,0,none⟩) j7:=Qf y j7 al;have M:=A (MG _ _ 9 j7 op O true ⟨λ_=>Mf.out,λ_=>rfl⟩);have t:=A (λ(W:Γ) (e:y.alloc (.cells (j7.map Value.string).toArray 9)=W)=>e▸fu y (.cells (j7.map Value.string).toArray 9));clear O;go_upto_region 40 with(go_at_call 480;refine(M.out).mono ?_;rintro e w7 ⟨rfl,u⟩;replace t:=A (t.out _ u);clear u M));have I:=A (s.out.K t);have N:=A (LA.PI r t);have J:=A (B.out.K t);have L:=A (pw.K C t);clear t s r B C;have s:=I;have r:=N;have B:=J;have C:=L;clear I N J L;let⟨lw,h3,hK,f3,wW,f5⟩:=gp r;have E:=qx.out rF w7 c j a d g s.out.b B C;rw[G]at E;replace E:=A E;have zU:w.heap.size<=w7.heap.size:=s.out.b.size;have kr:w.heap.size<w7.heap.size:=bM s.out.o;clear qx B C r rF dO;go_wp2_with (go_at_call 481;(with_reducible refine E.out.mono ?_);rintro e Ax ⟨⟨ii,bU,kl,mf,kE,mD,mh,mE,mF,mj,mG,err,rfl,oF,lD,l3⟩,oE⟩;have X:=A (s.out.K oE);have H:=X.out.o;let⟨hf,dn,dR,fy,gG,hg,hj⟩:=eU H;let⟨z0,cC,dC,z3,z4,z5,eJ⟩:=hp H);refine gd (j5 (fn:=f415) rfl _ _ w 44 _ (0,0) _ _ rfl rfl (iJ H _ _ _ _ _ _ _) k2 rfl jk) rfl ?_;exact⟨e_.put (base:=w7.heap.size) ⟨_,_,_,_,_,_,_,_,_,_,_,_,rfl,oF,lD,l3⟩ kr zU,iU X.out.b z _ _ _ _ _ _ _⟩}
 exact GR
def ahA(e:Ending):Prop:=∃b:Bool,e=.returned (.bool b)
attribute [local irreducible] wpStill in
def azD(cs:List (Ψ×Nat))(l:List bs)(w:Γ)(ca ra:Θ)(cc rc:Nat)(N:Go.di.jy w ca cs)(e8:cs.length<=8)(t:∀v∈l,∃n,e9 n v)(h:cm aD (aR aD 1) w ra l): Calls prog 474 #[.slice ca cs.length cc,.slice ra l.length rc] w λe w'=>ahA e/\β w w':=by
 obtain⟨m,D,arr,bd,rfl,G,u⟩:=N;have Q:=A λW (g:β w W) k (x:k<cs.length)=>(show W ⟨m,D+k*2+1,none⟩=some (.int .i64 cs[k].2) by rw[World.cell?,g.block _ (bM G),G];simp[(u k x).2]);have ab:m<w.heap.size:=bM G;have U:=A λW (g:β w W)=>(cm.K (aR.mono aD 1) h g).2;have V:=A t;clear G u h t;go_enter func474,ntmps474;by_cases j:cs.length=l.length
 .have dA:((cs.length:Int) !=(l.length:Int))=false:=by simp[j]
  have M:=A j;clear j;go_wp2;go_loopw [5,6] (λi _ wr=>∃k:Nat,k<=l.length/\i=.int .i64 k/\β w wr) (λi _ _=>l.length-(RowKit.intOf i).toNat);case atStart=>exact⟨0,dh _,rfl,bl _ _⟩
  case round=>obtain⟨k,x,rfl,c⟩:=hrel;by_cases au:k<l.length;{(have X:k<cs.length:=by have:=M.out;omega);(obtain⟨y,O,rfl,_,F,E⟩:=U.out _ c z;obtain⟨bN,bH,bL,cL,bT,fq,mB,fs,e5,mO,e6,ag,a⟩:=E k au;obtain⟨Y,r⟩:=V.out _ (fp au);have s:=A (ac5 r _ _ ag);have C:=a.bi;have K:=a.c1;have L:=a.c2;have P:=a.c3;have S:=a.c4;have R:=a.c5;have T:=a.fe;have gQ:(0:Int)<=(k:Int):=z;have gb:(k:Int)<l.length:=z;have jg:(k:Int)<cs.length:=z;have I:y<wr.heap.size:=F;have H:=A C;have B:=c.size;have o:=A c;clear E a ag r;go_upto_region 7 with(go_at_call 211;(with_reducible refine s.out.mono ?_);rintro e b ⟨rfl,f⟩));(have fi:=aA f I H.out;have bi:=Q.out _ (o.out.trans (f.mono B)) k X;have d:=(o.out.trans (f.mono B)).drew;have Z:b.drew.cell? ⟨y,O+k*7,none⟩=_:=fi;have aa:b.drew.cell? ⟨m,D+k*2+1,none⟩=_:=bi;clear C K L P S R T H F I fi bi c f s o;refine wt aw aw ?_;change wpStill _ _ b.drew (λa'=>Exit.then _ _ Exit.normal a' b.drew) _ _;generalize b.drew=bc at*;generalize cs[k].2=q at*;rcases VS (bN !=(q:Int))with ak|ak<;>rcases VS (bN !=0)with J|J);{(repeat still_step);refine tU ?_;go_wp2;go_ret;exact⟨⟨_,rfl⟩,d⟩};all_goals((repeat still_step);refine tU ?_;(go_wp2;go_roundw;case rel=>first|exact⟨k+1,z,bz,d⟩|exact⟨k+1,z,z⟩|exact⟨k+1,z,z,d⟩|((repeat apply Exists.intro);refine⟨?_,rfl⟩;exact⟨k+1,z,bz,d⟩));case measure=>simp[RowKit.intOf];omega)};{go_wp2;go_ret;exact⟨⟨_,rfl⟩,c⟩}
 .have dA:((cs.length:Int) !=(l.length:Int))=true:=bw;go_wp2;go_ret;exact⟨⟨_,rfl⟩,bl _ _⟩
def ahC(a b:Int)(e:Ending):Prop:=∃x:Int,e=.returned (.int .i64 x)/\a<=x/\x<=b
def Mv(n:Nat)(e:Ending):Prop:=∃s:Ψ,e=.returned (.string s)/\s.size<=n
def aD9(y:Int)(w:Γ)(af:1<=y)(H:y<=9999):Calls prog 484 #[y] w λe w'=>ahA e/\w=w':=by go_enter func484,ntmps484;go_wp2;all_goals(go_ret;exact⟨⟨_,rfl⟩,rfl⟩)
def ayo(y m:Int)(w:Γ)(af:1<=y)(H:y<=9999):Calls prog 424 #[y,m] w λe w'=>ahC 28 31 e/\w=w':=by have AQ:=A (aD9 y w af H);go_enter func424,ntmps424;go_wp2_with (go_at_call 484;(with_reducible refine AQ.out.mono ?_);rintro e a ⟨⟨b,rfl⟩,rfl⟩;cases b);all_goals(go_ret;exact⟨⟨_,rfl,al,al⟩,rfl⟩)
def azB(y:Int)(w:Γ)(af:1<=y)(H:y<=9999):Calls prog 423 #[y] w λe w'=>ahC (-100) 4000000 e/\w=w':=by have c:=K9 (a:=y-1) (b:=4) z;have d:=K9 (a:=y-1) (b:=100) z;have f:=K9 (a:=y-1) (b:=400) z;go_enter func423,ntmps423;go_wp2;go_ret;refine⟨⟨_,rfl,?_,?_⟩,rfl⟩;all_goals omega
def ayJ(n:Int)(c:Nat)(w:Γ)(af: -6000000<=n)(H:n<=4000000)(o:c<=4):χ 310 #[n,c] w λe w'=>Mv 4000010 e:=by
 go_enter func310,ntmps310;go_wp2;go_loopw [0,1,5] (λx y v wr=>∃(j:Nat) (d:Int) (s:Ψ),s.size=j/\x=.int .i64 d/\y=.int .i64 ((c:Int)-j)/\v=.string s/\ -6000000<=d/\d<=4000000/\j+d.toNat+((c:Int)-j).toNat<=4000010/\β w wr) (λx y _ _=>(RowKit.intOf x).toNat+(RowKit.intOf y).toNat);case atStart=>exact⟨0,n,bX,rfl,rfl,aq,rfl,af,H,z,bl _ _⟩
 case round=>(obtain⟨j,x,s,V,rfl,rfl,rfl,k,r,m,G⟩:=hrel;have tw: -6000000<=x.tdiv 10:=by exact ab5);(have h5:x.tdiv 10<=4000000:=by exact ab5);(have t:(x.tdiv 10).toNat<=x.toNat-1:=by exact ab5);(have l:=λai=>ap3 wr ai;have jf:∀ai,(strOfNums [ai]).size=1:=λai=>by rw[Re];rfl);have q:s.size<=4000010:=z;by_cases g:0<x;{(have ak:decide (0<x)=true:=by simpa using g);exact an8};{(have ak:decide (0<x)=false:=by simpa using g);by_cases f:0<(c:Int)-j;{(have i:decide (0<(c:Int)-j)=true:=by simpa using f);exact an8};{(have i:decide (0<(c:Int)-j)=false:=by simpa using f);go_wp2;go_ret;exact⟨⟨s,rfl,z⟩,G⟩}}
def avE(e:Ending):Prop:=∃y m d:Int,e=.returned (.tuple #[.int .i64 y,.int .i64 m,.int .i64 d,.bool true])/\1<=y/\y<=9999/\1<=m/\m<=4000000/\ -5000000<=d/\d<=4000000
def aIg(n:Int)(w:Γ)(af:0<=n)(H:n<=3652058):Calls prog 422 #[n] w λe w'=>e=.returned (.bool true)/\w=w':=by go_enter func422,ntmps422;go_wp2;exact Pn
def axK(n:Int)(w:Γ)(af:0<=n)(H:n<=3652058):Calls prog 309 #[n] w λe w'=>avE e/\w=w':=by
 have k:=A (aIg n w af H);have qx:=A λy (a:1<=y) (b:y<=9999)=>azB y w a b;have qw:=A λy m (a:1<=y) (b:y<=9999)=>ayo y m w a b;go_enter func309,ntmps309;go_upto_region 3 with(go_at_call 422;(with_reducible refine k.out.mono ?_);rintro e c ⟨rfl,rfl⟩)
 go_wp2;go_loopw [6,7] (λx y wr=>∃eo hi:Int,x=.int .i64 eo/\y=.int .i64 hi/\1<=eo/\eo<=hi/\hi<=9999/\w=wr) (λx y _=>(RowKit.intOf y-RowKit.intOf x).toNat);case atStart=>exact⟨1,9999,rfl,rfl,al,al,al,rfl⟩
 case round=>obtain⟨eo,hi,rfl,rfl,b7,cw,iS,rfl⟩:=hrel;by_cases au:eo<hi;{(have I:eo<(eo+hi+1).tdiv 2:=by rw[K9 z];omega);(have J:(eo+hi+1).tdiv 2<=hi:=by rw[K9 z];omega);(go_upto_region 7 with fail);generalize (eo+hi+1).tdiv 2=mid at*;have g:=A (qx.out mid z z);go_wp2_with (go_at_call 423;(with_reducible refine g.out.mono ?_);rintro e c ⟨⟨f,rfl,t,q⟩,rfl⟩;rcases VS (decide (f<=n))with l|l);exact⟨⟨mid,hi,rfl,rfl,z,z,z,gL⟩,by simp only[RowKit.intOf];omega⟩;exact⟨⟨eo,mid-1,rfl,rfl,z,z,z,gL⟩,by simp only[RowKit.intOf];omega⟩};{(have g:=A (qx.out eo z z);go_upto_region 11 with(go_at_call 423;(with_reducible refine g.out.mono ?_);rintro e c ⟨⟨f,rfl,t,q⟩,rfl⟩));(go_wp2;go_loopw [9,10] (λx y wr=>∃r m:Int,x=.int .i64 r/\y=.int .i64 m/\ -4000100<=r/\r<=3652158/\1<=m/\m+r.toNat<=3652200/\w=wr) (λx _ _=>(RowKit.intOf x).toNat);case atStart=>exact⟨n-f,1,rfl,rfl,z,z,al,z,rfl⟩);case round=>(obtain⟨r,m,rfl,rfl,gg,D,s,F,rfl⟩:=hrel;have j:=A (qw.out eo m z z);go_upto_region 13 with(go_at_call 424;(with_reducible refine j.out.mono ?_);rintro e c ⟨⟨d,rfl,G,E⟩,rfl⟩;rcases VS (decide (d<=r))with i|i));{(go_wp2_with (go_at_call 424;(with_reducible refine j.out.mono ?_);rintro e c ⟨⟨o,rfl,B,C⟩,rfl⟩);have u:d<=r:=by simpa using i);exact⟨⟨r-o,m+1,rfl,rfl,z,z,z,z,gL⟩,by simp only[RowKit.intOf];omega⟩};{refine gd (by simp[results,results309,go_sem];rfl) rfl ?_;exact⟨⟨eo,m,r+1,rfl,z,z,s,z,z,z⟩,rfl⟩}}
def aKD(n:Int)(w:Γ)(af:0<=n)(H:n<=3652058):χ 215 #[n] w λe w'=>Mv 20000000 e:=by
 have nf:=A (axK n w af H);have f:=A λn i (W:Γ) (a: -6000000<=n) (b:n<=4000000) (c:i<=4)=>ayJ n i W a b c;go_enter func215,ntmps215;go_upto_region 4 with(go_at_call 309;(with_reducible refine nf.out.mono ?_);rintro e k ⟨⟨y,m,d,rfl,B,u,F,D,E,x⟩,rfl⟩)
 have q:Hid (∀W,χ 310 #[y,.int .i64 4] W λe w'=>Mv 4000010 e):=A λW=>f.out y 4 W z z al;have l:Hid (∀W,χ 310 #[m,.int .i64 2] W λe w'=>Mv 4000010 e):=A λW=>f.out m 2 W z z al;have r:Hid (∀W,χ 310 #[d,.int .i64 2] W λe w'=>Mv 4000010 e):=A λW=>f.out d 2 W z z al;go_wp2_with (first|(go_at_call 310;(with_reducible refine(q.out _).mono ?_);rintro e k ⟨⟨t,rfl,G⟩,g⟩)|(go_at_call 310;(with_reducible refine(l.out _).mono ?_);rintro e s ⟨⟨C,rfl,I⟩,j⟩)|(go_at_call 310;(with_reducible refine(r.out _).mono ?_);rintro e w3 ⟨⟨J,rfl,K⟩,o⟩));go_ret;refine⟨⟨_,rfl,?_⟩,(b3 g j).trans (o.mono (b3 g j).size)⟩;have hd:(⟨#[45]⟩:Ψ).size=1:=rfl;rw[KZ,KZ,KZ,KZ,hd];omega
def Mu(e:Ending):Prop:=∃s:Ψ,e=.returned (.string s)/\1<=s.size
inductive rt:bs->Prop
 |hX (s:ByteArray) (h:kC s):rt (hX s)
 |gR (N:Int) (S:Nat) (h:hC N S) (bt:S<=3):rt (gR N S)
 |kD (d:Int) (af:0<=d) (H:d<=3652058):rt (kD d)
def rt.right{v:bs}(J:rt v)(w:Γ)(F:Ω)(h:aR aD 1 w F v):χ 211 #[.agg F] w λe w'=>oW e:=by
 cases J with
 |hX s a=>obtain⟨ca,cc,ra,rc,rfl,_⟩:=h;exact ac7 s ca cc ra rc w a
 |gR N S a _=>obtain⟨ca,cc,ra,rc,rfl,_⟩:=h;exact ac6 N S ca cc ra rc w a
 |kD d af H=>obtain⟨ca,cc,ra,rc,rfl,_⟩:=h;exact ari d ca cc ra rc w af H
def ajh(n:Nat)(a:n<=1000000000000000):(decDigits n).length<=1000000000000001:=by have H:=afg n;have I:=UM n n (aY _);omega
def aK2(neg:Bool)(n S:Nat)(a:n<=1000000000000000)(b:S<=3):(yI neg n S).length<=4000000000000004:=by
 unfold yI;have ag:10^S<=10^3:=k5 z b;have c:0<10^S:=H_ z;have H:=ajh (n/10^S) (c6 (H7 _ _) a);have I:=yP n c;have e:=ajh (10^S+n%10^S) z;have d:(List.drop 1 (decDigits (10^S+n%10^S))).length<=1000000000000001:=by rw[pm];omega
 rw[ir,ir];have f:(if neg=true then [(45:UInt8)]else []).length<=1:=by split<;>simp
 have g:(if 0<S then 46::List.drop 1 (decDigits (10^S+n%10^S))else []).length<=1000000000000002:=by split;rw[l8];omega;simp
 omega
def aHK(s:Ψ)(w:Γ)(h:kC s):Calls prog 213 #[s] w λe w'=>Mu e/\w=w':=by
 have g:(s.size:Int)<=200:=by have:=h.1;omega
 clear h;go_enter func213,ntmps213;go_wp2;go_loopw [3,4] (λx i wr=>∃(k:Nat) (t:Ψ),k<=s.size/\i=.int .i64 k/\x=.string t/\1<=t.size/\t.size<=1+2*k/\w=wr) (λ_ i _=>s.size-(RowKit.intOf i).toNat);case atStart=>exact⟨0,_,dh _,rfl,rfl,al,al,rfl⟩
 case round=>obtain⟨k,t,c,rfl,rfl,t0,f,rfl⟩:=hrel;by_cases au:k<s.size;{(have b:(k:Int)<s.size:=z;have aj:t.size<=401:=z;have d:(s.extract k (k+1)).size<=1:=by rw[ByteArray.size_extract];omega);go_wp2;all_goals(refine⟨⟨k+1,_,z,bz,rfl,?_,?_,gL⟩,by simp[RowKit.intOf];omega⟩;all_goals(have a:(⟨#[39]⟩:Ψ).size=1:=rfl;simp only[KZ,a];omega))};{have b:¬(k:Int)<s.size:=z;have aj:t.size<=401:=z;go_wp2;go_ret;exact⟨⟨_,rfl,by rw[KZ];omega⟩,rfl⟩}
def aKH(s:Ψ)(ca:Θ)(cc:Nat)(ra:Θ)(rc:Nat)(w:Γ)(b:kC s):χ 132 #[.agg (bC 1 s 0 0 0 ca 0 cc ra 0 rc)] w λe w'=>Mu e:=by have j:=A λW=>(rt.hX s b).right W (bC 1 s 0 0 0 ca 0 cc ra 0 rc) (aR.jb aD 1 W _ _ _ _ _ _ _ _ _);have i:=A λW=>aHK s W b;have c:=c7 w (.cells (bC 1 s 0 0 0 ca 0 cc ra 0 rc) 44 (0,0));have d:=Rb (bl w w) (aY _) (.cells (bC 1 s 0 0 0 ca 0 cc ra 0 rc) 44 (0,0));have g:=A c;have k:=A d;clear c d;go_enter func132,ntmps132;go_wp2_with (first|(go_at_call 211;(with_reducible refine(j.out _).mono ?_);rintro e n ⟨rfl,a⟩;have f:=(a.block _ aq).trans g;let⟨u,r,t,x,z,y,B⟩:=eU f;have l:=A (k.out.trans (a.mono aq));clear f a)|(go_at_call 213;(with_reducible refine(i.out _).mono ?_);rintro e o ⟨⟨q,rfl,m⟩,rfl⟩));go_ret;exact⟨⟨_,rfl,m⟩,l⟩
def aKF(N:Int)(S:Nat)(ca:Θ)(cc:Nat)(ra:Θ)(rc:Nat)(w:Γ)(h:hC N S)(b:S<=3):χ 132 #[.agg (bC 2 bX N S 0 ca 0 cc ra 0 rc)] w λe w'=>Mu e:=by have k:=A λW=>(rt.gR N S h b).right W (bC 2 bX N S 0 ca 0 cc ra 0 rc) (aR.jb aD 1 W _ _ _ _ _ _ _ _ _);have j:=A λW=>aKI N S W h b;have i:=A (Go.bE.aK2 (decide (N<0)) N.natAbs S (by have:=h.2.2;omega) b);have c:=c7 w (.cells (bC 2 bX N S 0 ca 0 cc ra 0 rc) 44 (0,0));have d:=Rb (bl w w) (aY _) (.cells (bC 2 bX N S 0 ca 0 cc ra 0 rc) 44 (0,0));have g:=A c;have n:=A d;clear c d;go_enter func132,ntmps132;go_wp2_with (first|(go_at_call 211;(with_reducible refine(k.out _).mono ?_);rintro e r ⟨rfl,a⟩;have f:=(a.block _ aq).trans g;let⟨x,t,u,y,B,z,C⟩:=eU f;have o:=A (n.out.trans (a.mono aq));clear f a)|(go_at_call 214;(with_reducible refine(j.out _).mono ?_);rintro e s ⟨⟨m,rfl,q⟩,l⟩;have ex:=A (b3 o l);have D:m.size<=4000000000000004:=(by have:=i.out;rw[<-q,iV]at this;exact this)));exact apd
def aKE(d:Int)(ca:Θ)(cc:Nat)(ra:Θ)(rc:Nat)(w:Γ)(af:0<=d)(H:d<=3652058):χ 132 #[.agg (bC 3 bX 0 0 d ca 0 cc ra 0 rc)] w λe w'=>Mu e:=by have j:=A λW=>(rt.kD d af H).right W (bC 3 bX 0 0 d ca 0 cc ra 0 rc) (aR.jb aD 1 W _ _ _ _ _ _ _ _ _);have i:=A λW=>aKD d W af H;have b:=c7 w (.cells (bC 3 bX 0 0 d ca 0 cc ra 0 rc) 44 (0,0));have c:=Rb (bl w w) (aY _) (.cells (bC 3 bX 0 0 d ca 0 cc ra 0 rc) 44 (0,0));have g:=A b;have l:=A c;clear b c;go_enter func132,ntmps132;go_wp2_with (first|(go_at_call 211;(with_reducible refine(j.out _).mono ?_);rintro e n ⟨rfl,a⟩;have f:=(a.block _ aq).trans g;let⟨t,r,s,x,z,y,B⟩:=eU f;have m:=A (l.out.trans (a.mono aq));clear f a)|(go_at_call 215;(with_reducible refine(i.out _).mono ?_);rintro e o ⟨⟨q,rfl,u⟩,k⟩;have ex:=A (b3 m k)));exact apd
def ad1{v:bs}(J:rt v)(w:Γ)(F:Ω)(h:aR aD 1 w F v):χ 132 #[.agg F] w λe w'=>Mu e:=by
 cases J with
 |hX s a=>obtain⟨ca,cc,ra,rc,rfl,_⟩:=h;exact aKH s ca cc ra rc w a
 |gR N S a I=>obtain⟨ca,cc,ra,rc,rfl,_⟩:=h;exact aKF N S ca cc ra rc w a I
 |kD d af H=>obtain⟨ca,cc,ra,rc,rfl,_⟩:=h;exact aKE d ca cc ra rc w af H
def av_(e:Ending):Prop:=∃s:Ψ,e=.returned (.agg (bC 1 s 0 0 0 none 0 0 none 0 0))/\kC s
def aL2(w:Γ)(b:Nat)(a:Θ)(len:Nat)(d:len<=maxLen)(h:er w b a len):Calls prog 131 #[.pointer (some ⟨b,0,none⟩),.int .i64 1] w λe w'=>av_ e/\er w' b a len/\fk b w w':=by have k:Hid (∀w,er w b a len->Calls prog 208 #[.pointer (some ⟨b,0,none⟩)] w λe w'=>Xz e/\nR w w' b a len):=A λw i=>aKG w b a len d i;have q:=A h;have g:=A (sX.d_ h ae_ 44);have j:Hid (w.heap.size≠b):=(by have:=h.lt;show w.heap.size≠b;omega);clear h d;go_enter func131,ntmps131;go_wp2_with (first|(go_at_call 208;(with_reducible refine(k.out _ g.out.n).mono ?_);rintro e w3 ⟨⟨n,rfl,f⟩,_,u,y⟩;have p:=A f;clear f;have c:=A (g.out.Ao u y j);let⟨o,l,m,r,t,s,x⟩:=eU c.out.r;let⟨D,C,B,z,F,E,G⟩:=hp c.out.r));refine gd (by simp[results,V7,go_sem,o,l,m,r,t,s,x];rfl) rfl ?_;exact⟨⟨n,rfl,p⟩,q.out.B0 c.out.n _ _ _ _ _ _ _,c.out.s.B0 _ _ _ _ _ _ _⟩
def avM(k:Int)(e:Ending):Prop:=∃(s:Ψ) (N S n:Int),e=.returned (.agg (bC k s N S n none 0 0 none 0 0))/\rt (.mk k s N S n [] [])
def aL0(w:Γ)(b:Nat)(a:Θ)(len:Nat)(f:len<=maxLen)(h:er w b a len)(k:Int)(g:k=1∨k=2∨k=3):Calls prog 131 #[.pointer (some ⟨b,0,none⟩),k] w λe w'=>avM k e/\nR w w' b a len:=by rcases g with rfl|rfl|rfl;refine(aL2 w b a len f h).mono ?_;rintro e w' ⟨⟨s,rfl,i⟩,c,d⟩;exact⟨⟨s,0,0,0,rfl,.hX s i⟩,h,c,d⟩;refine(aL1 w b a len f h).mono ?_;rintro e w' ⟨⟨N,S,rfl,l,j⟩,c,d⟩;exact⟨⟨bX,N,S,0,rfl,.gR N S l j⟩,h,c,d⟩;refine(aLZ w b a len f h).mono ?_;rintro e w' ⟨⟨N,rfl,af,H⟩,c,d⟩;exact⟨⟨bX,0,0,N,rfl,.kD N af H⟩,h,c,d⟩
end Go.bE
namespace Go.Proofs
open Go.Shelf
end Go.Proofs
namespace Go.bk
open Go Go.Proofs Go.RowKit Go.di
def tY(w:Γ)(B b m n:Nat):Prop:=B<=w.heap.size/\∃l:List UInt8,Lib.IsBuilderF 133 5 B b (Lib.byteCells l) w/\m<=l.length/\l.length<=n
variable{w:Γ}{B b m n n':Nat}
def tY.yL{a:Nat}(h:tY w B b m n)(d:a<=m)(e:n<=n'):tY w B b a n':=by let⟨af,l,H,I,c⟩:=h;exact⟨af,l,H,z,z⟩
variable{w':Γ}{e:TypeId}{v:Φ}{aH:List Φ}
def Ab{base:Nat}{size:Nat}(h:w.ownsRow base e size v n aH)(G:β w w'):w'.ownsRow base e size v n aH:=by exact aca
def aGM{base:Nat}{size:Nat}(h:w.ownsRowF base e size v n aH)(G:β w w'):w'.ownsRowF base e size v n aH:=by
 let⟨d,a⟩:=h;refine⟨d,?_⟩;rcases a with a|⟨g,cap,i,bd,ak,c,b,f⟩
 exact .inl a;exact .inr ⟨g,cap,i,bd,ak,c,by rw[G.block g (hl.1 b).1];exact b,f⟩
def aiu{T:TypeId}{p:Φ}{b8:List Φ}(h:Lib.BuilderAtF T e B b p b8 w)(G:β w w'):Lib.BuilderAtF T e B b p b8 w':=by let⟨H,v,I,c,a⟩:=h;exact⟨H,v,by rw[G.block b (de I)];exact I,aGM c G,a⟩
def tY.K(h:tY w B b m n)(G:β w w'):tY w' B b m n:=by let⟨af,l,H,I⟩:=h;exact⟨c6 af G.size,l,H.elim (λx=>.inl (aiu x G)) (λx=>.inr (aiu x G)),I⟩
def tY.lt(h:tY w B b m n):b<w.heap.size:=by let⟨_,l,H,_⟩:=h;rcases H with H|H<;>exact H.lt
def tY.base(h:tY w B b m n):B<=b:=by let⟨_,l,H,_⟩:=h;rcases H with H|H<;>exact H.1
def tY.d_(w:Γ):tY (w.alloc (.cells #[.pointer none,.slice none 0 0] 133)) w w 0 0:=by refine⟨aq,[],.inl ⟨aY _,.slice none 0 0,c7 _ _,⟨by simp[Lib.byteCells],.inl ⟨rfl,rfl⟩⟩,by simp[Value.ownBlock]⟩,aY _,aY _⟩
def jM.kept{t e:Nat}{c:Option Nat}{v:Ω}(h:w.heap[b]? =some (.cells v t (0,0)))(a:Lib.OthersKept e c w w')(H:some b≠c)(I:t≠e):w'.heap[b]? =some (.cells v t (0,0)):=
 a b _ h H λc bd e=>by cases e;exact I rfl
structure A1 (w:Γ) (aF:Ω) (b m n:Nat) (wr:Γ):Prop where
 g:ie w aF wr
 kj:tY wr b b m n
 lt:w.heap.size<b
variable{wr:Γ}{a:Ω}
def A1.K(h:A1 w a b m n wr)(G:β wr w'):A1 w a b m n w':=⟨h.g.K G,h.kj.K G,h.lt⟩
def A1.yL{c:Nat}(h:A1 w a b m n wr)(d:c<=m)(e:n<=n'):A1 w a b c n' wr:=⟨h.g,h.kj.yL d e,h.lt⟩
variable{o:Obj}{row:Option Nat}
def XS{T t:TypeId}(ar:(w.alloc o).grownBy w' row)(c:∀k,row=some k->∃cs fr,w.heap[k]? =some (.cells cs T fr)){k:Nat}{cs:Ω}{fr:Nat×Nat}(a:w.heap[k]? =some (.cells cs t fr))(aj:t≠T):w'.heap[k]? =some (.cells cs t fr):=by rw[ar.block k (by have:=de a;simp;omega) (λe=>?_),uC _ _ (de a)];exact a;let⟨f,d,b⟩:=c k e.symm;rw[a]at b;cases b;exact aj rfl
def A1.grown{d:Ω}(h:A1 w d b m n wr)(ar:(wr.alloc o).grownBy w' row)(e:∀k,row=some k->∃cs fr,wr.heap[k]? =some (.cells cs 9 fr)/\w.heap.size<=k):A1 w d b m n w':=by
 have c:∀k,row=some k->∃cs fr,wr.heap[k]? =some (.cells cs 9 fr):=λk a=>by let⟨cs,fr,H,_⟩:=e k a;exact⟨cs,fr,H⟩
 have i:β w w':=(h.g.b.alloc h.g.b.size o).grown ar (by have:=h.g.b.size;simp;omega) (λk a=>by let⟨_,_,_,H⟩:=e k a;exact H);refine⟨⟨i,XS ar c h.g.g al⟩,?_,h.lt⟩;let⟨af,l,H,I⟩:=h.kj;have kP:∀p,Lib.BuilderAtF 133 5 b b p (Lib.byteCells l) wr->Lib.BuilderAtF 133 5 b b p (Lib.byteCells l) w':=λp ⟨bZ,v,cz,⟨a3,a4⟩,a5⟩=>by(refine⟨bZ,v,XS ar c cz al,⟨a3,?_⟩,a5⟩;rcases a4 with a4|⟨g,cap,r,bd,ak,f,j,q⟩);exact .inl a4;exact .inr ⟨g,cap,r,bd,ak,f,XS ar c j al,q⟩
 exact⟨c6 (c6 af aq) ar.size,l,H.elim (λx=>.inl (kP _ x)) (λx=>.inr (kP _ x)),I⟩
def uT{base:Nat}{size:Nat}(h:w.ownsRow base e size v n aH)(af:v≠ .slice none 0 0):∃g cap cq,v=.slice (some ⟨g,0,none⟩) n cap/\base<=g/\w.heap[g]? =some (.cells cq e (0,0))/\n<=cap/\cq.size=cap*size/\∀i,i<n*size->cq[i]? =aH[i]? :=by exact anY
structure My (w:Γ) (base:Nat) (v:Φ) (n:Nat) (bW:List Ψ):Prop where
 len:bW.length=n
 l6:∀y∈bW,y.size<=200
 oe:w.ownsRow base 9 1 v n (bW.map Value.string)
def My.block{base:Nat}{d:List Ψ}(h:My w base v n d):∀k,v.ownBlock=some k->∃cs fr,w.heap[k]? =some (.cells cs 9 fr)/\base<=k:=by
 intro k a;rcases h.oe.2 with⟨c,_⟩|⟨g,cap,i,ak,b,e,f⟩
 subst c;simp[Value.ownBlock]at a;subst ak;simp[Value.ownBlock]at a;subst a;exact⟨_,_,e,b⟩
def My.K{base:Nat}{a:List Ψ}(h:My w base v n a)(G:β w w'):My w' base v n a:=⟨h.len,h.l6,Ab h.oe G⟩
end Go.bk
namespace Go.bk
open Go.di (bD)
def gD(rs:List bD):List Nat->List Int->Option Nat
 |[],_=>some 0
 |_::_,[]=>none
 |s::ss,x::p=>
  if x= -1 then(gD rs ss p).map (· +1)
  else if 0<=x then
   match rs[x.toNat]? with
   |some r=>if r.h=s then(gD rs (r.args++ss) p).map (· +1)else none
   |none=>none
  else none
def Dx(rs:List bD)(p:List Int):gD rs [] p=some 0:=by cases p<;>rfl
def Jd(rs:List bD)(s:Nat)(ss:List Nat):gD rs (s::ss) []=none:=rfl
def Nx(rs:List bD)(s:Nat)(ss:List Nat)(p:List Int):gD rs (s::ss) (-1::p)=(gD rs ss p).map (· +1):=by rw[gD,ci rfl]
def FS(rs:List bD)(s:Nat)(ss:List Nat)(p:List Int)(k:Nat)(a:k<rs)(b:rs[k].h=s):gD rs (s::ss) ((k:Int)::p)=(gD rs (rs[k].args++ss) p).map (· +1):=by
 have H:rs[(k:Int).toNat]? =some rs[k]:=by simp[a]
 rw[gD,bo z,ci z,H];simp[b]
def Y1(rs:List bD)(s:Nat)(ss:List Nat)(x:Int)(p:List Int)(H:x≠ -1)(I:∀k:Nat,x=k->∀a:k<rs,rs[k].h≠s):gD rs (s::ss) (x::p)=none:=by
 rw[gD,bo H];by_cases af:0<=x
 .rw[ci af];cases b:rs[x.toNat]? with
  |none=>rfl
  |some r=>obtain⟨a,rfl⟩:=kL.1 b;simp only;rw[bo (I x.toNat z a)]
 rw[bo af]
def FT{rs:List bD}{s:Nat}{ss:List Nat}{p:List Int}{n:Nat}(h:gD rs (s::ss) p=some n):∃x q,p=x::q/\((x= -1/\∃m,n=m+1/\gD rs ss q=some m)∨ ∃(k:Nat) (a:k<rs),x=k/\rs[k].h=s/\∃m,n=m+1/\gD rs (rs[k].args++ss) q=some m):=by
 cases p with
 |nil=>rw[Jd]at h;cases h
 |cons x q=>
  refine⟨x,q,rfl,?_⟩;by_cases H:x= -1;subst H;rw[Nx]at h;obtain⟨m,b,rfl⟩:=iW.1 h;exact .inl ⟨rfl,m,rfl,b⟩;by_cases I:∃(k:Nat) (a:k<rs),x=k/\rs[k].h=s;obtain⟨k,a,rfl,c⟩:=I;rw[FS rs s ss q k a c]at h;obtain⟨m,b,rfl⟩:=iW.1 h;exact .inr ⟨k,a,rfl,c,m,rfl,b⟩;rw[Y1 rs s ss x q H λk d a e=>I ⟨k,a,d,e⟩]at h;cases h
def Nv(rs:List bD):∀(p:List Int) (a b:List Nat),gD rs (a++b) p=(gD rs a p).bind λn=>(gD rs b (p.drop n)).map (n+ ·)
 |p,[],b=>by rw[Dx];simp
 |[],s::ss,b=>by simp[Jd]
 |x::p,s::ss,b=>by
  rw[Wd];by_cases H:x= -1
  .subst H;rw[Nx,Nx,Nv rs p ss b];cases gD rs ss p with
   |none=>rfl
   |some n=>
    simp only[CQ,ov,We]
    cases gD rs b (p.drop n)with
    |none=>rfl
    |some m=>simp;omega
  .by_cases I:∃(k:Nat) (c:k<rs),x=k/\rs[k].h=s
   .obtain⟨k,c,rfl,d⟩:=I;rw[FS rs s _ p k c d,FS rs s _ p k c d,<-HZ,Nv rs p (rs[k].args++ss) b];cases gD rs (rs[k].args++ss) p with
    |none=>rfl
    |some n=>
     simp only[CQ,ov,We]
     cases gD rs b (p.drop n)with
     |none=>rfl
     |some m=>simp;omega
   .have G:∀k:Nat,x=k->∀c:k<rs,rs[k].h≠s:=λk f c e=>I ⟨k,c,f,e⟩;rw[Y1 rs s _ x p H G,Y1 rs s _ x p H G];rfl
def Ny(rs:List bD):∀(p:List Int) (a:List Nat) (n:Nat),gD rs a p=some n->n<=p.length
 |p,[],n,h=>by rw[Dx]at h;cases h;exact dh _
 |[],s::ss,n,h=>by rw[Jd]at h;cases h
 |x::p,s::ss,n,h=>by let⟨f,q,e,c⟩:=FT h;cases e;(rcases c with⟨_,m,rfl,b⟩|⟨k,d,_,_,m,rfl,b⟩);{have:=Ny rs p _ m b;simp;omega};{have:=Ny rs p _ m b;simp;omega}
def Nw(rs:List bD):∀(p:List Int) (a:List Nat) (n:Nat) (q:List Int),gD rs a p=some n->gD rs a (p++q)=some n
 |p,[],n,q,h=>by rw[Dx]at h|-;exact h
 |[],s::ss,n,q,h=>by rw[Jd]at h;cases h
 |x::p,s::ss,n,q,h=>by let⟨g,i,e,f⟩:=FT h;cases e;rw[Wd];(rcases f with⟨rfl,m,rfl,b⟩|⟨k,c,rfl,d,m,rfl,b⟩);{rw[Nx,Nw rs p _ m q b];rfl};{rw[FS rs s ss _ k c d,Nw rs p _ m q b];rfl}
def Y2(rs:List bD):∀(p:List Int) (a:List Nat) (n:Nat),gD rs a p=some n->gD rs a (p.take n)=some n
 |p,[],n,h=>by rw[Dx]at h|-;exact h
 |[],s::ss,n,h=>by rw[Jd]at h;cases h
 |x::p,s::ss,n,h=>by let⟨g,i,e,f⟩:=FT h;cases e;(rcases f with⟨rfl,m,rfl,b⟩|⟨k,c,rfl,d,m,rfl,b⟩);{rw[atB,Nx,Y2 rs p _ m b];rfl};{rw[atB,FS rs s ss _ k c d,Y2 rs p _ m b];rfl}
variable{s n:Nat}{p:List Int}
def Je{rs:List bD}{ss:List Nat}(h:gD rs (s::ss) p=some n):0<n:=by let⟨_,_,_,a⟩:=FT h;rcases a with⟨_,m,rfl,_⟩|⟨_,_,_,_,m,rfl,_⟩<;>omega
def vw(rs:List bD)(M:Nat->Nat)(p:List Int):Prop:=∀k,k<p.length->∃(x:Nat) (a:x<rs.length),p[k]? =some (x:Int)/\∃m,gD rs [rs[x].h] (p.drop k)=some m/\m<=M rs[x].h
def vw.nil(rs:List bD)(M:Nat->Nat):vw rs M []:=λk a=>by simp at a
variable{M:Nat->Nat}
def vw.A_{rs:List bD}{q:List Int}(ag:vw rs M p)(d:vw rs M q):vw rs M (p++q):=λk c=>by
 by_cases h:k<p
 .obtain⟨x,a,H,m,I,b⟩:=ag k h
  refine⟨x,a,by rw[CM h];exact H,m,?_,b⟩
  rw[List.drop_append_of_le_length z]
  exact Nw rs _ _ _ _ I
 .obtain⟨x,a,H,m,I,b⟩:=d (k-p.length) (by simp at c;omega)
  refine⟨x,a,by rw[EP z];exact H,m,?_,b⟩
  rw[List.drop_append,K' (z:p.length<=k),vf]
  exact I
def vw.cons{rs:List bD}{M:Nat->Nat}{k:Nat}{q:List Int}{n:Nat}(a:k<rs)(b:vw rs M q)(aP:gD rs rs[k].args q=some n)(f:n+1<=M rs[k].h):vw rs M ((k:Int)::q):=λj d=>by
 cases j with
 |zero=>exact⟨k,a,rfl,n+1,by rw[La,FS rs _ _ q k a rfl,rf,aP];rfl,f⟩
 |succ j=>
  let⟨x,c,H,m,I,e⟩:=b j (by simp at d;omega)
  exact⟨x,c,by simpa using H,m,by simpa using I,e⟩
structure p6 (rs:List bD) (M:Nat->Nat) (s n:Nat) (p:List Int):Prop where
 len:p.length=n
 gD:gD rs [s] p=some n
 sub:vw rs M p
 le:n<=M s
def p6.pos{rs:List bD}(h:p6 rs M s n p):0<n:=Je h.gD
def p6.BX{rs:List bD}(h:p6 rs M s n p):∀x∈p,0<=x/\x<rs.length:=λx b=>by
 let⟨k,a⟩:=ES.1 b
 let⟨au,_⟩:=kL.1 a
 let⟨y,c,H,_⟩:=h.sub k au
 rw[a]at H
 cases H
 omega
def p6.head{rs:List bD}(h:p6 rs M s n p):∃(k:Nat) (a:k<rs) (q:List Int),p=(k:Int)::q/\rs[k].h=s:=by
 obtain⟨x,q,rfl,c⟩:=FT h.gD;rcases c with⟨rfl,_⟩|⟨k,a,rfl,b,_⟩
 have:=(h.BX (-1) (ri ..)).1;omega;exact⟨k,a,q,rfl,b⟩
end Go.bk
namespace Go.bk
open Go Go.Proofs Go.RowKit Go.Shelf Go.di
attribute [local go_sem] Oper.semAt_some
def Dc(p q:Nat)(X Y:Γ):Prop:=(∀o,X.heap[p]? =some o->Y.heap[p]? =some o)/\(∀o,X.heap[q]? =some o->Y.heap[q]? =some o)
def Dc.refl(p q:Nat)(X:Γ):Dc p q X X:=⟨λ_ h=>h,λ_ h=>h⟩
variable{p q:Nat}
def Dc.trans{X Y Z:Γ}(h:Dc p q X Y)(k:Dc p q Y Z):Dc p q X Z:=⟨λo a=>k.1 o (h.1 o a),λo a=>k.2 o (h.2 o a)⟩
def Dc.put{W:Γ}{l:Nat}(b:Obj)(H:p≠l)(I:q≠l):Dc p q W (W.putObj l b):=
 ⟨λo a=>by rw[(ae' W l b).block p (de a) (by simpa using H)];exact a,λo a=>by rw[(ae' W l b).block q (de a) (by simpa using I)];exact a⟩
end Go.bk
namespace Go.bk
open Go Go.Proofs.Tryz Go.Proofs Go.RowKit Go.Shelf Go.di
attribute [local go_sem] Oper.semAt_some
def y_(B:Nat)(w:Γ):List Deferred->Prop
 |[]=>True
 |d::ds=>(∃D,d={target:=.collected D,args:=#[]}/\B<=D/\w.heap[D]? =some (.deferred (some []))/\∀e∈ds,e.target≠ .collected D)/\y_ B w ds
def y_.put{B D:Nat}{w:Γ}:∀{ds:List Deferred},y_ B w ds->(∀e∈ds,e.target≠ .collected D)->∀o,y_ B (w.putObj D o) ds
 |[],_,_,_=>gL
 |d::ds,⟨⟨D',ak,c,b,g⟩,h⟩,a,o=>by refine⟨⟨D',ak,c,?_,g⟩,h.put (λe aP=>a e (jw _ aP)) o⟩;have f:D'≠D:=λe=>a d (ri ..) (by rw[ak,e]);rw[(ae' w D o).block D' (de b) (by simpa using f)];exact b
def lT(w:Γ)(aO:Θ)(p:List Int):Prop:=0<p.length->∃b o,aO=some ⟨b,o,none⟩/\b<w.heap.size/\∀i (hi:i<p.length),w ⟨b,o+i,none⟩=some (.int .i64 p[i])
variable{w:Γ}
def lT.K{w':Γ}{aO:Θ}{p:List Int}(h:lT w aO p)(G:β w w'):lT w' aO p:=λaf=>by
 let⟨b,o,e,a,c⟩:=h af
 exact⟨b,o,e,cT G a,λi hi=>by rw[G.cell a];exact c i hi⟩
def avv(C:Nat)(ds:List Deferred):Prop:=∀d∈ds,∀D,d.target=.collected D->D<C
def y_.lt{B:Nat}{w:Γ}:∀{ds:List Deferred},y_ B w ds->avv w ds
 |[],_=>λd hd=>by cases hd
 |d::ds,⟨⟨D,ak,c,b,f⟩,h⟩=>λe aP D' a=>by(rcases gJ.1 aP with rfl|aP);{rw[ak]at a;cases a;exact de b};{exact h.lt e aP D' a}
def y_.kept{B:Nat}{W W':Γ}{row:Option Nat}(ar:W.grownBy W' row):∀{ds:List Deferred},y_ B W ds->(∀k,row=some k->(∃cs t fr,W.heap[k]? =some (.cells cs t fr))∨ ∀d∈ds,d.target≠ .collected k)->y_ B W' ds
 |[],_,_=>gL
 |d::ds,⟨⟨D,ak,g,a,j⟩,h⟩,c=>by refine⟨⟨D,ak,g,?_,j⟩,h.kept ar λk f=>(c k f).elim .inl λai=>.inr λe aP=>ai e (jw _ aP)⟩;rw[ar.block D (de a) (λe=>?_)];{exact a};{(rcases c D e.symm with⟨cs,l,fr,b⟩|i);{rw[a]at b;cases b};{exact i d (ri ..) (by rw[ak])}}
def aLY(b:List Nat):List Φ:=b.map λa=>.int .i64 ((a:Nat):Int)
structure CV (w:Γ) (aF:Ω) (ds:List Deferred) (v:Φ) (gv:List Nat) (W:Γ):Prop where
 g:ie w aF W
 m:y_ w.heap.size W ds
 b:Boxed W (w.heap.size+1+1) 22 v
 r:W.ownsRow w.heap.size 3 1 v gv.length (aLY gv)
variable{W:Γ}{v:Φ}
def CV.kept{W':Γ}{f:Ω}{ds:List Deferred}{j:List Nat}{row:Option Nat}(h:CV w f ds v j W)(ar:W.grownBy W' row)(b:∀k,row=some k->w.heap.size<=k/\(∃o,W.heap[k]? =some o/\o.isCells=false)/\∀d∈ds,d.target≠ .collected k):CV w f ds v j W':=by
 have c:∀k cs t fr,W.heap[k]? =some (.cells cs t fr)->some k≠row:=λk cs t fr a e=>by let⟨_,⟨o,i,l⟩,_⟩:=b k e.symm;rw[a]at i;cases i;cases l
 refine⟨⟨h.g.b.grown ar h.g.b.size (λk a=>(b k a).1),?_⟩,h.m.kept ar λk a=>.inr (b k a).2.2,h.b.kept ar (c _ _ _ _ h.b),h.r.kept ar ?_⟩;unfold jM;rw[ar.block _ (de h.g.g) (c _ _ _ _ h.g.g)];exact h.g.g
 .rcases h.r.2 with⟨e,_⟩|⟨g,cap,p,e,_,n,_⟩
  exact .inl (by rw[e];rfl);refine .inr (λm=>c _ _ _ _ n ?_);rw[<-m,e];rfl
def CV.alloc{a:Ω}{ds:List Deferred}{b:List Nat}(h:CV w a ds v b W)(o:Obj):CV w a ds v b (W.alloc o):=h.kept (World.grownBy_alloc W o none) aq
def yH{base:Nat}{e:TypeId}{size:Nat}{n:Nat}{aH:List Φ}(h:w.ownsRow base e size v n aH){q:Nat}(a:q<base):some q≠v.ownBlock:=by
 rcases h.2 with⟨ak,_⟩|⟨g,cap,c,ak,b,_⟩
 subst ak;simp[Value.ownBlock];subst ak;simp[Value.ownBlock];omega
def Eb:(prog.info? 3).map (λi=>(i.zero,i.size,i.bytes))=some (some (.int .i64 0),1,8):=aw
def CV.slice{b:Ω}{ds:List Deferred}{a:List Nat}(h:CV w b ds v a W):∃va c,v=.slice va a c:=by
 rcases h.r.2 with⟨e,af⟩|⟨g,cap,d,e,_⟩
 exact⟨_,_,by rw[e,af]⟩;exact⟨_,_,e⟩
end Go.bk
namespace Go.bk
open Go Go.Proofs Go.RowKit Go.di
structure p1 (S:c8) (M:Nat->Nat) (rs:List bD) (ca be:Θ) (cc aW rb aK rc:Nat) (w:Γ):Prop where
 ok:rx S
 UQ:Fm S
 yz:∀i,1<=M i/\M i<=5
 sub:rs.Sublist S.dp
 c:jy w ca S.bB
 y:s4 w be S.aJ M
 r:wH w (some ⟨rb,aK,none⟩) rs
 bN:S.bB.length<=cc
 dx:S.aJ.length<=aW
 gc:rs.length<=rc
abbrev en(S:c8)(rs:List bD)(ca be:Θ)(cc aW rb aK rc:Nat):Ω:=#[.string S.nm,.int .i64 S.dk,.slice ca S.bB.length cc,.slice be S.aJ.length aW,.slice (some ⟨rb,aK,none⟩) rs.length rc,.int .i64 S.an]
section
variable {S:c8} {M:Nat->Nat} {rs:List bD} {ca be:Θ} {cc aW rb aK rc:Nat} {w:Γ}
def p1.K{w':Γ}(h:p1 S M rs ca be cc aW rb aK rc w)(G:β w w'):p1 S M rs ca be cc aW rb aK rc w':=
 ⟨h.ok,h.UQ,h.yz,h.sub,h.c.K G,h.y.K G,h.r.K G,h.bN,h.dx,h.gc⟩
def p1.rX(h:p1 S M rs ca be cc aW rb aK rc w):rs.length<=40:=c6 h.sub.length_le h.ok.dp
def p1.iZ(h:p1 S M rs ca be cc aW rb aK rc w):∀r∈rs,r.args.length<=3:=λr a=>(h.UQ.dp r (h.sub.subset a)).iZ
end
variable{w:Γ}
def ie.Jb{wr:Γ}{a:Ω}(h:ie w a wr):ie w a wr.drew:=h.K ((bl _ _).drew)
variable{P:Program}{ops:Array Oper}{oi:Oper}{v:Φ}{a:Act}
def asD{c':Exit->Act->Γ->Prop}{e:Region.Mode}{S:Γ->Prop}{i:Nat}{d:Option Tmp}{f:Nat}{b:Array Bool}(hi:ops[i]? =some oi)(hd:oi.dst=d) (g:Region.noSelect ops=true)(m:Region.free e ops b i=true)(k:(Region.ready e ops b).contains i=true) (n:∀c a w,c' (.panic c) (a.put d v) w->c' (.panic c) a w)(j:YieldsIf P ops S oi v a)(l:S w) (h:wpAnyH P e ops c' S f (b.setIfInBounds i true) (a.put d v) w):wpAnyH P e ops c' S (f+1) b a w:=by subst hd;exact qr hi g m k n j l h
variable{o1:Nat}{na:Array Bool}{a':Act}
def cn{c':Exit->Act->Γ->Prop}{q4:Region.Mode}{S:Γ->Prop}(i d:Nat){v:Φ}{l5:Array Bool}{a:Act}(h:wpAnyH P q4 ops c' S o1 na a' w)(hi:ops[i]? =some oi:=by rfl)(hd:oi.dst=some d:=by rfl) (V:Region.noSelect ops=true:=by kernel_rfl)(ch:Region.free q4 ops l5 i=true:=by kernel_rfl)(ae:(Region.ready q4 ops l5).contains i=true:=by kernel_rfl) (dY:Region.wanted oi (yielded ops a.tmps)=true:=by rfl) (aC:∀w,S w->(execOp a.eval oi).run P w=.ok (.value v) w:=by intro w Z9;(try dsimp only at Z9);(go_simp<;>with_reducible rfl))(bt:S w:=by assumption) (kp:∀c a w,c' (.panic c) (a.put (some d) v) w->c' (.panic c) a w:=by exact λ_ _ _ h=>h) (L:l5.setIfInBounds i true=na:=by(try simp only[List.setIfInBounds_toArray,List.set_cons_zero,List.set_cons_succ]);rfl)(aL:a.put (some d) v=a':=by(try simp only[Act.put,List.setIfInBounds_toArray,List.set_cons_zero,List.set_cons_succ]);rfl):wpAnyH P q4 ops c' S (o1+1) l5 a w:=by subst L aL;exact asD hi hd V ch ae kp (.inl ⟨dY,aC⟩) bt h
def mR{c':Exit->Act->Γ->Prop}{q4:Region.Mode}{S:Γ->Prop}(i d:Nat){l5:Array Bool}{a:Act}(h:wpAnyH P q4 ops c' S o1 na a' w)(hi:ops[i]? =some oi:=by rfl)(hd:oi.dst=some d:=by rfl) (V:Region.noSelect ops=true:=by kernel_rfl)(ch:Region.free q4 ops l5 i=true:=by kernel_rfl)(ae:(Region.ready q4 ops l5).contains i=true:=by kernel_rfl) (dY:Region.wanted oi (yielded ops a.tmps)=false:=by rfl)(bt:S w:=by assumption) (kp:∀c a w,c' (.panic c) (a.put (some d) undef) w->c' (.panic c) a w:=by exact λ_ _ _ h=>h) (L:l5.setIfInBounds i true=na:=by(try simp only[List.setIfInBounds_toArray,List.set_cons_zero,List.set_cons_succ]);rfl)(aL:a.put (some d) undef=a':=by(try simp only[Act.put,List.setIfInBounds_toArray,List.set_cons_zero,List.set_cons_succ]);rfl):wpAnyH P q4 ops c' S (o1+1) l5 a w:=by subst L aL;exact asD hi hd V ch ae kp (.inr ⟨dY,rfl⟩) bt h
end Go.bk
namespace Go.bk
open Go Go.Proofs.Tryz Go.Proofs Go.RowKit Go.di
structure IL (w:Γ) (aF:Ω) (uX:Φ) (Dq ey b Dr m n:Nat) (W:Γ):Prop where
 o:Below w.heap.size w W
 g:jM W Dq 29 aF
 p:jM W ey 22 #[uX]
 f:jM W Dr 57 #[.func (.func 162) #[] #[.pointer (some ⟨ey,0,none⟩),.pointer (some ⟨b,0,none⟩),.pointer (some ⟨Dq,0,none⟩),.pointer (some ⟨Dr,0,none⟩)]]
 kj:tY W b b m n
 b7:w.heap.size<=b
 cw:Dq<b
 iS:ey<b
 J9:Dr≠b
section
variable {w W W':Γ} {aF:Ω} {uX:Φ} {Dq ey b Dr m n we n':Nat}
def IL.K(h:IL w aF uX Dq ey b Dr m n W)(G:β W W'):IL w aF uX Dq ey b Dr m n W':=
 ⟨b3 h.o G,h.g.K G,h.p.K G,h.f.K G,h.kj.K G,h.b7,h.cw,h.iS,h.J9⟩
def IL.yL(h:IL w aF uX Dq ey b Dr m n W)(a:we<=m)(c:n<=n'):IL w aF uX Dq ey b Dr we n' W:=⟨h.o,h.g,h.p,h.f,h.kj.yL a c,h.b7,h.cw,h.iS,h.J9⟩
end
def ayX{rs:List bD}{s:Nat}{ss:List Nat}{p:List Int}{d:Nat}(h:gD rs (s::ss) p=some d):∃bN c,gD rs [s] p=some bN/\gD rs ss (p.drop bN)=some c/\d=bN+c:=by
 have a:gD rs ([s]++ss) p=some d:=h;rw[Nv]at a;cases H:gD rs [s] p with
 |none=>rw[H]at a;cases a
 |some bN=>rw[H]at a;obtain⟨c,hd,rfl⟩:=iW.1 a;exact⟨bN,c,rfl,hd,rfl⟩
attribute [local irreducible] wpStill in
def ad0(bi c1 c2 c3 c5:Φ)(rs:List bD)(rb aK rc:Nat)(aO:Θ)(bK:Nat)(p:List Int)(w:Γ)(M:wH w (some ⟨rb,aK,none⟩) rs)(ag:lT w aO p)(o4:∀r∈rs,r.args.length<=3)(vV:rs.length<=40)(Gw:p.length<=100):∀(N a s k:Nat) (W:Γ),p.length-a<=N->gD rs [s] (p.drop a)=some k->β w W-> χ 204 #[.agg #[bi,c1,c2,c3,.slice (some ⟨rb,aK,none⟩) rs rc,c5],.slice aO p bK,a,s] W λe W'=>e=.returned (.tuple #[.int .i64 ((a+k:Nat):Int),.bool true]):=by
 intro N;induction N with
 |zero=>intro a s k W dX c;rw[K' z,Jd]at c;cases c
 |succ N Y=>
  intro a s k W dX c ao;let⟨x,q,m,an⟩:=FT c;clear c;have aL:a<p.length:=by
   rcases xN a p with h|h;exact h;rw[K' h]at m;cases m
  have oJ:=H0 aL;rw[oJ]at m;injection m with m aE
  subst aE;obtain⟨pb,po,rfl,lf,oI⟩:=ag z;have S:=A (oI a aL);rw[m]at S;have gQ:(0:Int)<=(a:Int):=z;have gb:(a:Int)<p.length:=z;have jg:(a:Int)<=100:=z;have nF:decide ((p.length:Int)<=(a:Int))=false:=bw;have f:=ie.d_ W #[bi,c1,c2,c3,.slice (some ⟨rb,aK,none⟩) rs rc,c5];have C:=b3 ao f.b;have kk:=(C.cell lf).trans S;have Z:=de f.g;clear oJ oI m;rcases an with⟨rfl,iG,rfl,vS⟩|⟨r,ae,rfl,al,Q,rfl,c⟩
  .rw[Dx]at vS;cases vS;clear ag M Y dX S;go_enter func204,ntmps204
   go_wp2;go_ret2
   exact⟨aq,f.b⟩
  .rw[rf]at c;have F_:=M;let⟨uZ,Kz,cg,iR,kU⟩:=M;cases cg;let⟨y,ac,g⟩:=kU r ae;have av:=g;have g:=g.K iR C;have jZ:=A g.args;have fi:=g.bi;have b_:=g.c1;have cv:=g.c2;have ek:=g.c3;rw[al]at fi;have Ts:=o4 _ (fp ae);have u:=A c;have kV:(0:Int)<=(r:Int):=z;have nE:(r:Int)<rs.length:=z;have ak:((r:Int)== -1)=false:=by simp<;>omega
   have aI:decide ((r:Int)<0)=false:=aq;have bv:decide ((rs.length:Int)<=(r:Int))=false:=bw;have af:=A Y;have E:=aN 4 f.g;clear kU g ag c Y;go_enter func204,ntmps204
   go_wp2;have P:=f.K ((bl _ _).drew);have o:Below (W.alloc (Obj.cells #[bi,c1,c2,c3,.slice (some ⟨rb,aK,none⟩) rs rc,c5] 29)).heap.size (W.alloc (Obj.cells #[bi,c1,c2,c3,.slice (some ⟨rb,aK,none⟩) rs rc,c5] 29)) (W.alloc (Obj.cells #[bi,c1,c2,c3,.slice (some ⟨rb,aK,none⟩) rs rc,c5] 29)).drew:=(bl _ _).drew;have g3:pb<(W.alloc (Obj.cells #[bi,c1,c2,c3,.slice (some ⟨rb,aK,none⟩) rs rc,c5] 29)).heap.size:=cT C lf;have b7:rb<(W.alloc (Obj.cells #[bi,c1,c2,c3,.slice (some ⟨rb,aK,none⟩) rs rc,c5] 29)).heap.size:=cT C iR;have I6:(W.alloc (Obj.cells #[bi,c1,c2,c3,.slice (some ⟨rb,aK,none⟩) rs rc,c5] 29)).drew.cell? ⟨pb,po+a,none⟩=_:=(o.cell g3).trans kk;have PQ:(W.alloc (Obj.cells #[bi,c1,c2,c3,.slice (some ⟨rb,aK,none⟩) rs rc,c5] 29)).drew.cell? ⟨rb,aK+r*4,none⟩=_:=(o.cell b7).trans fi;have PR:(W.alloc (Obj.cells #[bi,c1,c2,c3,.slice (some ⟨rb,aK,none⟩) rs rc,c5] 29)).drew.cell? ⟨rb,aK+r*4+1,none⟩=_:=(o.cell b7).trans b_;have ah:(W.alloc (Obj.cells #[bi,c1,c2,c3,.slice (some ⟨rb,aK,none⟩) rs rc,c5] 29)).drew.cell? ⟨rb,aK+r*4+2,none⟩=_:=(o.cell b7).trans cv;have ai:(W.alloc (Obj.cells #[bi,c1,c2,c3,.slice (some ⟨rb,aK,none⟩) rs rc,c5] 29)).drew.cell? ⟨rb,aK+r*4+3,none⟩=_:=(o.cell b7).trans ek;have az:=A (jZ.out.K o);have ax:W.heap.size<(W.alloc (Obj.cells #[bi,c1,c2,c3,.slice (some ⟨rb,aK,none⟩) rs rc,c5] 29)).drew.heap.size:=Z;refine wt aw aw ?_;change wpStill _ _ (W.alloc (Obj.cells #[bi,c1,c2,c3,.slice (some ⟨rb,aK,none⟩) rs rc,c5] 29)).drew (λa'=>Exit.then _ _ Exit.normal a' (W.alloc (Obj.cells #[bi,c1,c2,c3,.slice (some ⟨rb,aK,none⟩) rs rc,c5] 29)).drew) _ _;clear f kk fi b_ cv ek jZ E Z o g3 b7;generalize (W.alloc (Obj.cells #[bi,c1,c2,c3,.slice (some ⟨rb,aK,none⟩) rs rc,c5] 29)).drew=n at*;have E:=aN 4 P.g;repeat still_step
   refine tU ?_
   go_wp2
   go_region_held3 (λX=>X ⟨W,4,none⟩=some (.slice (some ⟨rb,aK,none⟩) rs rc)/\X ⟨pb,po+a,none⟩=r/\X ⟨rb,aK+r*4,none⟩=s/\X ⟨rb,aK+r*4+1,none⟩=some (.string rs[r].op)/\X ⟨rb,aK+r*4+2,none⟩=some (.string rs[r].aO)/\X ⟨rb,aK+r*4+3,none⟩=some (.slice y rs[r].args.length ac)) (first|exact⟨E,I6,PQ,PR,ah,ai⟩|go_keep) (fail);have H:ie W #[bi,c1,c2,c3,.slice (some ⟨rb,aK,none⟩) rs rc,c5] (n.alloc (.cells #[s,.string rs[r].op,.string rs[r].aO,.slice y rs[r].args.length ac] 101)).drew:=P.K ((fu n _).drew);have t':jM (n.alloc (.cells #[s,.string rs[r].op,.string rs[r].aO,.slice y rs[r].args.length ac] 101)).drew n 101 #[s,.string rs[r].op,.string rs[r].aO,.slice y rs[r].args.length ac]:=(jM.d_ n _ _).K ((bl _ _).drew);clear P E I6 PQ PR ah ai ax az;generalize (n.alloc (.cells #[s,.string rs[r].op,.string rs[r].aO,.slice y rs[r].args.length ac] 101)).drew=ap at*;generalize n.heap.size=CC at*;have aA:=A ao;have WL:=A (λX (L:β w X)=>av.args.K L);have ay:=A H;clear g
   go_wp2;go_loopw [2,11,12,13] (λv i _ _ wr=>∃j t d:Nat,j<=rs[r].args.length/\i=.int .i64 j/\v=.int .i64 t/\a+1<=t/\t+d=a+1+Q/\t<=101/\Hid (gD rs (rs[r].args.drop j) (p.drop t)=some d)/\ie W #[bi,c1,c2,c3,.slice (some ⟨rb,aK,none⟩) rs rc,c5] wr/\jM wr CC 101 #[s,.string rs[r].op,.string rs[r].aO,.slice y rs[r].args.length ac]) (λ_ i _ _ _=>rs[r].args.length-(RowKit.intOf i).toNat);case atStart=>exact⟨0,a+1,Q,dh _,rfl,bz,aY _,rfl,z,u,H,t'⟩
   case round=>
    clear H ay t' u;obtain⟨j,t,d,ab,rfl,rfl,fG,aC,hb,u,D,f⟩:=hrel;have du:=aN 3 f;have aB:=de f;by_cases au:j<rs[r].args.length
    .have m':(0:Int)<=(j:Int):=z;have l4:(j:Int)<(rs[r].args.length:Int):=z;have c:=u.out;rw[H0 au]at c;let⟨bN,eM,F,U,hd⟩:=ayX c;rw[List.drop_drop]at U;have ad:=A U;have ar:=Ny rs _ _ _ F;rw[pm]at ar;have hV:0<bN:=Je F;have T:=b3 aA D.b;obtain⟨O,R,rfl,iE,o5⟩:=WL.out wr T z;have ja:=o5 j au;have gM:Hid (∀X,β w X->Calls prog 204 #[.agg #[bi,c1,c2,c3,.slice (some ⟨rb,aK,none⟩) rs rc,c5],.slice (some ⟨pb,po,none⟩) p bK,t,.int .i64 rs[r].args[j]] X λe w'=>∃B:Nat,e=.returned (.tuple #[B,.bool true])/\Hid (B=t+bN)/\β X w'):=by refine A λX L=>?_;refine(af.out t rs[r].args[j] bN X z F L).mono ?_;rintro e w' ⟨aP,G⟩;exact⟨t+bN,aP,A rfl,G⟩
     let⟨eg,dz,dJ,cP,jv,j9⟩:=gp D.g;clear c F U u af o5
     go_wp2
     go_region_held3 (λX=>X ⟨W,0,none⟩=some bi/\X ⟨W,1,none⟩=some c1/\X ⟨W,2,none⟩=some c2/\X ⟨W,3,none⟩=some c3/\X ⟨W,4,none⟩=some (.slice (some ⟨rb,aK,none⟩) rs rc)/\X ⟨W,5,none⟩=some c5/\X ⟨CC,3,none⟩=some (.slice (some ⟨O,R,none⟩) rs[r].args.length ac)/\X ⟨O,R+j,none⟩=some (.int .i64 rs[r].args[j])) (first|exact⟨eg,dz,dJ,cP,jv,j9,du,ja⟩|exact⟨u0,u1,u2,u3,u4,u5,u6,u7⟩|go_keep) (first|(go_at_call 204;refine(gM.out _ (by first|exact T.drew|exact T)).mono ?_;rintro e bh ⟨B,rfl,l,bq⟩;have K:=(lk wr).trans bq;have I:=D.K K;have V:=f.K K;let⟨u0,u1,u2,u3,u4,u5⟩:=gp I.g;have u6:=aN 3 V;have u7:bh ⟨O,R+j,none⟩=some (.int .i64 rs[r].args[j]):=(by rw[K.cell iE];exact ja)))
     go_wp2;go_roundw;case rel=>first|exact⟨j+1,B,eM,z,bz,rfl,by have:=l.out;omega,by have:=l.out;omega,by have:=l.out;omega,by rw[l.out];exact ad,I,V⟩|((repeat apply Exists.intro);refine⟨?_,rfl⟩;exact⟨j+1,B,eM,z,bz,rfl,by have:=l.out;omega,by have:=l.out;omega,by have:=l.out;omega,by rw[l.out];exact ad,I,V⟩)
     case measure=>simp[RowKit.intOf];omega
    .have l4:¬(j:Int)<(rs[r].args.length:Int):=z;have c:=u.out;rw[K' z,Dx]at c;have TA:d<=0:=by cases c;exact aY _
     clear c u
     go_wp2;go_ret2
     exact⟨by
       have aj:t=a+(Q+1):=z
       rw[aj];rfl,D.b⟩
def gS(l:List Int):List Φ:=l.map λx=>.int .i64 x
def HJ(l:List Int):(gS l).length=l.length:=by simp[gS]
def HK(l:List Int):∀u∈gS l,u.oneCell'=true:=λu hu=>by
 obtain⟨x,_,rfl⟩:=AJ.1 hu;rfl
def asN(a b:List Int):gS (a++b)=gS a++gS b:=by simp[gS]
def LH(w:Γ)(base:Nat)(e:TypeId)(size:Nat)(G:base<=w.heap.size):(w.alloc (.cells #[] e)).ownsRow base e size (.slice (some ⟨w,0,none⟩) 0 0) 0 []:=
 ⟨aq,.inr ⟨w.heap.size,0,#[],rfl,G,c7 _ _,aY _,dh _,aq,aq⟩⟩
variable{w:Γ}
def arq{base:Nat}{v:Φ}{n:Nat}{l:List Int}(h:w.ownsRow base 3 1 v n (gS l))(b:l.length=n)(af:v≠ .slice none 0 0):∃g cap,v=.slice (some ⟨g,0,none⟩) l cap/\lT w (some ⟨g,0,none⟩) l/\l.length<=cap/\base<=g:=by let⟨g,cap,f,ak,c,a,d,j,e⟩:=uT h af;subst b;refine⟨g,cap,ak,λ_=>⟨g,0,rfl,de a,λi hi=>?_⟩,d,c⟩;have:=e i z;rw[gS,ou,j_ hi]at this;simp only[gy];exact kQ a this
def U2{w:Γ}{pb po:Nat}{p:List Int}(h:∀i (hi:i<p.length),w ⟨pb,po+i,none⟩=some (.int .i64 p[i]))(k n:Nat):∀(j:Nat) u,(gS ((p.drop k).take n))[j]? =some u->w.cell? (Addr.add ⟨pb,po+k,none⟩ j)=some u:=λj u hu=>by
 rw[gS,ou]at hu
 obtain⟨x,a,rfl⟩:=iW.1 hu
 rw[pk]at a
 split at a
 .rw[Ld]at a
  obtain⟨hi,rfl⟩:=kL.1 a
  have:=h (k+j) hi
  rw[<-k4]at this
  unfold Addr.add
  split
  .rename_i af;subst af;rw[hY]at this;exact this
  .exact this
 .cases a
section
variable {S:c8} {M:Nat->Nat} {rs:List bD} {ca be:Θ} {cc aW rb aK rc:Nat} {w:Γ}
def avV(base:Nat)(rs:List bD)(p:List Int)(e:Ending)(w':Γ):Prop:=∃(k x m:Nat) (b:x<rs.length),p[k]? =some (x:Int)/\gD rs [rs[x].h] (p.drop k)=some m/\∃va a,e=.returned (.slice va (p.take k++ -1::p.drop (k+m)).length a)/\lT w' va (p.take k++ -1::p.drop (k+m))/\∀x,va=some x->base<=x.block
def ap7(h:p1 S M rs ca be cc aW rb aK rc w)(aO:Θ)(a n:Nat)(p:List Int)(ag:lT w aO p)(f:p6 rs M S.an n p)(j1:p.length<=a)(Oh:a<=9223372036854775807)(fV:Int): Calls prog 127 #[.agg (en S rs ca be cc aW rb aK rc),.slice aO p.length a,.int .i64 fV] w λe w'=>avV w.heap.size rs p e w'/\β w w':=by
 have dQ:p.length<=5:=by rw[f.len];exact c6 f.le (h.yz _).2
 have P:0<p.length:=by rw[f.len];exact f.pos
 have lR:=A (λW=>ack fV p.length W P z);have eh:=A (ad0 (.string S.nm) (.int .i64 S.dk) (.slice ca S.bB.length cc) (.slice be S.aJ.length aW) (.int .i64 S.an) rs rb aK rc aO a p w h.r ag h.iZ h.rX (c6 dQ al));have b:=ie.d_ w (en S rs ca be cc aW rb aK rc);have gz:=A f.sub;have G:=A (λW (o:β w W)=>ag.K o);have jN:=A (λW (o:β w W)=>h.r.K o);have z0:((p.length:Int)==0)=false:=by rw[mx];omega
 clear h ag f;go_enter func127,ntmps127;go_upto_region 4 with(go_at_call 203;refine(lR.out _).mono ?_;rintro e am ⟨⟨k,ab,rfl⟩,rfl⟩)
 obtain⟨x,s,T5,m,c,az⟩:=gz.out k ab;have Bz:=Ny rs _ _ _ c;rw[pm]at Bz;obtain⟨pb,po,rfl,lf,oI⟩:=G.out _ b.b P;have E:=oI k ab;rw[(kL.1 T5).2]at E;obtain⟨uZ,Kz,H,iR,kU⟩:=jN.out _ b.b;cases H;obtain⟨aU,ac,ae⟩:=kU x s;have fi:=ae.bi;have m':(0:Int)<=(k:Int):=z;have l4:(k:Int)<p.length:=z;have pa:(0:Int)<=(x:Int):=z;have BP:(x:Int)<rs.length:=z;have Y:=A (λW (o:β w W)=>eh.out p.length k rs[x].h m W (afK _ _) c o);obtain⟨ct,a_,bb,bI,dr,C⟩:=gp b.g;have au:=A c;clear oI kU eh lR c;have aq:=G.out;clear G jN;go_region_held3 (λX=>X ⟨w.heap.size,0,none⟩=some (.string S.nm)/\X ⟨w.heap.size,1,none⟩=some (.int .i64 S.dk)/\X ⟨w.heap.size,2,none⟩=some (.slice ca S.bB.length cc)/\X ⟨w.heap.size,3,none⟩=some (.slice be S.aJ.length aW)/\X ⟨w.heap.size,4,none⟩=some (.slice (some ⟨rb,aK,none⟩) rs.length rc)/\X ⟨w.heap.size,5,none⟩=some (.int .i64 S.an)/\X ⟨pb,po+k,none⟩=some (.int .i64 x)/\X ⟨rb,aK+x*4,none⟩=some (.int .i64 rs[x].h)) (first|exact⟨ct,a_,bb,bI,dr,C,E,fi⟩|exact⟨u0,u1,u2,u3,u4,u5,u6,u7⟩|go_keep) (first|(go_at_call 204;refine(Y.out _ (by first|exact b.b.drew|exact b.b)).mono ?_;rintro e B ⟨rfl,bq⟩;have y:=((bl (w.alloc (.cells (en S rs ca be cc aW rb aK rc) 29)).heap.size (w.alloc (.cells (en S rs ca be cc aW rb aK rc) 29))).drew).trans bq;have O:=b.K y;obtain⟨u0,u1,u2,u3,u4,u5⟩:=gp O.g;have u6:B ⟨pb,po+k,none⟩=some (.int .i64 x):=(by rw[y.cell lf];exact E);have u7:B ⟨rb,aK+x*4,none⟩=some (.int .i64 rs[x].h):=(by rw[y.cell iR];exact fi)));clear ct a_ bb bI dr C u0 u1 u2 u3 u4 u5 u6 u7 fi E Y ae b bq y;have q:=O.b;have c:=au.out;clear O;obtain⟨R,Q,J,L,N⟩:=iz Eb;have es:(0:Int)<=(k:Int)+(m:Int):=z;have bN:(k:Int)+(m:Int)<=(p.length:Int):=z;have dx:(p.length:Int)<=(a:Int):=z;have gc:(k:Int)<=(a:Int):=z;have tk:∀X,β w X->∀i (hi:i<p.length),X ⟨pb,po+i,none⟩=some (.int .i64 p[i]):=λX d=>by obtain⟨cQ,kX,H,_,an⟩:=aq X d P;cases H;exact an
 have gM:=A tk;have LV:Hid (∀X,β w X->∀(j:Nat) u,(gS (p.take k))[j]? =some u->X.cell? (Addr.add ⟨pb,po,none⟩ j)=some u):=A λX d j u hu=>by have:=U2 (gM.out X d) 0 k j u (by rw[La];exact hu);rwa [hY]at this
 have af:Hid (∀X,β w X->∀(j:Nat) u,(gS (p.drop (k+m)))[j]? =some u->X.cell? (Addr.add ⟨pb,po+(k+m),none⟩ j)=some u):=A λX d j u hu=>U2 (gM.out X d) (k+m) (p.length-(k+m)) j u (by rw[vg (by rw[pm];omega)];exact hu);have b7:(gS (p.take k)).length=k*1:=by rw[HJ,mw];omega
 have iS:(gS (p.drop (k+m))).length=(p.length-(k+m))*1:=by rw[HJ,pm];omega
 have vj:=LH B w.heap.size 3 1 q.size;have l:=q.alloc q.size (.cells #[] 3);go_upto_region 6 with(at_builtin;refine lP _ rfl _ _ 22 rfl w.heap.size 3 R _ 1 8 pj Q J L N rfl al (.slice (some ⟨B.heap.size,0,none⟩) 0 0) 0 [] rfl vj ⟨pb,po,none⟩ k a (gS (p.take k)) rfl b7 (LV.out _ l) (HK _) (by unfold maxLen;omega) z l.size ?_;intro v5 bc F U OK;rw[gy,vf]at F)
 have I:=l.grown U l.size (λg ar=>by simp[Value.ownBlock]at ar;subst ar;exact q.size);have T:v5≠ .slice none 0 0:=λe=>by have:=(OK.1 e).1;simp at this
 obtain⟨C,FB,aA,rfl,ap,_⟩:=uT F T;have ai:=F.alloc (.cells #[.int .i64 (-1)] 3);have r:=I.alloc I.size (.cells #[.int .i64 (-1)] 3);have ah:=r5 (cs:=#[.int .i64 (-1)]) (t:=3) (fr:=(0,0)) (pW bc (.cells #[.int .i64 (-1)] 3));clear F U OK T vj l q;go_upto_region 7 with(at_builtin;refine lP _ rfl _ _ 22 rfl w.heap.size 3 R _ 1 8 pj Q J L N rfl al (.slice (some ⟨C,0,none⟩) k FB) k _ rfl ai ⟨bc.heap.size,0,none⟩ 1 1 [.int .i64 (-1)] rfl rfl ah (by simp[Value.oneCell']) (by unfold maxLen;omega) z r.size ?_;intro hh br gA ga aj)
 have D:=r.grown ga r.size (λg ar=>by simp[Value.ownBlock]at ar;subst ar;exact ap);have OX:hh≠ .slice none 0 0:=λe=>by have:=(aj.1 e).1;simp at this
 obtain⟨hG,zl,ay,rfl,Oq,_⟩:=uT gA OX;have tG:((k:Int)+(m:Int)).toNat=k+m:=z;clear ga aj OX ai r ah I;obtain⟨ad,ax,Z⟩:∃ad:Addr,(if a=k+m then some (⟨pb,po,none⟩:Addr)else some ⟨pb,po+(k+m),none⟩)=some ad/\∀X,β w X->∀(j:Nat) u,(gS (p.drop (k+m)))[j]? =some u->X.cell? (Addr.add ad j)=some u:=by by_cases V:a=k+m;{refine⟨_,ci V,λX d j u hu=>?_⟩;rw[K' z]at hu;simp[gS]at hu};{exact⟨_,bo V,af.out⟩}
 have aw:=A Z;clear Z af;go_wp2_with (at_builtin;refine lP _ rfl _ _ 22 rfl w.heap.size 3 R _ 1 8 pj Q J L N rfl al (.slice (some ⟨hG,0,none⟩) (k+1) zl) (k+1) _ rfl gA ad (p.length-(k+m)) (a-(k+m)) (gS (p.drop (k+m))) rfl iS (aw.out _ D) (HK _) (by unfold maxLen;omega) z D.size ?_;intro nM w7 K n4 T2);go_ret;have fJ:=D.grown n4 D.size (λg ar=>by simp[Value.ownBlock]at ar;subst ar;exact Oq);have GD:nM≠ .slice none 0 0:=λe=>by have:=(T2.1 e).1;simp at this
 have ak:(p.take k++ -1::p.drop (k+m)).length=k+1+(p.length-(k+m)):=by rw[ir,l8,mw,pm];omega
 have K:w7.ownsRow w.heap.size 3 1 nM (k+1+(p.length-(k+m))) (gS (p.take k++ -1::p.drop (k+m))):=by(have e:gS (p.take k++ -1::p.drop (k+m))=gS (p.take k)++[.int .i64 (-1)]++gS (p.drop (k+m)):=by simp[gS]);rw[e];exact K
 obtain⟨jR,s6,rfl,cK,_,jd⟩:=arq K ak GD;exact⟨⟨k,x,m,s,T5,c,_,_,rfl,cK,λx s=>by cases s;exact jd⟩,fJ⟩
end
end Go.bk
