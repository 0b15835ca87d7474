/- ItemInForce, one part of the proof. -/
import Derived.Test.YtdhifebhlocikaaGreatDoorP16b
set_option linter.all false
set_option maxRecDepth 100000
set_option maxHeartbeats 16000000
namespace Go.bE
open Go Go.Proofs.Tryz Go.Proofs Go.RowKit Go.Lib Go.aM
def aDo(w:Γ)(a b:Θ)(c d:Nat)(l:List Int)(h:qD aD w a l)(f:qD aD w b l): χ 68 #[.slice a l c,.slice b l d] w λe w'=>oW e:=by
 have r:=A h;have m:=A f;have s:=h.1;clear h f;go_enter func68,ntmps68;go_wp2;go_loopw [5] (λi wr=>∃k:Nat,k<=l.length/\i=.int .i64 k/\β w wr) (λi _=>l.length-(RowKit.intOf i).toNat);case atStart=>exact⟨0,dh _,rfl,bl _ _⟩
 case round=>obtain⟨k,t,rfl,G⟩:=hrel;by_cases au:k<l;{have n:(k:Int)<l.length:=z;have C:(0:Int)<=(k:Int):=z;obtain⟨y,D,rfl,_,o,g⟩:=r.out.2 z;obtain⟨u,B,rfl,_,q,j⟩:=m.out.2 z;have c1:=aA G o (g k au);have c2:=aA G q (j k au);clear g j;generalize l[k]=x at*;go_wp2;go_quiet (fail);go_wp2;exact⟨⟨k+1,z,bz,⟨G.os,G.tape,G.output,G.size,G.block⟩⟩,by simp[RowKit.intOf];omega⟩};{have n:¬(k:Int)<l.length:=z;go_wp2;go_ret;exact⟨rfl,G⟩}
def ay'(w:Γ)(F I:Ω)(x:b2)(h:gT aD w F x)(aX:gT aD w I x): χ 34 #[.agg F,.agg I] w λe w'=>oW e:=by
 obtain⟨p,q,bN,b,c,f,d,l,m,j,k,n,o,rfl,yr,J,hV⟩:=h;obtain⟨B,C,dx,g6,dd,tZ,eW,z,y,r,s,t,u,rfl,L,K,ij⟩:=aX;rw[yr]at L;cases L;have T:=A (k0 w (.cells (gj x.id x.cX x.fT x.cZ x.kd p x.ej q bN b c f d l m j k x.eX x.eH n x.prog o) 47 (0,0)) (.cells (gj x.id x.cX x.fT x.cZ x.kd B x.ej C bN b c f d z y r s x.eX x.eH t x.prog u) 47 (0,0)));have bp:=A λW (a:β w W)=>aII 1 1 W p B q C x.ej x.ej (cm.K (aR.mono aD 1) J a) (cm.K (aR.mono aD 1) K a);have bP:=A λW=>Ji bN b c f d l j z r m k y s W;have ia:=A λW (a:β w W)=>aDo W n t o u x.prog (hV.eB (.hs a)) (ij.eB (.hs a));clear yr J hV K ij;go_enter func34,ntmps34;go_upto_region 1 with fail
 generalize ((w.alloc (.cells (gj x.id x.cX x.fT x.cZ x.kd p x.ej q bN b c f d l m j k x.eX x.eH n x.prog o) 47 (0,0))).alloc (.cells (gj x.id x.cX x.fT x.cZ x.kd B x.ej C bN b c f d z y r s x.eX x.eH t x.prog u) 47 (0,0)))=am at T|-;let⟨eQ,dB,dF,gB,hI,h8,iI,Et,Y,Z,R,S,U,G,V,X⟩:=s8 T.out.p;let⟨fi,b_,cv,ek,il,lm,kJ,yG,D,E,M,N,H,O,P,Q⟩:=s8 T.out.q;go_wp2_with (first|(have _:=g;go_at_call 68;(with_reducible refine(ia.out _ g.out.h).mono ?_);rintro e bh ⟨rfl,bq⟩;have hD:=A (g.out.K bq);clear bq)|(have _:=i;go_at_call 66;(with_reducible refine(bP.out _).mono ?_);rintro e w3 ⟨rfl,bj⟩;have g:=A (i.out.K bj);clear bj;let⟨eQ,dB,dF,gB,hI,h8,iI,Et,Y,Z,R,S,U,G,V,X⟩:=s8 g.out.p;let⟨fi,b_,cv,ek,il,lm,kJ,yG,D,E,M,N,H,O,P,Q⟩:=s8 g.out.q)|(go_at_call 32;(with_reducible refine(bp.out _ T.out.h).mono ?_);rintro e ap ⟨⟨dy,rfl,lg⟩,bu⟩;have i:=A (T.out.K bu);obtain rfl:=lg rfl;clear bu lg;let⟨eQ,dB,dF,gB,hI,h8,iI,Et,Y,Z,R,S,U,G,V,X⟩:=s8 i.out.p;let⟨fi,b_,cv,ek,il,lm,kJ,yG,D,E,M,N,H,O,P,Q⟩:=s8 i.out.q));go_ret;exact⟨rfl,hD.out.h⟩
def aIE(w:Γ)(a b:Θ)(c d:Nat)(l:List b2)(h:kN aD w a l)(I:kN aD w b l): χ 11 #[.slice a l c,.slice b l d] w λe w'=>oW e:=by
 have y0:=A λW (m:β w W)=>(h.K m).2;have LI:=A λW (m:β w W)=>(I.K m).2;have o2:=h.1;clear h I;go_enter func11,ntmps11;go_wp2;go_loopw [5] (λi wr=>∃k:Nat,k<=l.length/\i=.int .i64 k/\β w wr) (λi _=>l.length-(RowKit.intOf i).toNat);case atStart=>exact⟨0,dh _,rfl,bl _ _⟩
 case round=>obtain⟨k,aa,rfl,G⟩:=hrel;by_cases au:k<l;{(have jh:(k:Int)<l.length:=z;have dZ:(0:Int)<=(k:Int):=z;obtain⟨g,rfl,_,⟨ab,q⟩,jF⟩:=y0.out wr G z;obtain⟨j,rfl,_,⟨ad,r⟩,m8⟩:=LI.out wr G z;let⟨F,o,tb⟩:=jF k au;let⟨E,n,L⟩:=m8 k au;have cN:∃x,gT (λx=>aD x/\x≠g) wr F x/\gT (λx=>aD x/\x≠j) wr E x:=⟨_,o,n⟩;clear o n jF m8;let⟨x,o,n⟩:=cN;have CR:=A λW (m:β wr W)=>ay' W F E x ((o.low λ_ _=>gL).eB (.hs m)) ((n.low λ_ _=>gL).eB (.hs m));obtain⟨i2,js,bN,bH,bL,hm,bT,fq,fs,e5,e6,hO,hP,rfl,_,_,_⟩:=o;obtain⟨xg,xh,dx,g6,dd,tZ,eW,nt,n0,ln,lo,mM,mN,rfl,_,_,_⟩:=n;have b7:=bM q;have cw:=bM r;let⟨dA,ak,H,S,T,h2,jQ,kS,x',zw,s,t,u,y,B,C⟩:=BN tb;let⟨V,J,R,Q,Z,Y,hG,jR,yb,qb,K,M,N,D,O,P⟩:=BN L;have U:=A G;clear tb L q r G;go_upto_region 6 with fail);go_region_held3 (λX=>X ⟨g,k*16,none⟩=x.id/\X ⟨g,k*16+1,none⟩=x.cX/\X ⟨g,k*16+2,none⟩=x.fT/\X ⟨g,k*16+3,none⟩=x.cZ/\X ⟨g,k*16+4,none⟩=x.kd/\X ⟨g,k*16+5,none⟩=some (.slice i2 x.ej js)/\X ⟨g,k*16+6,none⟩=bN/\X ⟨g,k*16+7,none⟩=bH/\X ⟨g,k*16+8,none⟩=bL/\X ⟨g,k*16+9,none⟩=hm/\X ⟨g,k*16+10,none⟩=bT/\X ⟨g,k*16+11,none⟩=some (.slice fq 0 fs)/\X ⟨g,k*16+12,none⟩=some (.slice e5 0 e6)/\X ⟨g,k*16+13,none⟩=x.eX/\X ⟨g,k*16+14,none⟩=x.eH/\X ⟨g,k*16+15,none⟩=some (.slice hO x.prog hP)/\X ⟨j,k*16,none⟩=x.id/\X ⟨j,k*16+1,none⟩=x.cX/\X ⟨j,k*16+2,none⟩=x.fT/\X ⟨j,k*16+3,none⟩=x.cZ/\X ⟨j,k*16+4,none⟩=x.kd/\X ⟨j,k*16+5,none⟩=some (.slice xg x.ej xh)/\X ⟨j,k*16+6,none⟩=dx/\X ⟨j,k*16+7,none⟩=g6/\X ⟨j,k*16+8,none⟩=dd/\X ⟨j,k*16+9,none⟩=tZ/\X ⟨j,k*16+10,none⟩=eW/\X ⟨j,k*16+11,none⟩=some (.slice nt 0 n0)/\X ⟨j,k*16+12,none⟩=some (.slice ln 0 lo)/\X ⟨j,k*16+13,none⟩=x.eX/\X ⟨j,k*16+14,none⟩=x.eH/\X ⟨j,k*16+15,none⟩=some (.slice mM x.prog mN)) (first|with_reducible exact⟨dA,ak,H,S,T,h2,jQ,kS,x',zw,s,t,u,y,B,C,V,J,R,Q,Z,Y,hG,jR,yb,qb,K,M,N,D,O,P⟩|with_reducible exact⟨u0,u1,u2,u3,u4,u5,u6,u7,u8,u9,u10,u11,u12,u13,u14,u15,eg,dz,dJ,cP,jv,j9,l7,tS,xD,xE,xC,CD,CE,KS,KT,KU⟩|go_keep) (first|(go_at_call 34;refine(CR.out _ ((bl _ _).drew)).mono ?_;rintro e w7 ⟨rfl,ha⟩;have f:=A ((lk wr).trans ha);clear ha;let⟨u0,u1,u2,u3,u4,u5,u6,u7,u8,u9,u10,u11,u12,u13,u14,u15⟩:=anm f b7 ⟨dA,ak,H,S,T,h2,jQ,kS,x',zw,s,t,u,y,B,C⟩;have eg:=aA f cw V;have dz:=aA f cw J;have dJ:=aA f cw R;have cP:=aA f cw Q;have jv:=aA f cw Z;have j9:=aA f cw Y;have l7:=aA f cw hG;have tS:=aA f cw jR;have xD:=aA f cw yb;have xE:=aA f cw qb;have xC:=aA f cw K;have CD:=aA f cw M;have CE:=aA f cw N;have KS:=aA f cw D;have KT:=aA f cw O;have KU:=aA f cw P));have az:=U.out.size;go_wp2;exact⟨⟨k+1,z,bz,U.out.trans (f.out.mono az)⟩,by simp[RowKit.intOf];omega⟩};{have jh:¬(k:Int)<l.length:=z;go_wp2;go_ret;exact⟨rfl,G⟩}
end Go.bE
namespace Go.bE
open Go Go.Proofs.Tryz Go.Proofs Go.RowKit Go.di Go.bk
open Go.aM (er k_ fk qm hC)
def Fg(w:Γ)(e:Θ)(d:Nat):Prop:=d=0∨ ∃b o,e=some ⟨b,o,none⟩/\b<w.heap.size/\∀i,i<d->∃a n c,w ⟨b,o+i,none⟩=some (.slice a n c)/\k_ w a n/\(∀q,a=some q->0<n->q.block<w.heap.size)/\n<=maxLen
variable{w:Γ}
def Fg.K{w':Γ}{f:Θ}{g:Nat}(h:Fg w f g)(G:β w w'):Fg w' f g:=by rcases h with h|⟨b,o,e,d,j⟩;exact .inl h;refine .inr ⟨b,o,e,cT G d,λi hi=>?_⟩;let⟨a,n,c,H,I,m,l⟩:=j i hi;exact⟨a,n,c,(G.cell d).trans H,I.K G,λq k af=>i4 (m q k af) G.size,l⟩
def avQ(base n:Nat)(e:Ending)(w':Γ):Prop:=∃a c l,e=.returned (.slice a (l:List b2).length c)/\l.length=n/\kN (fj base) w' a l/\∀x∈l,AN x
def aEj{S:c8}{M:Nat->Nat}{rs:List bD}{ca r:Θ}{cc o rb aK rc:Nat}(h:AS S M rs ca r cc o rb aK rc w)(dY:13<=w.heap.size)(fC:Θ)(f hz:Nat)(cK:Fg w fC f): χ 23 #[.agg (en S rs ca r cc o rb aK rc),.slice fC f hz,.int .i64 12] w (avQ w (min f 12)):=by
 let⟨v',vQ,vX,hb,fm⟩:=iz abv;have Ry:=A λW (ao:β w W) id a n c (ad:k_ W a n) (az:∀q,a=some q->0<n->q.block<W) (av:n<=maxLen)=>aEw (h.K ao) (c6 dY ao.size) id a n c ad az av;have E:=ie.d_ w (en S rs ca r cc o rb aK rc);have LS:=A cK;clear h cK;go_enter func23,ntmps23;go_upto_region 1 with fail
 generalize (w.alloc (.cells (en S rs ca r cc o rb aK rc) 29))=am at E|-;go_wp2;go_loopw [7,8] (λv i wr=>∃l:List b2,(∀x∈l,AN x)/\l.length<=12/\l.length<=f/\i=.int .i64 l/\mW (w.heap.size+1) wr v l/\ie w (en S rs ca r cc o rb aK rc) wr) (λ_ i _=>min f 12-(RowKit.intOf i).toNat);case atStart=>exact⟨[],(λx h=>by cases h),dh _,dh _,rfl,mW.nil _ _,E⟩
 case round=>
  clear E;obtain⟨l,aa,o2,tt,rfl,b',cd⟩:=hrel;have ge:=A aa;clear aa;obtain⟨va,cB,rfl⟩:=b'.gX;by_cases au:l.length<f
  .have jh:(l.length:Int)<f:=z;by_cases tq:l.length<12
   .have l4:(l.length:Int)<12:=z;rcases LS.out with af|⟨m,eo,rfl,U,nA⟩
    omega
    .obtain⟨I,T,cA,Z,OI,TX,ae⟩:=nA l au;have fe:=aA cd.b U Z;have tu:=OI.K cd.b;have rJ:∀q,I=some q->0<T->q.block<wr.heap.size:=λq aE af=>i4 (TX q aE af) cd.b.size;have jV:m<wr.heap.size:=cT cd.b U;let⟨ct,a_,bb,bI,dr,d'⟩:=gp cd.g;let⟨ce,ab,V,NU⟩:=b'.o;have em:=A V;have ah:=A ab;have WR:=A NU;have u:=A b';have C:=A cd;have TI:w.heap.size<wr.heap.size:=de cd.g;have LV:=A tu;have ag:=A rJ;have dZ:(0:Int)<=(l.length:Int):=z;clear nA tu rJ OI TX Z ab V NU b' cd;go_upto_region 5 with fail
     go_region_held3 (λX=>X ⟨w,0,none⟩=S.nm/\X ⟨w,1,none⟩=S.dk/\X ⟨w,2,none⟩=some (.slice ca S.bB cc)/\X ⟨w,3,none⟩=some (.slice r S.aJ o)/\X ⟨w,4,none⟩=some (.slice (some ⟨rb,aK,none⟩) rs rc)/\X ⟨w,5,none⟩=S.an/\X ⟨m,eo+l.length,none⟩=some (.slice I T cA)) (first|with_reducible exact⟨ct,a_,bb,bI,dr,d',fe⟩|with_reducible exact⟨u0,u1,u2,u3,u4,u5,u6⟩|with_reducible exact⟨v0,el,eq,v3,v4,v5,hh⟩|go_keep) (first|(have _:=u0;refine K8 _ (by rfl) _ _ _ (by rfl) (w.heap.size+1) 47 v' _ 16 216 yM vQ vX hb fm rfl al (.slice va l cB) l (ce.flatMap Array.toList) (by rfl) ((uS em (.hs d)).alloc _) ⟨t,0,none⟩ 1 1 (gj x.id x.cX x.fT x.cZ x.kd K x.ej J k s N D n L O Q P x.eX x.eH aO x.prog H).toList (by rfl) (by rfl) (r5 (pW t _)) (by simp[Value.oneCell']) al (by unfold maxLen;omega) z bw (t.heap.size+1) aq ?_;intro g cap w7 cR B fG TW;have ig:=A (mW.push (u.out.K d) (u.out.pf (aY _) TI WW) B fG ah (λj a b=>(WR.out j a b).eB (.hs d)) cR);have fJ:=A (((b3 C.out.b d).alloc z _).grown B bw (λb G=>by have:=(u.out.lt b G).1;omega));have R:=(B.block w bw (λe=>by have:=(u.out.lt _ e.symm).1;omega)).trans ((CJ t _ w z).trans Oq);have pr:=A (ie.mk fJ R);have GD:m<w.heap.size+1∨True:=.inr gL;let⟨v0,el,eq,v3,v4,v5⟩:=gp R;have hh:=(B.cell_far ⟨m,eo+l.length,none⟩ (by show m<_;simp;omega) (λe=>by have:=(u.out.lt m e.symm).1;omega)).trans (((fu t _).cell (p:=⟨m,eo+l.length,none⟩) (cT d jV)).trans u6);clear cR B fG R)|(go_at_call 57;refine(Ry.out _ ((C.out.b).trans (((bl _ _).drew).mono C.out.b.size)) _ I T cA (LV.out.K ((bl _ _).drew)) ag ae).mono ?_;rintro e t ⟨⟨F,x,rfl,hT,K,J,k,s,N,D,n,L,O,Q,P,aO,H,rfl,sy,tE,Y⟩,dj⟩;have d:=A ((lk wr).trans dj);have WW:Hid (gT (fj wr) t (gj x.id x.cX x.fT x.cZ x.kd K x.ej J k s N D n L O Q P x.eX x.eH aO x.prog H) x):=A ⟨K,J,k,s,N,D,n,L,O,Q,P,aO,H,rfl,sy,tE,Y⟩;have hw:=A hT;clear sy tE Y dj hT;have Oq:=(d.out.block _ TI).trans C.out.g;have GF:=d.out.size;let⟨u0,u1,u2,u3,u4,u5⟩:=gp Oq;have u6:=aA d jV fe))
     all_goals(
      clear fe u6 hh
      go_wp2
      refine⟨⟨l++[x],(λy aC=>by rcases kx.1 aC with h|h;exact ge.out y h;rw[oQ.1 h];exact hw.out),bw,bw,?_,ig,pr⟩,by simp[RowKit.intOf];omega⟩
      rw[ir,AH];go_num)
   have l4:¬(l.length:Int)<12:=z;exact aoj
  have jh:¬(l.length:Int)<f:=z;exact aoj
end Go.bE
namespace Go.bE
open Go Go.Proofs.Tryz Go.Proofs Go.RowKit Go.di Go.bk
open Go.aM (er k_ fk qm hC Kx)
def av9(base n:Nat)(e:Ending)(w':Γ):Prop:=∃a c l,e=.returned (.slice a (l:List b2).length c)/\l.length=n/\kN (fj base) w' a l/\∀x∈l,(1<=x.id/\x.id<=4)/\AN x
def kN.amU{B:Nat->Prop}{w:Γ}{b:Nat}{l:List b2}(h:kN B w (some ⟨b,0,none⟩) l)(k:Nat)(c:k<l):w ⟨b,k*16,none⟩=some (.int .i64 l[k].id)/\w.frozen? ⟨b,k*16,none⟩=false/\b<w.heap.size:=by let⟨m,e,j,⟨o,a⟩,d⟩:=h.2 z;cases e;let⟨F,H,I⟩:=d k c;obtain⟨u,t,r,s,N,S,n,ca,cc,ra,rc,aO,g,rfl,i,f,q⟩:=H;have:=I 0 z;rw[hY]at this;exact⟨this,Go.aM.cM a,bM a⟩
theorem aL3{S:c8}{M:Nat->Nat}{rs:List bD}{ca D:Option Addr}{cc C rb aK rc:Nat}{w:World}(h:AS S M rs ca D cc C rb aK rc w)(dY:13<=w.heap.size)(P:Option Addr)(s hz:Nat)(N:Fg w P s): Calls prog 6 #[.agg (en S rs ca D cc C rb aK rc),.slice P s hz,.int .i64 12] w fun e w'=>av9 w.heap.size (min s 12) e w'/\Below w.heap.size w w':=by
 have AQ:=A fun W (L:Below w.heap.size w W)=>aEj (h.K L) (c6 dY L.size) P s hz (N.K L);have o:=ie.d_ w (en S rs ca D cc C rb aK rc);have LS:=A N;clear h N;go_enter func6,ntmps6;go_upto_region 1 with fail
 generalize (w.alloc (.cells (en S rs ca D cc C rb aK rc) 29))=K at o⊢;obtain⟨ct,a_,bb,bI,dr,d'⟩:=gp o.g;have hm:=A (AQ.out K o.b);have jf:w.heap.size<K.heap.size:=de o.g;go_upto_region 2 with(go_at_call 23;(with_reducible refine hm.out.mono ?_);rintro e ap ⟨⟨a,c,d,rfl,yo,ad,R⟩,bu⟩;have Z:Hid (∀t (aj:t<d.length),AN d[t]):=A (fun t aj=>R _ (fp aj));have H:=A ad;have u:=A yo;have ex:=A (b3 o.b bu);clear ad bu yo R)
 have o2:d.length<=12:=H.out.1;clear hm AQ ct a_ bb bI dr d' o;generalize K.heap.size=b8 at*
 go_wp2;go_loopw [15] (fun i wr=>∃(l:List b2) (j:Nat),l.length=d.length/\j<=d.length/\i=.int .i64 j/\kN (fj b8) wr a l/\(∀t (aj:t<l.length),t<j->1<=l[t].id/\l[t].id<=4)/\Hid (∀t (aj:t<l.length),AN l[t])/\Below w.heap.size w wr) (fun i _=>d.length-(RowKit.intOf i).toNat);case atStart=>exact⟨d,0,rfl,dh _,rfl,H.out,fun t _ h=>absurd h z,Z,ex.out⟩
 case round=>
  clear H ex Z;obtain⟨l,j,B,ab,rfl,q,E,ge,G⟩:=hrel;by_cases au:j<d.length
  ·have jh:(j:Int)<d.length:=z;have dZ:(0:Int)<=(j:Int):=z;have Q:j<l.length:=z;obtain⟨b,rfl,jd,mr,sy⟩:=q.2 z;clear mr sy;obtain⟨bi,lw,jV⟩:=q.amU j Q;have t0:0<=(j:Int)%4:=z;have dU:(j:Int)%4<4:=z;have ag:w.heap.size<=b:=c6 (AK jf) jd;have F:=A (G.setCell (p:=⟨b,j*16,none⟩) ag (.int .i64 (1+(j:Int)%4)));have I:=A (q.arP j Q (1+(j:Int)%4));have r:=A B;have O:=A E;have m:=A Q;clear q E G B;go_upto_region 6 with fail
   generalize ai:(1+(j:Int)%4)=g at*;have ah:1<=g/\g<=4:=z;clear ai t0 dU;generalize (wr.setCell ⟨b,j*16,none⟩ (.int .i64 g))=bc at*;rcases LS.out with af|⟨bG,eo,rfl,D1,nA⟩
   ·exfalso;have:=u.out;omega
   ·obtain⟨cb,yE,cA,U,V,TX,aq⟩:=nA j (by have:=u.out;omega);have fe:=aA F.out D1 U;have g8:=A (V.K F.out);have an:(j:Int)<s:=by have:=u.out;omega
    have gz:Hid (∀(y:Int),1<=y/\y<=4->∀t (aj:t<((l.set j ((l[j]'m.out).EJ y))).length),t<j+1->1<=(l.set j ((l[j]'m.out).EJ y))[t].id/\(l.set j ((l[j]'m.out).EJ y))[t].id<=4):=A fun y aC t aj Y=>by
     rw[pY]at aj;by_cases e:j=t
     ·subst e;simp only[H4];exact aC
     ·rw[Rj e];exact O.out t aj z
    have T:Hid (∀(f:List b2) (JK:f.length=l.length),(∀t (aj:t<f.length),AN f[t])->∀(y:Int) (k:Nat) (X:k<f.length),∀t (aj:t<(f.set k (f[k].EJ y)).length),AN (f.set k (f[k].EJ y))[t]):=A fun f _ h y k X t aj=>by
     rw[pY]at aj;by_cases e:k=t
     ·subst e;simp only[H4];exact h k X
     ·rw[Rj e];exact h t aj
    have i6:Hid (∀t (aj:t<(l.set j ((l[j]'m.out).EJ g)).length),AN (l.set j ((l[j]'m.out).EJ g))[t]):=A (T.out l rfl ge.out g j m.out);clear nA bi lw V TX U au;by_cases pG:yE=0
    ·subst pG
     go_wp2;exact⟨⟨_,j+1,by rw[pY];exact r.out,z,bz,I.out,gz.out g ah,i6,F.out⟩,by simp[RowKit.intOf];omega⟩
    ·have fi:0<(yE:Int):=z;rcases g8.out with ax|⟨et,gY,rfl,rK⟩
     ·omega
     ·obtain⟨x,J⟩:=rK 0 z;rw[hY]at J;have ae:=Kx x 4 al al;have mr:=Wc x (show(0:Int)<4 by decide);have sy: -4<x.tmod 4:=by have:=afu x (show(0:Int)<4 by decide);omega
      obtain⟨c1,h3,ak⟩:=I.out.amU j (by rw[pY];exact m.out);obtain⟨eg,c1⟩:∃eg,bc.cell? ⟨b,j*16,none⟩=some (.int .i64 eg):=⟨_,c1⟩
      go_wp2;refine⟨⟨_,j+1,by rw[pY,pY];exact r.out,z,bz,I.out.arP j (by rw[pY];exact m.out) _,fun t aj Y=>?_,A (T.out _ (by rw[pY]) i6.out _ j _),F.out.setCell (p:=⟨b,j*16,none⟩) ag _⟩,by simp[RowKit.intOf];omega⟩;rw[pY]at aj;by_cases e:j=t
      ·subst e;simp only[H4];show 1<=1+x.tmod 4%4/\1+x.tmod 4%4<=4;omega
      ·rw[Rj e];exact gz.out g ah t aj Y
  ·have jh:¬(j:Int)<d.length:=z;have r:=A B;have O:=A E;have hS:=A q;clear q E B
   go_wp2;go_ret;exact⟨⟨a,c,l,iY (fun n=>Ending.returned (.slice a n c)) r.out.symm,r.out.trans u.out,hS.out.low fun b G=>c6 (AK jf) G,fun x J=>by obtain⟨t,aj,rfl⟩:=AI.1 J;exact⟨O.out t aj (by have:=r.out;omega),ge.out t aj⟩⟩,G⟩
end Go.bE
namespace Go.bk.N
open Go Go.cE Go.Proofs Go.di Go.aM
def Fy(h:ay)(b e o:Nat)(l:List U):Bool:=match h.cW b with
 |some (.cells a vs _ _)=>Nat.beq e a&&U.p_ ((vs.drop o).take l.length) l
 |_=>false
def EA:List (Ψ×Nat)->List Nat->List U
 |c::l,m::a=>py c.1::.int .i64 (.ofNat c.2)::.int .i64 (.ofNat m)::EA l a
 |_,_=>[]
def Fv:List Nat->List U
 |[]=>[]
 |a::l=>.int .i64 (.ofNat a)::Fv l
def M5(c:Option Nat)(l:Nat):Bool:=match c with
 |none=>true
 |some n=>Nat.ble l n
def XW(h:ay)(a:U)(args:List Nat):Bool:=match a with
 |.slice b o l 1 c=>Nat.beq l args.length&&M5 c l&&Fy h b 3 o (Fv args)
 |.lZ _ _ _ _=>args.isEmpty
 |_=>false
def u'(h:ay):List U->List bD->Bool
 |_,[]=>true
 |hd::op::aO::a::vs,r::l=>U.beq hd (.int .i64 (.ofNat r.h))&&U.beq op (py r.op)&&U.beq aO (py r.aO)&&XW h a r.args&&u' h vs l
 |_,_=>false
def arw(h:ay)(b o:Nat)(l:List bD):Bool:=match h.cW b with
 |some (.cells e vs _ _)=>Nat.beq e 101&&u' h (vs.drop o) l
 |_=>false
def Bp(S:c8)(a:List Nat)(x:Option (U×ay)):Bool:=match x with
 |some (.tup [.agg [nm,dk,.slice d f b 2 c1,.slice bS e c 3 c2,.slice rb aK rX 4 c3,an],.int .i64 _,.int .i64 _],h)=>
  U.beq nm (py S.nm)&&U.beq dk (.int .i64 (.ofNat S.dk))&&U.beq an (.int .i64 (.ofNat S.an))&&Nat.beq b S.bB.length&&Nat.beq c S.aJ.length&&Nat.beq rX S.dp.length&&Nat.beq a.length S.aJ.length&&a.all (λm=>Nat.ble 1 m&&Nat.ble m 5)&&
  Fy h d 141 f (so S.bB)&&Fy h bS 60 e (EA S.aJ a)&&arw h rb aK S.dp&&M5 c1 b&&M5 c2 c&&M5 c3 rX
 |_=>false
end Go.bk.N
namespace Go.bk.N
open Go Go.Proofs.Tryz Go.cE Go.Proofs Go.di Go.aM
def ad5:List Nat:=[103,114,97,109,109,97,114,32,116,101,120,116,115,32,49,10,99,111,108,117,109,110,32,97,32,116,101,120,116,10,99,111,108,117,109,110,32,98,32,116,101,120,116,10,115,121,109,98,111,108,32,84,32,116,101,120,116,32,52,10,115,121,109,98,111,108,32,85,32,116,101,120,116,32,50,10,114,117,108,101,32,84,32,99,111,108,32,39,97,39,10,114,117,108,101,32,84,32,99,111,108,32,39,98,39,10,114,117,108,101,32,84,32,99,111,110,99,97,116,32,39,39,32,85,32,84,10,114,117,108,101,32,84,32,117,112,112,101,114,32,39,39,32,85,10,114,117,108,101,32,85,32,99,111,108,32,39,97,39,10,114,117,108,101,32,85,32,116,101,120,116,32,39,45,39,10,114,117,108,101,32,85,32,101,120,116,114,97,99,116,32,39,92,100,43,35,49,39,32,85,10,115,116,97,114,116,32,84,10]
def aGS:Bp mP [4,2] ((i0 prog km j6.find 3000).call 17 [.str ad5] (hA ⟨.e,13⟩ []))=true:=aw
def ad6:List Nat:=[103,114,97,109,109,97,114,32,110,117,109,98,101,114,115,32,49,10,99,111,108,117,109,110,32,110,32,110,117,109,98,101,114,10,99,111,108,117,109,110,32,109,32,110,117,109,98,101,114,10,115,121,109,98,111,108,32,78,32,110,117,109,98,101,114,32,52,10,115,121,109,98,111,108,32,77,32,110,117,109,98,101,114,32,50,10,114,117,108,101,32,78,32,99,111,108,32,39,110,39,10,114,117,108,101,32,78,32,99,111,108,32,39,109,39,10,114,117,108,101,32,78,32,97,100,100,32,39,39,32,77,32,78,10,114,117,108,101,32,78,32,109,117,108,32,39,39,32,78,32,77,10,114,117,108,101,32,77,32,110,117,109,98,101,114,32,39,50,39,10,114,117,108,101,32,77,32,99,111,108,32,39,109,39,10,114,117,108,101,32,77,32,114,111,117,110,100,32,39,49,39,32,77,10,115,116,97,114,116,32,78,10]
def aGT:Bp mQ [4,2] ((i0 prog km j6.find 3000).call 17 [.str ad6] (hA ⟨.e,13⟩ []))=true:=aw
def ad7:List Nat:=[103,114,97,109,109,97,114,32,100,97,116,101,115,32,49,10,99,111,108,117,109,110,32,100,32,100,97,116,101,10,99,111,108,117,109,110,32,101,32,100,97,116,101,10,99,111,108,117,109,110,32,110,32,110,117,109,98,101,114,10,115,121,109,98,111,108,32,68,32,100,97,116,101,32,52,10,115,121,109,98,111,108,32,78,32,110,117,109,98,101,114,32,51,10,115,121,109,98,111,108,32,69,32,100,97,116,101,32,49,10,114,117,108,101,32,68,32,99,111,108,32,39,100,39,10,114,117,108,101,32,68,32,100,97,121,115,32,39,39,32,68,32,78,10,114,117,108,101,32,78,32,99,111,108,32,39,110,39,10,114,117,108,101,32,78,32,110,117,109,98,101,114,32,39,55,39,10,114,117,108,101,32,78,32,98,101,116,119,101,101,110,32,39,39,32,69,32,69,10,114,117,108,101,32,69,32,99,111,108,32,39,100,39,10,114,117,108,101,32,69,32,99,111,108,32,39,101,39,10,115,116,97,114,116,32,68,10]
def aGU:Bp mu [4,3,1] ((i0 prog km j6.find 3000).call 17 [.str ad7] (hA ⟨.e,13⟩ []))=true:=aw
def ad8:List Nat:=[103,114,97,109,109,97,114,32,108,111,111,107,117,112,115,32,49,10,99,111,108,117,109,110,32,99,111,100,101,32,116,101,120,116,10,99,111,108,117,109,110,32,110,32,110,117,109,98,101,114,10,115,121,109,98,111,108,32,78,32,110,117,109,98,101,114,32,52,10,115,121,109,98,111,108,32,84,32,116,101,120,116,32,50,10,114,117,108,101,32,78,32,108,111,111,107,117,112,32,39,112,114,105,99,101,115,46,99,111,100,101,46,112,114,105,99,101,58,110,117,109,98,101,114,39,32,84,10,114,117,108,101,32,78,32,99,111,108,32,39,110,39,10,114,117,108,101,32,78,32,109,117,108,32,39,39,32,78,32,78,10,114,117,108,101,32,84,32,99,111,108,32,39,99,111,100,101,39,10,114,117,108,101,32,84,32,117,112,112,101,114,32,39,39,32,84,10,114,117,108,101,32,84,32,116,101,120,116,32,39,65,39,10,115,116,97,114,116,32,78,10]
def aGV:Bp om [4,2] ((i0 prog km j6.find 3000).call 17 [.str ad8] (hA ⟨.e,13⟩ []))=true:=aw
def ad9:List Nat:=[103,114,97,109,109,97,114,32,99,104,111,105,99,101,115,32,49,10,99,111,108,117,109,110,32,115,32,116,101,120,116,10,99,111,108,117,109,110,32,110,32,110,117,109,98,101,114,10,115,121,109,98,111,108,32,84,32,116,101,120,116,32,53,10,115,121,109,98,111,108,32,66,32,98,111,111,108,32,51,10,115,121,109,98,111,108,32,78,32,110,117,109,98,101,114,32,49,10,115,121,109,98,111,108,32,67,32,116,101,120,116,32,49,10,114,117,108,101,32,84,32,99,111,108,32,39,115,39,10,114,117,108,101,32,84,32,116,101,120,116,32,39,108,111,119,39,10,114,117,108,101,32,84,32,105,102,32,39,116,101,120,116,39,32,66,32,67,32,84,10,114,117,108,101,32,66,32,108,101,115,115,32,39,39,32,78,32,78,10,114,117,108,101,32,66,32,109,97,116,99,104,32,39,92,117,43,39,32,67,10,114,117,108,101,32,78,32,99,111,108,32,39,110,39,10,114,117,108,101,32,78,32,110,117,109,98,101,114,32,39,49,48,39,10,114,117,108,101,32,67,32,99,111,108,32,39,115,39,10,114,117,108,101,32,67,32,116,101,120,116,32,39,104,105,103,104,39,10,115,116,97,114,116,32,84,10]
def aGW:Bp lp [5,3,1,1] ((i0 prog km j6.find 3000).call 17 [.str ad9] (hA ⟨.e,13⟩ []))=true:=aw
def ad_:List Nat:=[103,114,97,109,109,97,114,32,116,97,98,108,101,115,32,49,10,99,111,108,117,109,110,32,105,116,101,109,115,32,116,97,98,108,101,10,99,111,108,117,109,110,32,107,32,116,101,120,116,10,115,121,109,98,111,108,32,78,32,110,117,109,98,101,114,32,52,10,115,121,109,98,111,108,32,88,32,116,97,98,108,101,32,51,10,115,121,109,98,111,108,32,84,32,116,101,120,116,32,49,10,114,117,108,101,32,78,32,115,117,109,32,39,97,109,111,117,110,116,62,61,48,39,32,88,10,114,117,108,101,32,78,32,99,111,117,110,116,32,39,39,32,88,10,114,117,108,101,32,78,32,97,100,100,32,39,39,32,78,32,78,10,114,117,108,101,32,88,32,99,111,108,32,39,105,116,101,109,115,39,10,114,117,108,101,32,88,32,119,104,101,114,101,32,39,107,105,110,100,39,32,88,32,84,10,114,117,108,101,32,84,32,99,111,108,32,39,107,39,10,114,117,108,101,32,84,32,116,101,120,116,32,39,97,39,10,115,116,97,114,116,32,78,10]
def aGX:Bp nb [4,3,1] ((i0 prog km j6.find 3000).call 17 [.str ad_] (hA ⟨.e,13⟩ []))=true:=aw
end Go.bk.N

