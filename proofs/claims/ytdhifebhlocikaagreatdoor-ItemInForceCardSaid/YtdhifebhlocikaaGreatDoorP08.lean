/- ItemInForce, one part of the proof. -/
import Derived.Test.YtdhifebhlocikaaGreatDoorP07
set_option linter.all false
set_option maxRecDepth 100000
set_option maxHeartbeats 16000000
namespace Go.bE
open Go Go.Proofs.Tryz Go.Proofs Go.RowKit Go.Lib Go.aM
structure sO (base:Nat) (w wr:Γ) (v:Φ) (l:List (List bs)):Prop where
 o:∃ss:List Φ,ss.length=l.length/\wr.ownsRow base 45 1 v l.length ss/\∀j (H:j<ss.length) (I:j<l.length),∃a c,ss[j]=.slice a l[j].length c/\cm aD (aR aD 0) w a l[j]
def sO.nil(base:Nat)(w wr:Γ):sO base w wr (.slice none 0 0) []:=⟨[],rfl,ne _ _ _ _,λj H=>by cases H⟩
variable{w wr w':Γ}{v:Φ}
def sO.eB{base:Nat}{l:List (List bs)}(h:sO base w wr v l)(a:eR (fj base) wr w'):sO base w w' v l:=by let⟨c,H,I,b⟩:=h.o;exact⟨c,H,uS I a,b⟩
def sO.lt{base:Nat}{l:List (List bs)}(h:sO base w wr v l):∀g,v.ownBlock=some g->base<=g:=by let⟨f,H,I,c⟩:=h.o;exact λg ar=>by(rcases I.2 with⟨b,_⟩|⟨j,cap,i,ak,a,d,e⟩);subst b;simp[Value.ownBlock]at ar;subst ak;simp[Value.ownBlock]at ar;subst ar;exact a
def sO.aG{base:Nat}{l:List (List bs)}(h:sO base w wr v l)(G:β w wr)(k:l.length<=100):∃a c,v=.slice a l c/\fz aD (aR aD 0) wr a l:=by
 let⟨ss,H,I,d⟩:=h.o;have i:∃a c,v=.slice a l c:=by exact UA
 obtain⟨a,c,rfl⟩:=i;refine⟨a,c,rfl,k,λaf=>?_⟩;have rC:=I;rcases I.2 with⟨aS,b4⟩|⟨g,cap,cq,ak,aI,f,m,n,o,r⟩
 exact absurd b4 z
 .injection ak with mg _ _
  refine⟨g,0,mg,gL,bM f,λj b=>?_⟩;let⟨p,q,e,ag⟩:=d j z b;refine⟨p,q,?_,cm.K (aR.mono aD 0) ag G⟩;exact aoR
def sO.push{base:Nat}{w w7:Γ}{l:List (List bs)}{ss:List Φ}(e:ss.length=l.length)(f:∀j (H:j<ss.length) (I:j<l.length),∃a c,ss[j]=.slice a l[j].length c/\cm aD (aR aD 0) w a l[j]){a:Θ}{u:List bs}{c:Nat}(i:cm aD (aR aD 0) w a u){g cap:Nat} (k:w7.ownsRow base 45 1 (.slice (some ⟨g,0,none⟩) (l.length+1) cap) (l.length+1) (ss++[.slice a u.length c])):sO base w w7 (.slice (some ⟨g,0,none⟩) (l.length+1) cap) (l++[u]):=by
 refine⟨ss++[.slice a u.length c],by simp[e],by simpa using k,λj a' m=>?_⟩;by_cases d:j<ss.length
 .have b:j<l.length:=z;rw[xI d,xI b];exact f j d b
 .have b:¬j<l.length:=z;rw[xJ z,xJ z];simp only[Rk];exact⟨a,c,rfl,i⟩
structure zf (w:Γ) (F aF:Ω) (wr:Γ):Prop where
 b:Below w.heap.size w wr
 g:wr.heap[w.heap.size]? =some (.cells F 44 (0,0))
 l:wr.heap[w.heap.size+1]? =some (.cells aF 44 (0,0))
 o:wr.heap[w.heap.size+1+1]? =some (.cells fo 44 (0,0))
variable{F:Ω}
def zf.K{a:Ω}(h:zf w F a wr)(G:β wr w'):zf w F a w':=
 ⟨b3 h.b G,by rw[G.block _ (bM h.g)];exact h.g,by rw[G.block _ (bM h.l)];exact h.l,by rw[G.block _ (bM h.o)];exact h.o⟩
def zf.hN{a:Ω}(h:zf w F a wr)(G:Below (w.heap.size+3) wr w'):zf w F a w':=
 ⟨h.b.trans (G.mono z),by rw[G.block _ z];exact h.g,by rw[G.block _ z];exact h.l,by rw[G.block _ z];exact h.o⟩
def zf.start(w:Γ)(F a:Ω):zf w F a (((w.alloc (.cells F 44)).alloc (.cells a 44)).alloc (.cells fo 44)):=by let⟨H,I,c,b⟩:=QF w (.cells F 44) (.cells a 44) (.cells fo 44);exact⟨H,I,c,b⟩
def aL9{m n:Nat}(aG:List (List bs))(J:e9 n (jl aG))(w:Γ)(F:Ω)(h:aR aD 1 w F (jl aG))(aF:Ω)(u:bs)(hu:aR aD 1 w aF u): Calls prog 527 #[.agg F,.string lM,.agg aF] w λe w'=>e_ w.heap.size m e w'/\β w w':=by
 have zM:aG.length<=3/\∀r∈aG,t_ r:=by cases J with|jl _ ah h=>exact⟨ah,h⟩
 have bp:=A λW (K:β w W)=>anb aG J W F (h.K K);obtain⟨ca,cc,ra,rc,rfl,gt,qU⟩:=h;have C8:=A hu;obtain⟨U,O,R,S,Cy,T,V⟩:=u;obtain⟨rZ,r1,r0,r2,rfl,_⟩:=hu.gX;have Z:=A (zf.start w (bC 5 bX 0 0 0 ca 2 cc ra aG.length rc) (bC U O R S Cy rZ T.length r1 r0 V.length r2));have bP:=A λW (K:β w W)=>abs W ca cc [lM,lv] lM (gt.K K);have ai:=A gt;have ig:=A qU.2;have cp:=A (λi (hi:i<aG.length)=>zM.2 _ (fp hi));have ah:=zM.1;clear J gt qU zM hu;obtain⟨O0,Ow,nC,hW,lg⟩:=iz J3;go_enter func527,ntmps527;go_upto_region 1 with fail
 generalize (((w.alloc (.cells (bC 5 bX 0 0 0 ca 2 cc ra aG.length rc) 44)).alloc (.cells (bC U O R S Cy rZ T.length r1 r0 V.length r2) 44)).alloc (.cells fo 44))=am at Z|-;have d:=Z.out;obtain⟨eQ,dB,dF,gB,hI,h8,iI⟩:=eU d.g;have g3:=bM d.g;have aV:=d.b;clear d;go_upto_region 4 with(go_at_call 564;refine(bp.out _ aV).mono ?_;rintro e D ⟨rfl,bu⟩)
 have E:=A (Z.out.K bu);have lm:=aN 5 E.out.g;have b7:=bM E.out.g;have bj:=E.out.b;clear eQ dB dF gB hI h8 iI g3 Z aV bu;go_upto_region 7 with(go_at_call 562;refine(bP.out _ bj).mono ?_;rintro e w3 ⟨⟨x,rfl,aa⟩,rfl⟩;obtain rfl:=axV aa)
 have ma:=A (E.out.K (fu D (.cells (bC 5 bX 0 0 0 ca 2 cc none 0 0) 44)));have yt:=c7 D (.cells (bC 5 bX 0 0 0 ca 2 cc none 0 0) 44);have o7:w.heap.size+3<=D.heap.size:=bM E.out.o;have sx:=jt D (.cells (bC 5 bX 0 0 0 ca 2 cc none 0 0) 44);go_wp2;clear lm b7 bp bP E bj;generalize qc:D.heap.size=bS at*;generalize (D.alloc (.cells (bC 5 bX 0 0 0 ca 2 cc none 0 0) 44))=bh at*;go_loopw [11] (λi wr=>∃(k:Nat) (l:List (List bs)) (c3:Θ) (c4:Nat),k<=aG.length/\i=.int .i64 k/\zf w (bC 5 bX 0 0 0 ca 2 cc ra aG.length rc) (bC U O R S Cy rZ T.length r1 r0 V.length r2) wr/\wr.heap[bS]? =some (.cells (bC 5 bX 0 0 0 ca 2 cc c3 l.length c4) 44 (0,0))/\sO (bS+1) w wr (.slice c3 l.length c4) l/\l.length<=k/\(∀r∈l,t_ r)/\bS+1<=wr.heap.size) (λi _=>aG.length-(RowKit.intOf i).toNat);case atStart=>exact⟨0,[],none,0,dh _,rfl,ma.out,yt,sO.nil _ _ _,aq,aq,z⟩
 case round=>
  clear ma yt;obtain⟨k,l,c3,c4,aK,rfl,d,L,X,aJ,M,dO⟩:=hrel;have kJ:=aN 6 d.g;have b7:=bM d.g;by_cases au:k<aG.length
  .obtain⟨cV,lX,rfl,_,iO,kc⟩:=ig.out z;obtain⟨dI,Y,tw,ab⟩:=kc k au;obtain⟨fE,mb,jq,gP,jC,jD,jj,jK,fq,fs,e5,e6,lL,dm,aP,Bt,rfl,o,q,Js⟩:=arp ab (cp.out k au);have aC:=A ab;have aH:=A (cp.out k au);have tq:(aG[k]).length=2:=by rw[lL];rfl
   rw[tq]at tw;have f:=d.b;have aE:=aA f iO tw;have eg:=aA f o q.bi;have dz:=aA f o q.c1;have dJ:=aA f o q.c2;have cP:=aA f o q.c3;have jv:=aA f o q.c4;have j9:=aA f o q.c5;have l7:=aA f o q.fe;have aj:=cT f iO;have az:=cT f o;obtain⟨u0,u1,u2,u3,u4,u5,u6⟩:=eU d.l;have cw:=bM d.l;have gQ:(0:Int)<=(k:Int):=z;have gb:(k:Int)<aG.length:=z;have N:=A d;have vo:=A L;have AV:=A X;have Lv:=A λW (K:β w W)=>abz 0 1 W (bC 1 fE 0 0 0 jC 0 jD jj 0 jK) (bC U O R S Cy rZ T.length r1 r0 V.length r2) (hX fE) _ (aR.jb aD 0 W 1 fE 0 0 0 jC jD jj jK) (C8.out.K K);clear ab q Js kc d L X dm;generalize aG[k]=row at*;go_wp2;go_still_tail 9,aw;change wpList _ _ _ _ _ wr.drew;have uB:β w wr.drew:=f.drew;have af:β wr wr.drew:=(bl _ _).drew;have B:=A (N.out.K af);have yg:Hid (wr.drew.heap[bS]? =some (.cells (bC 5 bX 0 0 0 ca 2 cc c3 l.length c4) 44 (0,0))):=A vo.out;have NV:=A (AV.out.eB (w':=wr.drew) (.hs af));have an:bS+1<=wr.drew.heap.size:=dO;have ys:wr.drew.cell? ⟨cV,lX+k,none⟩=some (.slice (some ⟨jq,gP,none⟩) 2 Y):=aE;have ad:cV<wr.drew.heap.size:=aj;clear aE tw aj kJ b7 dO N vo AV af;generalize wr.drew=bc at*;go_wp2_with (go_at_call 563;refine(Lv.out _ uB).mono ?_;rintro e j ⟨⟨xt,rfl⟩,s⟩;have I:=A (B.out.K s);have y:=A ((s.block _ (bM yg.out)).trans yg.out);have C:=A (NV.out.eB (.hs s));have Q:bS+1<=j.heap.size:=c6 an s.size;have T6:=aA s ad ys;have av:=cT s ad;clear s;cases xt)
   .go_roundw;case rel=>first|exact⟨k+1,l,c3,c4,z,bz,I.out,y.out,C.out,z,M,Q⟩|((repeat apply Exists.intro);refine⟨?_,rfl⟩;exact⟨k+1,l,c3,c4,z,bz,I.out,y.out,C.out,z,M,Q⟩)
    case measure=>simp[RowKit.intOf];omega
   .obtain⟨ss,BG,yu,GA⟩:=C.out.o;have kJ:=aN 6 I.out.g;have b7:=bM I.out.g;have ph:=aN 6 y.out;have hG:=kt 6 y.out;have ik:=bM y.out;have AW:Hid (some bS≠(Value.slice c3 l.length c4).ownBlock):=A λe=>by have:=C.out.lt _ e.symm;omega
    have em:=A yu;clear eg dz dJ cP jv j9 l7 u0 u1 u2 u3 u4 u5 u6 cw o az B yg NV an ys ad f uB yu;try go_wp2
    go_region_law (first
     |(refine K8 _ (by rfl) _ _ _ (by rfl) (bS+1) 45 O0 _ 1 24 K5 Ow nC hW lg rfl al (.slice c3 l.length c4) l.length ss (by rfl) ((uS em.out (.hs (lk j))).alloc _) ⟨j.heap.size,0,none⟩ 1 1 [.slice (some ⟨jq,gP,none⟩) 2 Y] (by rfl) (by rfl) (r5 (cs:=#[.slice (some ⟨jq,gP,none⟩) 2 Y]) (t:=45) (fr:=(0,0)) (pW j.drew _)) (by simp[Value.oneCell']) al (by unfold maxLen;omega) z bw (j.heap.size+1) aq ?_;intro g cap w7 cR lF fG TW;have GK:w7 ⟨bS,6,none⟩=some (.slice c3 l.length c4):=(lF.cell_far ⟨bS,6,none⟩ bw AW.out).trans ((((fu j _).drew).cell (p:=⟨bS,6,none⟩) ik).trans ph);have f7:w7.frozen? ⟨bS,6,none⟩=false:=(lF.frozen_far ⟨bS,6,none⟩ bw AW.out).trans ((((fu j _).drew).frozen (p:=⟨bS,6,none⟩) ik).trans hG);have P:Below (bS+1) j w7:=((((bl (bS+1) j).alloc Q _).drew).grown lF bw (λb G=>C.out.lt b G))))
    all_goals(
     have N7:=A (I.out.hN (P.mono z))
     have N1:Hid (w7.heap[bS]? =some (.cells (bC 5 bX 0 0 0 ca 2 cc c3 l.length c4) 44 (0,0))):=A ((P.block bS z).trans y.out)
     have ax:=A (sO.push (base:=bS+1) (w:=w) (w7:=w7) BG GA (a:=some ⟨jq,gP,none⟩) (u:=row) (c:=Y) aC.out (g:=g) (cap:=cap) (by rw[tq];exact cR))
     have BM:bS+1<=w7.heap.size:=c6 Q P.size
     clear cR lF fG ph hG kJ b7 T6 av C y I em AW Lv P
     go_wp2
     have tf:(w7.setCell ⟨bS,6,none⟩ (.slice (some ⟨g,0,none⟩) (l.length+1) cap)).heap[bS]? =some (.cells (bC 5 bX 0 0 0 ca 2 cc (some ⟨g,0,none⟩) (l++[row]).length cap) 44 (0,0)):=by
      have:=h' (i:=6) N1.out (.slice (some ⟨g,0,none⟩) (l.length+1) cap)
      simpa using this
     have DK:=N7.out.hN ((bl (w.heap.size+3) w7).setCell (p:=⟨bS,6,none⟩) o7 (.slice (some ⟨g,0,none⟩) (l.length+1) cap))
     have ay:sO (bS+1) w (w7.setCell ⟨bS,6,none⟩ (.slice (some ⟨g,0,none⟩) (l.length+1) cap)) (.slice (some ⟨g,0,none⟩) (l++[row]).length cap) (l++[row]):=by
      have:=ax.out.eB ((eR.refl _ w7).set (r:=bS) (λ(G:bS+1<=bS)=>z) 6 (.slice (some ⟨g,0,none⟩) (l.length+1) cap))
      simpa using this
     have aB:∀r∈l++[row],t_ r:=λr ae=>by
      rcases kx.1 ae with H|H
      .exact M r H
      .rw[oQ.1 H];exact aH.out
     have JZ:bS+1<=(w7.setCell ⟨bS,6,none⟩ (.slice (some ⟨g,0,none⟩) (l.length+1) cap)).heap.size:=by simpa using BM
     exact⟨⟨k+1,l++[row],some ⟨g,0,none⟩,cap,z,bz,DK,tf,ay,bw,aB,JZ⟩,by simp[RowKit.intOf];omega⟩)
  .obtain rfl:k=aG.length:=z;have G:=d.b;obtain⟨a',eT,cg,dE⟩:=X.aG G z;injection cg with ak aI bv
   subst ak;subst bv;have eV:aR aD 1 wr (bC 5 bX 0 0 0 ca 2 cc c3 l.length c4) (jl l):=⟨_,_,_,_,rfl,ai.out.K G,dE⟩;have nf:=A (I4 0 wr _ _ eV);have WS:Hid (e9 m (jl l)):=A (.jl l z M);obtain⟨fV,dP,dq,du,oO,xB,ph⟩:=eU L;have iT:=bM L;have N:=A d;clear d L X dE eV M ig cp ai C8;go_wp2_with (go_at_call 67;refine(nf.out).mono ?_;rintro e bc ⟨⟨aL,rfl,BK⟩,bJ⟩;obtain⟨aO,bK,pb,wi,rfl,OX,GD⟩:=BK;have ag:=A (And.intro OX GD);clear OX GD;have B:=N.out.K bJ;obtain⟨hf,dn,dR,fy,gG,hg,hj⟩:=eU B.o;obtain⟨z0,cC,dC,z3,z4,z5,eJ⟩:=hp B.o);refine gd (j5 (fn:=f527) rfl _ _ (w.heap.size+1+1) 44 _ (0,0) _ _ rfl rfl (iJ B.o _ _ _ _ _ _ _) k2 rfl jk) rfl ?_;refine⟨e_.some _ _ _ (v:=jl l) ?_ WS.out,iU B.b z _ _ _ _ _ _ _⟩;have aM:=G.size;have ar:aR (fj wr.heap.size) 1 bc (bC 5 bX 0 0 0 aO 2 bK pb l.length wi) (jl l):=⟨aO,bK,pb,wi,rfl,ag.out.1,ag.out.2⟩;have:=bM N.out.o;exact(ar.eB (Kr (eR.refl _ bc) (λ(G:wr.heap.size<=w.heap.size+1+1)=>z) _ _ _ _ _ _ _)).low λb (G:wr.heap.size<=b)=>(show w.heap.size<=b by omega)
abbrev e3(c:Θ)(e b:Nat)(k n dH ds:Int)(aO:Θ)(d a:Nat):Ω:=#[.slice c e b,.int .i64 k,.int .i64 n,.int .i64 dH,.int .i64 ds,.slice aO d a]
variable{a:Θ}{f e:Int}
def IU{g l n j bN d:Int}{bY c:Ψ}(h:cm aD (aR aD 1) w a [.mk g bY l n j [] [],.mk bN c d f e [] []]):∃b o,a=some ⟨b,o,none⟩/\b<w/\(∃ca cc ra rc,vv w b o g (.string bY) l n j (.slice ca 0 cc) (.slice ra 0 rc))/\∃ca cc ra rc,vv w b (o+7) bN (.string c) d f e (.slice ca 0 cc) (.slice ra 0 rc):=by
 obtain⟨s,q,rfl,_,t,m⟩:=h.2 aq;let⟨Q,J,K,L,oO,T,z,U,W,A,V,u,i⟩:=m 0 aq;let⟨P,M,I,H,X,R,Y,S,N,Z,O,r,k⟩:=m 1 aq;let⟨x,y,B,C,dA,_⟩:=u;let⟨E,D,F,G,ak,_⟩:=r;injection dA with dA
 injection ak with ak
 simp only[qs,HX,HY,EK,EX,AM]at dA ak;obtain⟨rfl,rfl,rfl,rfl,rfl,⟨rfl,rfl,rfl⟩,rfl,rfl,rfl⟩:=dA;obtain⟨rfl,rfl,rfl,rfl,rfl,⟨rfl,rfl,rfl⟩,rfl,rfl,rfl⟩:=ak;simp only[vh,hY,Rr,tV]at i k;exact⟨s,q,rfl,t,⟨_,_,_,_,i⟩,_,_,_,_,k⟩
def MH{c g:Int}{bY:Ψ}(h:cm aD (aR aD 1) w a [.mk c bY f g e [] []]):∃b o,a=some ⟨b,o,none⟩/\b<w/\∃ca cc ra rc,vv w b o c (.string bY) f g e (.slice ca 0 cc) (.slice ra 0 rc):=by
 obtain⟨j,i,rfl,_,k,m⟩:=h.2 aq;let⟨A,x,y,z,F,B,r,C,E,s,D,l,d⟩:=m 0 aq;let⟨n,q,t,u,dA,_⟩:=l;injection dA with dA
 simp only[qs,HX,HY,EK,EX,AM]at dA;obtain⟨rfl,rfl,rfl,rfl,rfl,⟨rfl,rfl,rfl⟩,rfl,rfl,rfl⟩:=dA;simp only[vh,hY,tV]at d;exact⟨j,i,rfl,k,_,_,_,_,d⟩
variable{c:Nat}
def fg{b i:Nat}{u0 u1 u2 u3 u4 u5 u6:Φ}(h:c≠b):(Ae w c u0 u1 u2 u3 u4 u5 u6) ⟨b,i,none⟩=w ⟨b,i,none⟩:=by rw[ve _ _ _ _ h,ve _ _ _ _ h,ve _ _ _ _ h,ve _ _ _ _ h,ve _ _ _ _ h,ve _ _ _ _ h,ve _ _ _ _ h]
structure lu (w:Γ) (F:Ω) (t:Nat) (wr:Γ):Prop where
 b:Below w.heap.size w wr
 g:wr.heap[w.heap.size]? =some (.cells F t (0,0))
 o:wr.heap[w.heap.size+1]? =some (.cells fo 44 (0,0))
def lu.K{t:Nat}(h:lu w F t wr)(G:β wr w'):lu w F t w':=
 ⟨b3 h.b G,by rw[G.block _ (bM h.g)];exact h.g,by rw[G.block _ (bM h.o)];exact h.o⟩
def lu.start(w:Γ)(F:Ω)(t:Nat):lu w F t ((w.alloc (.cells F t)).alloc (.cells fo 44)):=by have T:=k0 w (.cells F t) (.cells fo 44);exact⟨T.h,T.p,T.q⟩
def aFO(B:Θ)(F y:Nat)(D fn dH ds:Int)(ff:Θ)(gr E:Nat)(aO:Ψ)(m:Nat)(i k:Int)(d f:Nat)(w:Γ)(K:Θ)(ac:Nat)(h:cm aD (aR aD 1) w K [gR i d,gR k f])(M X Y:Nat)(H:hC i d)(I:hC k f)(Z:M=max d f)(iD:M<=3)(U:X=i.natAbs*10^(M-d))(V:Y=k.natAbs*10^(M-f))(O:X+Y<=1000000000000000)(L:∀(N:Int) (S:Nat),hC N S->N.natAbs<=X+Y->S<=M->e9 m (gR N S)): χ 483 #[.string ⟨#[97,100,100]⟩,aO,.agg (e3 B F y D fn dH ds ff gr E),.slice K 2 ac] w (e_ w m):=by have Nu:((⟨#[97,100,100]⟩:Ψ).toList==(⟨#[112,114,105,110,116]⟩:Ψ).toList)=false:=fX al;have wT:((⟨#[97,100,100]⟩:Ψ).toList==(⟨#[97,100,100]⟩:Ψ).toList)=true:=qH _;have T:=A λW=>aib i k d f M W H I Z iD X Y U V O;have R:=A λN S W=>acX N S W;have cp:=A L;obtain⟨b,o,rfl,G,⟨ca,cc,ra,rc,af⟩,g9,ho,h9,hQ,H⟩:=IU h;have x:=A (lu.start w (e3 B F y D fn dH ds ff gr E) 251);clear h L;go_enter K0,K2;go_wp2;generalize ((w.alloc (.cells (e3 B F y D fn dH ds ff gr E) 251)).alloc (.cells fo 44))=g at x|-;have c:=x.out.b;have jc:=cT c G;have c2:=aA c G af.c2;have c3:=aA c G af.c3;have C:=aA c G H.c2;have J:=aA c G H.c3;clear af H;have t:w.heap.size+1≠b:=z;have ry:g.drew.cell? ⟨b,o+2,none⟩=_:=c2;have wM:g.drew.cell? ⟨b,o+3,none⟩=_:=c3;have P:g.drew.cell? ⟨b,o+7+2,none⟩=_:=C;have Q:g.drew.cell? ⟨b,o+7+3,none⟩=_:=J;have l:=A jc;have sU:=A (x.out.K (lk g));clear c G;go_region_held3 (λaZ=>aZ ⟨b,o+2,none⟩=i/\aZ ⟨b,o+3,none⟩=d/\aZ ⟨b,o+7+2,none⟩=k/\aZ ⟨b,o+7+3,none⟩=f) (first|with_reducible exact⟨c2,c3,C,J⟩|with_reducible exact⟨ry,wM,P,Q⟩|with_reducible exact⟨s,r,q,n⟩|with_reducible exact⟨(fg t).trans s,(fg t).trans r,(fg t).trans q,(fg t).trans n⟩|go_keep) (first|(go_at_call 532;refine(T.out _).mono ?_;rintro e w3 ⟨⟨N,S,rfl,kq,uD,uE,w8⟩,a⟩;have ih:=A (sU.out.K a);have s:=aA a l c2;have r:=aA a l c3;have q:=aA a l C;have n:=aA a l J;have u:=cT a l;clear a)|(go_at_call 531;refine(R.out _ _ _).mono ?_;rintro e bh ⟨rfl,j⟩;have ec:=ih.out.K j;have s:=aA j u s;have r:=aA j u r;have q:=aA j u q;have n:=aA j u n;let⟨hf,dn,dR,fy,gG,hg,hj⟩:=eU ec.o;let⟨z0,cC,dC,z3,z4,z5,eJ⟩:=hp ec.o));exact aci
def aFS(B:Θ)(F y:Nat)(D fn dH ds:Int)(ff:Θ)(gr E:Nat)(aO:Ψ)(m:Nat)(a d:Int)(g i:Nat)(w:Γ)(K:Θ)(ac:Nat)(h:cm aD (aR aD 1) w K [gR a g,gR d i])(M:Nat)(X:M=g+i)(H:hC a g)(I:hC d i)(Y:g+i<=3)(R:a.natAbs<16777216)(T:d.natAbs<2147483648)(O:a.natAbs*d.natAbs<=1000000000000000)(L:∀(N:Int) (S:Nat),hC N S->N.natAbs<=a.natAbs*d.natAbs->S<=M->e9 m (gR N S)): χ 483 #[.string ⟨#[109,117,108]⟩,aO,.agg (e3 B F y D fn dH ds ff gr E),.slice K 2 ac] w (e_ w m):=by have Nu:((⟨#[109,117,108]⟩:Ψ).toList==(⟨#[112,114,105,110,116]⟩:Ψ).toList)=false:=fX al;have SX:((⟨#[109,117,108]⟩:Ψ).toList==(⟨#[97,100,100]⟩:Ψ).toList)=false:=fX al;have SY:((⟨#[109,117,108]⟩:Ψ).toList==(⟨#[115,117,98]⟩:Ψ).toList)=false:=fX al;have wT:((⟨#[109,117,108]⟩:Ψ).toList==(⟨#[109,117,108]⟩:Ψ).toList)=true:=qH _;have V:=A λW=>aFh a d g i M W X H I Y R T O;have U:=A λN S W=>acX N S W;have cp:=A L;obtain⟨b,o,rfl,G,⟨ca,cc,ra,rc,af⟩,g9,ho,h9,hQ,H⟩:=IU h;have x:=A (lu.start w (e3 B F y D fn dH ds ff gr E) 251);clear h L;go_enter K0,K2;go_wp2;generalize ((w.alloc (.cells (e3 B F y D fn dH ds ff gr E) 251)).alloc (.cells fo 44))=j at x|-;have f:=x.out.b;have jc:=cT f G;have c2:=aA f G af.c2;have c3:=aA f G af.c3;have C:=aA f G H.c2;have J:=aA f G H.c3;clear af H;have t:w.heap.size+1≠b:=z;have ry:j.drew.cell? ⟨b,o+2,none⟩=_:=c2;have wM:j.drew.cell? ⟨b,o+3,none⟩=_:=c3;have P:j.drew.cell? ⟨b,o+7+2,none⟩=_:=C;have Q:j.drew.cell? ⟨b,o+7+3,none⟩=_:=J;have l:=A jc;have sU:=A (x.out.K (lk j));clear f G;go_region_held3 (λaZ=>aZ ⟨b,o+2,none⟩=a/\aZ ⟨b,o+3,none⟩=g/\aZ ⟨b,o+7+2,none⟩=d/\aZ ⟨b,o+7+3,none⟩=i) (first|with_reducible exact⟨c2,c3,C,J⟩|with_reducible exact⟨ry,wM,P,Q⟩|with_reducible exact⟨s,r,q,n⟩|with_reducible exact⟨(fg t).trans s,(fg t).trans r,(fg t).trans q,(fg t).trans n⟩|go_keep) (first|(go_at_call 534;refine(V.out _).mono ?_;rintro e w3 ⟨⟨N,S,rfl,kq,uD,uE,w8⟩,c⟩;have Z:=A (sU.out.K c);have s:=aA c l c2;have r:=aA c l c3;have q:=aA c l C;have n:=aA c l J;have u:=cT c l;clear c)|(go_at_call 531;refine(U.out _ _ _).mono ?_;rintro e bh ⟨rfl,k⟩;have ec:=Z.out.K k;have s:=aA k u s;have r:=aA k u r;have q:=aA k u q;have n:=aA k u n;let⟨hf,dn,dR,fy,gG,hg,hj⟩:=eU ec.o;let⟨z0,cC,dC,z3,z4,z5,eJ⟩:=hp ec.o));exact aci
def aFT(s:Θ)(B r:Nat)(u fn dH ds:Int)(ff:Θ)(gr y:Nat)(aO:Ψ)(m:Nat)(c:Int)(g:Nat)(K:hC c g)(O:g<=3)(P:c.natAbs<=1000000000000)(H:∀(N:Int) (S:Nat),hC N S->N.natAbs<=c.natAbs->S<=1->e9 m (gR N S))(w:Γ)(C:Θ)(ac:Nat)(h:cm aD (aR aD 1) w C [gR c g]): χ 483 #[.string ⟨#[114,111,117,110,100]⟩,aO,.agg (e3 s B r u 1 dH ds ff gr y),.slice C 1 ac] w (e_ w m):=by have Nu:((⟨#[114,111,117,110,100]⟩:Ψ).toList==(⟨#[112,114,105,110,116]⟩:Ψ).toList)=false:=fX al;have SX:((⟨#[114,111,117,110,100]⟩:Ψ).toList==(⟨#[97,100,100]⟩:Ψ).toList)=false:=fX al;have SY:((⟨#[114,111,117,110,100]⟩:Ψ).toList==(⟨#[115,117,98]⟩:Ψ).toList)=false:=fX al;have YZ:((⟨#[114,111,117,110,100]⟩:Ψ).toList==(⟨#[109,117,108]⟩:Ψ).toList)=false:=fX al;have wT:((⟨#[114,111,117,110,100]⟩:Ψ).toList==(⟨#[114,111,117,110,100]⟩:Ψ).toList)=true:=qH _;have M:=A λW=>aIq c g W K O P;have L:=A λN S W=>acX N S W;have cp:=A H;clear H;have d:=A (lu.start w (e3 s B r u 1 dH ds ff gr y) 251);obtain⟨b,o,rfl,G,ca,cc,ra,rc,af⟩:=MH h;clear h;go_enter K0,K2;go_wp2;generalize ((w.alloc (.cells (e3 s B r u 1 dH ds ff gr y) 251)).alloc (.cells fo 44))=f at d|-;have j:=d.out.b;have U:=cT j G;have Q:=bM d.out.g;have bi:=aA j G af.c2;have c1:=aA j G af.c3;have c2:=(show f ⟨w,2,none⟩=(1:Int)from aN 2 d.out.g);have T:f.drew.cell? ⟨b,o+2,none⟩=_:=bi;have Y:f.drew.cell? ⟨b,o+3,none⟩=_:=c1;have V:f.drew.cell? ⟨w,2,none⟩=_:=c2;have D:w.heap.size+1≠b:=z;have Z:w.heap.size+1≠w.heap.size:=z;have x:=A U;have E:=A Q;have X:=A (d.out.K (lk f));clear j G;go_region_held3 (λaZ=>aZ ⟨b,o+2,none⟩=c/\aZ ⟨b,o+3,none⟩=g/\aZ ⟨w,2,none⟩=(1:Int)) (first|with_reducible exact⟨bi,c1,c2⟩|with_reducible exact⟨T,Y,V⟩|with_reducible exact⟨q,n,l⟩|with_reducible exact⟨(fg D).trans q,(fg D).trans n,(fg Z).trans l⟩|go_keep) (first|(go_at_call 535;refine(M.out _).mono ?_;rintro e w3 ⟨⟨N,S,rfl,kq,uD,uE,w8⟩,a⟩;have R:=A (X.out.K a);have q:=aA a x bi;have n:=aA a x c1;have l:=aA a E c2;have F:=cT a x;have I:=cT a E;clear a)|(go_at_call 531;refine(L.out _ _ _).mono ?_;rintro e bh ⟨rfl,k⟩;have ec:=R.out.K k;have q:=aA k F q;have n:=aA k F n;have l:=aA k I l;let⟨hf,dn,dR,fy,gG,hg,hj⟩:=eU ec.o;let⟨z0,cC,dC,z3,z4,z5,eJ⟩:=hp ec.o));exact aci
def aFP(l:Θ)(r k:Nat)(n fn dH ds:Int)(ff:Θ)(gr q:Nat)(aO:Ψ)(m:Nat)(a c:Int)(P:0<=a/\a<=3652058)(T:0<=c/\c<=3652058)(B:e9 m (gR (c-a) 0))(w:Γ)(s:Θ)(ac:Nat)(h:cm aD (aR aD 1) w s [kD a,kD c]): χ 483 #[.string ⟨#[98,101,116,119,101,101,110]⟩,aO,.agg (e3 l r k n fn dH ds ff gr q),.slice s 2 ac] w (e_ w m):=by have L:((⟨#[98,101,116,119,101,101,110]⟩:Ψ).toList==(⟨#[112,114,105,110,116]⟩:Ψ).toList)=false:=fX al;have M:((⟨#[98,101,116,119,101,101,110]⟩:Ψ).toList==(⟨#[97,100,100]⟩:Ψ).toList)=false:=fX al;have N:((⟨#[98,101,116,119,101,101,110]⟩:Ψ).toList==(⟨#[115,117,98]⟩:Ψ).toList)=false:=fX al;have O:((⟨#[98,101,116,119,101,101,110]⟩:Ψ).toList==(⟨#[109,117,108]⟩:Ψ).toList)=false:=fX al;have Q:((⟨#[98,101,116,119,101,101,110]⟩:Ψ).toList==(⟨#[114,111,117,110,100]⟩:Ψ).toList)=false:=fX al;have R:((⟨#[98,101,116,119,101,101,110]⟩:Ψ).toList==(⟨#[115,104,111,119]⟩:Ψ).toList)=false:=fX al;have S:((⟨#[98,101,116,119,101,101,110]⟩:Ψ).toList==(⟨#[100,97,121,115]⟩:Ψ).toList)=false:=fX al;have wT:((⟨#[98,101,116,119,101,101,110]⟩:Ψ).toList==(⟨#[98,101,116,119,101,101,110]⟩:Ψ).toList)=true:=qH _;have C:=A λW=>UT (c-a) 0 W;have D:=A B;have g1:IntKind.i64.wrap (c-a)=c-a:=pU _ ⟨z,z⟩;clear B;have d:=A (lu.start w (e3 l r k n fn dH ds ff gr q) 251);obtain⟨b,o,rfl,G,⟨ca,cc,ra,rc,af⟩,g9,ho,h9,hQ,H⟩:=IU h;clear h;go_enter K0,K2;go_wp2;generalize ((w.alloc (.cells (e3 l r k n fn dH ds ff gr q) 251)).alloc (.cells fo 44))=i at d|-;have f:=d.out.b;have I:=cT f G;have E:=bM d.out.g;have bi:=aA f G H.c4;have c1:=aA f G af.c4;have F:i.drew.cell? ⟨b,o+7+4,none⟩=_:=bi;have K:i.drew.cell? ⟨b,o+4,none⟩=_:=c1;have y:w.heap.size+1≠b:=z;have yC:w.heap.size+1≠w.heap.size:=z;have x:=A I;have hw:=A E;have J:=A (d.out.K (lk i));clear f G;go_region_held3 (λaZ=>aZ ⟨b,o+7+4,none⟩=c/\aZ ⟨b,o+4,none⟩=a) (first|with_reducible exact⟨bi,c1⟩|with_reducible exact⟨F,K⟩|with_reducible exact⟨u,t⟩|with_reducible exact⟨(fg y).trans u,(fg y).trans t⟩|go_keep) (first|(go_at_call 477;refine(C.out _).mono ?_;rintro e w3 ⟨rfl,j⟩;have g:=J.out.K j;have u:=aA j x bi;have t:=aA j x c1;let⟨hf,Y,X,fy,gG,hg,hj⟩:=eU g.o;let⟨z0,U,V,z3,z4,z5,Z⟩:=hp g.o));go_wp2;refine gd (j5 (fn:=f483) rfl _ _ (w.heap.size+1) 44 _ (0,0) _ _ rfl rfl (iJ g.o _ _ _ _ _ _ _) k2 rfl jk) rfl ?_;exact⟨e_.some _ _ _ (aR.jb _ 1 _ 2 bX (c-a) 0 0 none 0 none 0) D,iU g.b z _ _ _ _ _ _ _⟩
def aFR(C:Θ)(F B:Nat)(D fn dH ds:Int)(ff:Θ)(gr E:Nat)(aO:Ψ)(m:Nat)(l s:Int)(d f:Nat)(J:hC l d)(L:hC s f)(N:max d f<=3)(w:Γ)(I:Θ)(ac:Nat)(h:cm aD (aR aD 1) w I [gR l d,gR s f]): χ 483 #[.string ⟨#[108,101,115,115]⟩,aO,.agg (e3 C F B D fn dH ds ff gr E),.slice I 2 ac] w (e_ w m):=by have X:((⟨#[108,101,115,115]⟩:Ψ).toList==(⟨#[112,114,105,110,116]⟩:Ψ).toList)=false:=fX al;have Y:((⟨#[108,101,115,115]⟩:Ψ).toList==(⟨#[97,100,100]⟩:Ψ).toList)=false:=fX al;have Z:((⟨#[108,101,115,115]⟩:Ψ).toList==(⟨#[115,117,98]⟩:Ψ).toList)=false:=fX al;have YZ:((⟨#[108,101,115,115]⟩:Ψ).toList==(⟨#[109,117,108]⟩:Ψ).toList)=false:=fX al;have ae:((⟨#[108,101,115,115]⟩:Ψ).toList==(⟨#[114,111,117,110,100]⟩:Ψ).toList)=false:=fX al;have ag:((⟨#[108,101,115,115]⟩:Ψ).toList==(⟨#[115,104,111,119]⟩:Ψ).toList)=false:=fX al;have ah:((⟨#[108,101,115,115]⟩:Ψ).toList==(⟨#[100,97,121,115]⟩:Ψ).toList)=false:=fX al;have aa:((⟨#[108,101,115,115]⟩:Ψ).toList==(⟨#[98,101,116,119,101,101,110]⟩:Ψ).toList)=false:=fX al;have ab:((⟨#[108,101,115,115]⟩:Ψ).toList==(⟨#[101,113,117,97,108]⟩:Ψ).toList)=false:=fX al;have ad:((⟨#[108,101,115,115]⟩:Ψ).toList==(⟨#[98,101,102,111,114,101]⟩:Ψ).toList)=false:=fX al;have wT:((⟨#[108,101,115,115]⟩:Ψ).toList==(⟨#[108,101,115,115]⟩:Ψ).toList)=true:=qH _;have M:=A λW=>aiM l s d f (max d f) W J L rfl N _ rfl;have K:=A λb W=>asH b W;have k:=A (lu.start w (e3 C F B D fn dH ds ff gr E) 251);obtain⟨b,o,rfl,G,⟨ca,cc,ra,rc,af⟩,g9,ho,h9,hQ,H⟩:=IU h;clear h;go_enter K0,K2;go_wp2;generalize ((w.alloc (.cells (e3 C F B D fn dH ds ff gr E) 251)).alloc (.cells fo 44))=g at k|-;have c:=k.out.b;have R:=cT c G;have O:=bM k.out.g;have bi:=aA c G af.c2;have c1:=aA c G af.c3;have c2:=aA c G H.c2;have c3:=aA c G H.c3;have Q:g.drew.cell? ⟨b,o+2,none⟩=_:=bi;have U:g.drew.cell? ⟨b,o+3,none⟩=_:=c1;have S:g.drew.cell? ⟨b,o+7+2,none⟩=_:=c2;have V:g.drew.cell? ⟨b,o+7+3,none⟩=_:=c3;have x:w.heap.size+1≠b:=z;have yC:w.heap.size+1≠w.heap.size:=z;have j:=A R;have hw:=A O;have T:=A (k.out.K (lk g));clear c G;go_region_held3 (λaZ=>aZ ⟨b,o+2,none⟩=l/\aZ ⟨b,o+3,none⟩=d/\aZ ⟨b,o+7+2,none⟩=s/\aZ ⟨b,o+7+3,none⟩=f) (first|with_reducible exact⟨bi,c1,c2,c3⟩|with_reducible exact⟨Q,U,S,V⟩|with_reducible exact⟨u,t,r,n⟩|with_reducible exact⟨(fg x).trans u,(fg x).trans t,(fg x).trans r,(fg x).trans n⟩|go_keep) (first|(go_at_call 538;refine(M.out _).mono ?_;rintro e w3 ⟨rfl,a⟩;have P:=A (T.out.K a);have u:=aA a j bi;have t:=aA a j c1;have r:=aA a j c2;have n:=aA a j c3;have y:=cT a j;clear a;generalize Ey _=eA)|(go_at_call 479;refine(K.out _ _).mono ?_;rintro e bh ⟨⟨q,aE,rfl⟩,i⟩;have ec:=P.out.K i;have u:=aA i y u;have t:=aA i y t;have r:=aA i y r;have n:=aA i y n;let⟨hf,dn,dR,fy,gG,hg,hj⟩:=eU ec.o;let⟨z0,cC,dC,z3,z4,z5,eJ⟩:=hp ec.o));go_wp2;refine gd (j5 (fn:=f483) rfl _ _ (w.heap.size+1) 44 _ (0,0) _ _ rfl rfl (iJ ec.o _ _ _ _ _ _ _) k2 rfl jk) rfl ?_;exact aoO
def oS.acp(w:Γ)(n j:Nat):oS (w.alloc (.cells ((Array.replicate n (.bool false)).setIfInBounds j (.bool true)) 4)) w n:=
 ⟨aq,λi hi=>by
  by_cases e:i=j
  .subst e;exact⟨true,kQ (c7 w _) (by simp[hi])⟩
  .exact⟨false,kQ (c7 w _) (by rw[AC (it e)];simp[hi])⟩,λi=>cM (c7 w _)⟩
def aiE{w:Γ}{b o:Nat}{v:Φ}(h:w ⟨b,o,none⟩=some v):b<w.heap.size:=by
 unfold World.cell? at h;cases G:w.heap[b]? with
 |none=>simp[G]at h
 |some x=>exact(hl.1 G).1
def ahB(n:Nat)(e:Ending)(w':Γ):Prop:=∃g,e=.returned (.slice (some ⟨g,0,none⟩) n n)/\oS w' g n
def ajJ(s:ByteArray)(ae:s.size<=200)(aO:Option Addr)(bK:Nat)(cl:Int)(gs:cl=1∨cl=2)(fr:Nat)(mp:fr<=s.size)(w:World)(ag:p5 w aO cl): Calls prog 561 #[.slice aO 1 bK,.string s,.int .i64 fr] w λe w'=>ahB (s.size+1) e w'/\Below w.heap.size w w':=by
 have qf:∀W,(Instr.makeSlice 109 (.int .i64 ((s.size:Int)+1)) (.int .i64 ((s.size:Int)+1))).run prog W=.ok (.slice (some ⟨W.heap.size,0,none⟩) (s.size+1) (s.size+1)) (W.alloc (.cells (Array.replicate (s.size+1) (.bool false)) 4)):=λW=>by have:=aFb (s.size+1) z z W;rw[show((s.size+1:Nat):Int)=(s.size:Int)+1 by omega]at this;exact this
 have co:=A λc ab w=>aiq c ab cl z w;have bi:(cl==0)=false:=by rcases gs with rfl|rfl<;>rfl
 have gb:(s.size:Int)<=200:=z;have jg:(fr:Int)<=(s.size:Int):=z;have kV:(fr:Int)<(s.size:Int)+1:=z;have K:=oS.d_ w (s.size+1);obtain⟨fV,hc⟩:=K.2.1 fr z;have z0:=K.2.2 fr;have B:=A (oS.acp w (s.size+1) fr);clear K;go_enter func561,ntmps561
 go_wp2;have u:=A (fu w (.cells ((Array.replicate (s.size+1) (.bool false)).setIfInBounds fr (.bool true)) 4));clear hc z0 jg kV;generalize N:w.heap.size=q at*;generalize (w.alloc (.cells ((Array.replicate (s.size+1) (.bool false)).setIfInBounds fr (.bool true)) 4))=j at*;have hV:=ag.K (N▸u.out);obtain⟨pb,po,rfl,C,f,d,m,gB⟩:=hV.cells;refine AF 2 ?_;rw[pX]
 go_wp2;have a:=oS.d_ j (s.size+1);have b:=B.out.K (fu j (.cells (Array.replicate (s.size+1) (.bool false)) 4));have g:=u.out.alloc (N▸u.out.size) (.cells (Array.replicate (s.size+1) (.bool false)) 4);have bO:q≠j.heap.size:=by have:=B.out.1;omega
 have sZ:=A ((fu j (.cells (Array.replicate (s.size+1) (.bool false)) 4)).cell C |>.trans f);have vr:=A ((fu j (.cells (Array.replicate (s.size+1) (.bool false)) 4)).cell C |>.trans d);have wG:=A ((fu j (.cells (Array.replicate (s.size+1) (.bool false)) 4)).cell C |>.trans m);clear B f d m gB ag;have H:pb≠j.heap.size:=z;have TI:q<=j.heap.size:=by have:=u.out.size;omega
 clear u;generalize j.heap.size=l at*;generalize (j.alloc (.cells (Array.replicate (s.size+1) (.bool false)) 4))=ap at*;go_loopw [10] (λi wr=>∃k:Nat,k<=s.size+1/\i=.int .i64 k/\oS wr q (s.size+1)/\oS wr l (s.size+1)/\Below q w wr/\wr.cell? ⟨pb,po,none⟩=some (.int .i64 cl)/\wr.cell? ⟨pb,po+1,none⟩=some (.int .i64 1)/\wr.cell? ⟨pb,po+2,none⟩=some (.int .i64 200)) (λi _=>s.size+1-(RowKit.intOf i).toNat);case atStart=>exact⟨0,dh _,rfl,b,a,g,sZ.out,vr.out,wG.out⟩
 case round=>
  clear b a g sZ vr wG;obtain⟨k,ad,rfl,b,a,g,f,d,m⟩:=hrel;by_cases au:k<s.size+1
  ·have m':(0:Int)<=(k:Int):=z;have l4:(k:Int)<=(s.size:Int):=z;have pa:(k:Int)<(s.size:Int)+1:=z;obtain⟨x,aa⟩:=b.2.1 k au;have oH:=b.1;have em:=A b;have jZ:=A a;have lr:=A g;have sZ:=A f;have vr:=A d;have wG:=A m;have t:pb<wr.heap.size:=aiE f;cases x
   ·clear f d m b a g;exact acc
   ·clear d m b a g
    go_wp2;clear aa oH f;go_loopw [12] (λi r=>∃n:Nat,n<=201/\i=.int .i64 n/\oS r q (s.size+1)/\oS r l (s.size+1)/\Below q w r/\r.cell? ⟨pb,po,none⟩=some (.int .i64 cl)/\r.cell? ⟨pb,po+1,none⟩=some (.int .i64 1)/\r.cell? ⟨pb,po+2,none⟩=some (.int .i64 200)) (λi _=>201-(RowKit.intOf i).toNat);case atStart=>exact⟨0,dh _,rfl,em.out,jZ.out,lr.out,sZ.out,vr.out,wG.out⟩
    case round=>
     clear em jZ lr sZ vr wG t;obtain⟨n,ax,rfl,b,a,g,f,d,m⟩:=hrel;have t:pb<wr.heap.size:=aiE f;have em:=A b;have jZ:=A a;have lr:=A g;have sZ:=A f;have vr:=A d;have wG:=A m;have gF:(0:Int)<=(n:Int):=z;have i3:(n:Int)<=201:=z;by_cases aE:n<=200
     ·have od:(n:Int)<=200:=z;by_cases n9:k+n<=s.size
      ·have Pk:(k:Int)+(n:Int)<=(s.size:Int):=z;rcases Ro n with rfl|pG
       ·clear d b a g
        go_wp2;go_quiet (fail);have o:Below wr.heap.size wr (wr.drewN nq):=pV (bl _ _) _;have I:(wr.drewN nq).cell? ⟨pb,po+1,none⟩=some (.int .i64 1):=vr.out;have rW:pb<(wr.drewN nq).heap.size:=t
        go_wp2;go_roundw;case rel=>first|exact⟨1,z,bz,em.out.K o,jZ.out.K o,pV lr.out _,sZ.out,vr.out,wG.out⟩|((repeat apply Exists.intro);refine⟨?_,rfl⟩;exact⟨1,z,bz,em.out.K o,jZ.out.K o,below_drewN lr.out _,sZ.out,vr.out,wG.out⟩)
        case measure=>simp[RowKit.intOf]
       ·have aq:0<(n:Int):=z;have ah:(0:Int)<=(k:Int)+(n:Int)-1:=z;have ai:(1:Int)<=(k:Int)+(n:Int):=z;have aj:(k:Int)+(n:Int)-1<(s.size:Int):=z;have ak:(1:Int)<=(n:Int):=z;have al:(k:Int)+(n:Int)<(s.size:Int)+1:=z;have an:((k:Int)+(n:Int)-1).toNat=k+n-1:=z;have pd:((k:Int)+(n:Int)).toNat=k+n:=z;have af:k+n-1<s.size:=z;have tD:IntKind.i64.wrap ((k:Int)+(n:Int))=(k:Int)+(n:Int):=pU _ ⟨z,z⟩;have ao:IntKind.i64.wrap ((k:Int)+(n:Int)-1)=(k:Int)+(n:Int)-1:=pU _ ⟨z,z⟩;have mo:=(s[k+n-1]).toNat_lt;have oU:=A (co.out _ mo);obtain⟨y,Q⟩:=a.2.1 (k+n) z;have U:=a.2.2 (k+n);have Y:=A Q;have X:=A U;have Z:=a.1;clear d b a g Q U
        go_wp2;go_quiet (first|(go_at_call 464;exact Calls.quiet_of_same (oU.out _)));generalize Fx _ _=U6;have o:Below wr.heap.size wr (wr.drewN nq):=pV (bl _ _) _;have I:(wr.drewN nq).cell? ⟨pb,po+1,none⟩=some (.int .i64 1):=vr.out;have rW:pb<(wr.drewN nq).heap.size:=t;have n6:l<(wr.drewN nq).heap.size:=Z;have M:=A (em.out.K o);have D:=A (jZ.out.K o);have L:=A (pV lr.out nq);have E:Hid ((wr.drewN nq).cell? ⟨pb,po,none⟩=some (.int .i64 cl)):=A sZ.out;have F:Hid ((wr.drewN nq).cell? ⟨pb,po+2,none⟩=some (.int .i64 200)):=A wG.out;have dz:(wr.drewN nq).cell? ⟨l,k+n,none⟩=some (.bool y):=Y.out;have cC:(wr.drewN nq).frozen? ⟨l,k+n,none⟩=false:=X.out;clear em jZ lr sZ vr wG o Y X t Z;generalize wr.drewN nq=J at*;have G:=A I;cases U6
        ·go_wp2;go_roundw;case rel=>first|exact⟨k+1,z,bz,M.out,D.out,L.out,E.out,G.out,F.out⟩|((repeat apply Exists.intro);refine⟨?_,rfl⟩;exact⟨k+1,z,bz,M.out,D.out,L.out,E.out,G.out,F.out⟩)
         case measure=>simp[RowKit.intOf];omega
        ·have O:=A (M.out.aIX l (k+n) (it bO) (.bool true));have P:=A (D.out.set (k+n) z true);have V:=A (L.out.setCell (p:=⟨l,k+n,none⟩) TI (.bool true));have R:=A ((ve J ⟨l,k+n,none⟩ ⟨pb,po,none⟩ (.bool true) (it H)).trans E.out);have S:=A ((ve J ⟨l,k+n,none⟩ ⟨pb,po+1,none⟩ (.bool true) (it H)).trans G.out);have T:=A ((ve J ⟨l,k+n,none⟩ ⟨pb,po+2,none⟩ (.bool true) (it H)).trans F.out)
         go_wp2;clear dz cC I;go_roundw;case rel=>first|exact⟨n+1,z,bz,O.out,P.out,V.out,R.out,S.out,T.out⟩|((repeat apply Exists.intro);refine⟨?_,rfl⟩;exact⟨n+1,z,bz,O.out,P.out,V.out,R.out,S.out,T.out⟩)
         case measure=>simp[RowKit.intOf];omega
      ·have Pk:¬(k:Int)+(n:Int)<=(s.size:Int):=z;clear f d b a g;exact acc
     ·have od:¬(n:Int)<=200:=z;clear f d b a g;exact acc
  ·have pa:¬(k:Int)<=(s.size:Int):=z;clear f d m
   go_wp2;rw[pX]
   go_wp2;go_ret;exact⟨⟨_,rfl,a⟩,N▸g⟩
end Go.bE
namespace Go.bk.N
open Go Go.Proofs.Tryz Go.cE Go.Proofs Go.di Go.aM
def Bb:U:=.slice 20 0 1 3 none
def nY:my:=[(13,.aK 9 [.str [99,111,100,101],.str [112,114,105,99,101],.str [110,97,109,101]]),(16,.aK 44 [.int .i64 (.ofNat 1),.str [65],.int .i64 (.ofNat 0),.int .i64 (.ofNat 0),.int .i64 (.ofNat 0),.dM,.dM,.int .i64 (.ofNat 2),.str [],.int .i64 (.ofNat 25),.int .i64 (.ofNat 1),.int .i64 (.ofNat 0),.dM,.dM,.int .i64 (.ofNat 1),.str [97,112,112,108,101],.int .i64 (.ofNat 0),.int .i64 (.ofNat 0),.int .i64 (.ofNat 0),.dM,.dM]),(17,.aK 44 [.int .i64 (.ofNat 1),.str [66],.int .i64 (.ofNat 0),.int .i64 (.ofNat 0),.int .i64 (.ofNat 0),.dM,.dM,.int .i64 (.ofNat 2),.str [],.int .i64 (.ofNat 3),.int .i64 (.ofNat 0),.int .i64 (.ofNat 0),.dM,.dM,.int .i64 (.ofNat 1),.str [98,114,101,97,100],.int .i64 (.ofNat 0),.int .i64 (.ofNat 0),.int .i64 (.ofNat 0),.dM,.dM]),(18,.aK 45 [.slice 16 0 3 7 none,.slice 17 0 3 7 none]),(20,.aK 111 [.str [112,114,105,99,101,115],.slice 13 0 3 1 none,.slice 18 0 2 1 none])]
def mP:c8:=⟨⟨#[116,101,120,116,115]⟩,1,[(⟨#[97]⟩,1),(⟨#[98]⟩,1)],[(⟨#[84]⟩,1),(⟨#[85]⟩,1)],[⟨0,⟨#[99,111,108]⟩,⟨#[97]⟩,[]⟩,⟨0,⟨#[99,111,108]⟩,⟨#[98]⟩,[]⟩,⟨0,⟨#[99,111,110,99,97,116]⟩,⟨#[]⟩,[1,0]⟩,⟨0,⟨#[117,112,112,101,114]⟩,⟨#[]⟩,[1]⟩,⟨1,⟨#[99,111,108]⟩,⟨#[97]⟩,[]⟩,⟨1,⟨#[116,101,120,116]⟩,⟨#[45]⟩,[]⟩,⟨1,⟨#[101,120,116,114,97,99,116]⟩,⟨#[92,100,43,35,49]⟩,[1]⟩],0,[[0,2,2,6,10,22],[0,2,2,2,2,2]]⟩
def mQ:c8:=⟨⟨#[110,117,109,98,101,114,115]⟩,1,[(⟨#[110]⟩,2),(⟨#[109]⟩,2)],[(⟨#[78]⟩,2),(⟨#[77]⟩,2)],[⟨0,⟨#[99,111,108]⟩,⟨#[110]⟩,[]⟩,⟨0,⟨#[99,111,108]⟩,⟨#[109]⟩,[]⟩,⟨0,⟨#[97,100,100]⟩,⟨#[]⟩,[1,0]⟩,⟨0,⟨#[109,117,108]⟩,⟨#[]⟩,[0,1]⟩,⟨1,⟨#[110,117,109,98,101,114]⟩,⟨#[50]⟩,[]⟩,⟨1,⟨#[99,111,108]⟩,⟨#[109]⟩,[]⟩,⟨1,⟨#[114,111,117,110,100]⟩,⟨#[49]⟩,[1]⟩],0,[[0,2,0,8,8,40],[0,2,2,2,2,2]]⟩
def mu:c8:=⟨⟨#[100,97,116,101,115]⟩,1,[(⟨#[100]⟩,3),(⟨#[101]⟩,3),(⟨#[110]⟩,2)],[(⟨#[68]⟩,3),(⟨#[78]⟩,2),(⟨#[69]⟩,3)],[⟨0,⟨#[99,111,108]⟩,⟨#[100]⟩,[]⟩,⟨0,⟨#[100,97,121,115]⟩,⟨#[]⟩,[0,1]⟩,⟨1,⟨#[99,111,108]⟩,⟨#[110]⟩,[]⟩,⟨1,⟨#[110,117,109,98,101,114]⟩,⟨#[55]⟩,[]⟩,⟨1,⟨#[98,101,116,119,101,101,110]⟩,⟨#[]⟩,[2,2]⟩,⟨2,⟨#[99,111,108]⟩,⟨#[100]⟩,[]⟩,⟨2,⟨#[99,111,108]⟩,⟨#[101]⟩,[]⟩],0,[[0,1,0,2,0,8],[0,2,0,4,0,0],[0,2,0,0,0,0]]⟩
def om:c8:=⟨⟨#[108,111,111,107,117,112,115]⟩,1,[(⟨#[99,111,100,101]⟩,1),(⟨#[110]⟩,2)],[(⟨#[78]⟩,2),(⟨#[84]⟩,1)],[⟨0,⟨#[108,111,111,107,117,112]⟩,⟨#[112,114,105,99,101,115,46,99,111,100,101,46,112,114,105,99,101,58,110,117,109,98,101,114]⟩,[1]⟩,⟨0,⟨#[99,111,108]⟩,⟨#[110]⟩,[]⟩,⟨0,⟨#[109,117,108]⟩,⟨#[]⟩,[0,0]⟩,⟨1,⟨#[99,111,108]⟩,⟨#[99,111,100,101]⟩,[]⟩,⟨1,⟨#[117,112,112,101,114]⟩,⟨#[]⟩,[1]⟩,⟨1,⟨#[116,101,120,116]⟩,⟨#[65]⟩,[]⟩],0,[[0,1,2,3,6,12],[0,2,2,2,2,2]]⟩
def lp:c8:=⟨⟨#[99,104,111,105,99,101,115]⟩,1,[(⟨#[115]⟩,1),(⟨#[110]⟩,2)],[(⟨#[84]⟩,1),(⟨#[66]⟩,4),(⟨#[78]⟩,2),(⟨#[67]⟩,1)],[⟨0,⟨#[99,111,108]⟩,⟨#[115]⟩,[]⟩,⟨0,⟨#[116,101,120,116]⟩,⟨#[108,111,119]⟩,[]⟩,⟨0,⟨#[105,102]⟩,⟨#[116,101,120,116]⟩,[1,3,0]⟩,⟨1,⟨#[108,101,115,115]⟩,⟨#[]⟩,[2,2]⟩,⟨1,⟨#[109,97,116,99,104]⟩,⟨#[92,117,43]⟩,[3]⟩,⟨2,⟨#[99,111,108]⟩,⟨#[110]⟩,[]⟩,⟨2,⟨#[110,117,109,98,101,114]⟩,⟨#[49,48]⟩,[]⟩,⟨3,⟨#[99,111,108]⟩,⟨#[115]⟩,[]⟩,⟨3,⟨#[116,101,120,116]⟩,⟨#[104,105,103,104]⟩,[]⟩],0,[[0,2,0,0,0,8],[0,0,2,4,0,0],[0,2,0,0,0,0],[0,2,0,0,0,0]]⟩
def nb:c8:=⟨⟨#[116,97,98,108,101,115]⟩,1,[(⟨#[105,116,101,109,115]⟩,5),(⟨#[107]⟩,1)],[(⟨#[78]⟩,2),(⟨#[88]⟩,5),(⟨#[84]⟩,1)],[⟨0,⟨#[115,117,109]⟩,⟨#[97,109,111,117,110,116,62,61,48]⟩,[1]⟩,⟨0,⟨#[99,111,117,110,116]⟩,⟨#[]⟩,[1]⟩,⟨0,⟨#[97,100,100]⟩,⟨#[]⟩,[0,0]⟩,⟨1,⟨#[99,111,108]⟩,⟨#[105,116,101,109,115]⟩,[]⟩,⟨1,⟨#[119,104,101,114,101]⟩,⟨#[107,105,110,100]⟩,[1,2]⟩,⟨2,⟨#[99,111,108]⟩,⟨#[107]⟩,[]⟩,⟨2,⟨#[116,101,120,116]⟩,⟨#[97]⟩,[]⟩],0,[[0,0,2,0,4,4],[0,1,0,2,0,4],[0,2,0,0,0,0]]⟩
def ars(b:Nat)(r:bD):Bool:=Nat.blt r.h b&&Nat.ble r.args.length 3&&r.args.all (λa=>Nat.blt a b)&&Nat.ble r.op.size 60&&Nat.ble r.aO.size 60
def ar5(S:c8):Bool:=Nat.ble S.nm.size 60&&Nat.ble S.dk 1000000000&&Nat.blt 0 S.bB.length&&Nat.ble S.bB.length 8&&S.bB.all (λc=>Nat.ble c.1.size 60)&&Nat.blt 0 S.aJ.length&&Nat.ble S.aJ.length 12&&S.aJ.all (λc=>Nat.ble c.1.size 60)&&Nat.ble S.dp.length 40&&Nat.blt S.an S.aJ.length&&aco S.bQ S.dp&&S.dp.all (ars S.aJ.length)
def KI{S:c8}(h:ar5 S=true):rx S:=by simp only[ar5,dW]at h;let⟨⟨⟨⟨⟨⟨⟨⟨⟨⟨⟨H,I⟩,i⟩,e⟩,l⟩,u⟩,w⟩,t⟩,y⟩,z⟩,d⟩,x⟩:=h;have k:∀n,n<=60->n<=maxLen:=λn j=>c6 j al;refine⟨k _ (by simpa using H),by simpa using I,by simpa using i,by simpa using e,λc b=>k _ (by simpa using iq.1 l c b),by simpa using u,by simpa using w,λc b=>k _ (by simpa using iq.1 t c b),by simpa using y,by simpa using z,aFs d,λr g=>?_⟩;have:=iq.1 x r g;simp only[ars,dW]at this;let⟨⟨⟨⟨f,o⟩,m⟩,s⟩,q⟩:=this;exact⟨by simpa using f,by simpa using o,λa aL=>by simpa using iq.1 m a aL,k _ (by simpa using s),k _ (by simpa using q)⟩
def cG(n:Nat):c8:=if n=0 then mP else if n=1 then mQ else if n=2 then mu else if n=3 then om else if n=4 then lp else nb
def aJn:rx mP:=KI aw
def aJo:rx mQ:=KI aw
def aJp:rx mu:=KI aw
def aJq:rx om:=KI aw
def aJr:rx lp:=KI aw
def aJs:rx nb:=KI aw
def Qb(n:Nat):rx (cG n):=by unfold cG;split;exact aJn;split;exact aJo;split;exact aJp;split;exact aJq;split;exact aJr;exact aJs
def py(s:Ψ):U:=.str (s.data.toList.map UInt8.toNat)
def so:List (Ψ×Nat)->List U
 |[]=>[]
 |c::l=>py c.1::.int .i64 (.ofNat c.2)::so l
def ana:U->Bool
 |.int .i64 _=>true
 |_=>false
def aby(h:ay):U->Bool
 |.dM=>true
 |.slice b 0 l 1 _=>Nat.ble l 100&&(match h.cW b with|some (.cells _ vs _ _)=>Nat.ble l vs.length&&(vs.take l).all ana|_=>false)
 |_=>false
def asJ(l:my)(x:Option (U×ay)):Bool:=match x with
 |some (.tup [a,.int .i64 _,.int .i64 _],h)=>st h l&&aby h a
 |_=>false
def ws(S:c8):my:=nY++[(21,.aK 141 (so S.bB))]
noncomputable def ad'(S:c8)(r:bD):Option (U×ay):=(i0 prog km j6.find 300).call 120 [py r.op,py r.aO,Bb,.slice 21 0 S.bB.length 2 none] (hA ⟨.e,22⟩ (ws S))
noncomputable def Au(S:c8):Bool:=S.dp.all λr=>asJ (ws S) (ad' S r)
def aim(x:Option (U×ay)):Bool:=match x with
 |some (v,h)=>U.beq v Bb&&Nat.beq h.nx 21&&KA h nY
 |none=>false
def aK3:Au mP=true:=aw
def aw4:aim ((i0 prog km j6.find 300).call 22 [.dM] (hA ⟨.e,13⟩ []))=true:=aw
end Go.bk.N
namespace Go.bk.N
open Go Go.cE Go.Proofs Go.di Go.aM
def aK4:Au mQ=true:=aw
def aK5:Au mu=true:=aw
def aK6:Au om=true:=aw
def aK7:Au lp=true:=aw
def aK8:Au nb=true:=aw
end Go.bk.N
namespace Go.bk.N
open Go Go.Proofs.Tryz Go.cE Go.Proofs Go.RowKit Go.di Go.aM
def ol:b9:=λg=>if g<13 then some ⟨g,0,0⟩else none
def G_(l:Nat->Option Loop)(ai:Nat->Nat×Nat)(t:Nat->Ω):∃ρ:cj,ρ.ql=l/\ρ.bd=ai/\ρ.Ar=t:=⟨⟨λ_=>undef,l,ai,t⟩,rfl,rfl,rfl⟩
def aLO(n:Nat):Au (cG n)=true:=by unfold cG;split;exact aK3;split;exact aK4;split;exact aK5;split;exact aK6;split;exact aK7;exact aK8
def l_(w:Γ)(v:Φ):Prop:=∃(ρ:cj) (σ:b9) (h:ay),ρ.ql=nH prog/\kM prog σ/\c_ ρ σ h w/\h.nx=21/\KA h nY=true/\aT ρ σ Bb=some v
variable{w:Γ}
def l_.K{w':Γ}{v:Φ}(h:l_ w v)(G:β w w'):l_ w' v:=by let⟨ρ,σ,h,H,I,b,a⟩:=h;exact⟨ρ,σ,h,H,I,b.K G,a⟩
def Be(ρ:cj)(σ:b9)(s:Ψ):aT ρ σ (py s)=s:=by
 have H:(s.data.toList.map UInt8.toNat).all (λn=>decide (n<256))=true:=by simp only[iq,AJ,decide_eq_true_eq];rintro x ⟨c,_,rfl⟩;exact Rs c
 have I:e2 (s.data.toList.map UInt8.toNat)=s:=by
  cases s with
  |mk d=>
   simp only[e2,H5];have:(UInt8.ofNat∘UInt8.toNat)=id:=by funext x;simp
   simp[this]
 simp only[py,aT];rw[ci H,I]
def wN:List (Ψ×Nat)->List Φ
 |[]=>[]
 |c::l=>.string c.1::.int .i64 c.2::wN l
def aiW(ρ:cj)(σ:b9):∀cs,b5 ρ σ (so cs)=some (wN cs)
 |[]=>by simp[so,wN,b5]
 |c::l=>by simp[so,wN,b5,Be,aT,aiW ρ σ l]
def aiT{arr:Ω}:∀(cs:List (Ψ×Nat)) (o:Nat),(∀i (hi:i<cs.length),arr[o+i*2]? =some (.string cs[i].1)/\arr[o+i*2+1]? =some (.int .i64 cs[i].2))->∀i,i<(wN cs).length->arr[o+i]? =(wN cs)[i]?
 |[],o,h,i,hi=>by simp[wN]at hi
 |c::l,o,h,i,hi=>by
  match i with
  |0=>have af:=(h 0 (CP _)).1;simp only[vh,hY]at af|-;exact af
  |1=>have af:=(h 0 (CP _)).2;simp only[vh,hY]at af|-;exact af
  |i+2=>
   have b:=aiT l (o+2) (λj a=>by
    have:=h (j+1) (by simpa using a)
    simp only[H2]at this
    rw[show o+2+j*2=o+(j+1)*2 by omega]
    exact this) i (by simp[wN]at hi;omega)
   rw[show o+(i+2)=o+2+i by omega,b]
   simp[wN]
def aiS:∀cs,(so cs).length=(wN cs).length
 |[]=>rfl
 |c::l=>by simp[so,wN,aiS l]
def av8(e:Ending)(w':Γ):Prop:=∃a iZ ac k b,e=.returned (.tuple #[.slice a iZ ac,.int .i64 k,.int .i64 b])/\Db w' a iZ
def aDr{ρ:cj}{σ:b9}{h:ay}{a:U}{c:Φ}(hi:aby h a=true)(y:c_ ρ σ h w)(d:aT ρ σ a=some c):∃g iZ ac,c=.slice g iZ ac/\Db w g iZ:=by
 unfold aby at hi;split at hi;simp only[aT,cx]at d;subst d;exact⟨none,0,0,rfl,z,λh=>z⟩
 .rename_i b l cap;simp only[aT,iW]at d;obtain⟨p,ag,rfl⟩:=d;simp only[dW]at hi;let⟨H,I⟩:=hi;have H:l<=100:=by simpa using H
  split at I
  .rename_i e vs t wr G;simp only[dW]at I;let⟨I,s⟩:=I;have I:l<=vs.length:=by simpa using I
   let⟨q,arr,bd,cs,m,o,D,C,E,A,B,_⟩:=y.cells G;obtain rfl:p=q:=gm (ag.symm.trans m);refine⟨_,_,_,rfl,z,λ_=>⟨p.ba,p.del+0,rfl,(hl.1 o).1,λi hi=>?_⟩⟩;have au:i<vs.length:=z;have J:ana vs[i]=true:=iq.1 s _ (by
    rw[ES]
    exact⟨i,by rw[pk,ci hi];simp[au]⟩)
   let⟨x,r,f⟩:=zq A (i:=i) (v:=vs[i]) (by simp[au]);have j:=B i au;rw[r]at j;generalize vs[i]=u at J f;cases u with
   |int k n=>
    cases k with
    |i64=>simp only[aT,cx]at f;subst f;exact⟨n,by rw[hY];exact j⟩
    |_=>cases J
   |_=>cases J
  cases I
 cases hi
def ajX:km 120=none:=aw
def azi:km 22=none:=aw
def azg:km 17=none:=aw
def He:pR nY=true:=aw
def aFH(l:my):Bool:=l.all λp=>match p.2 with|.aK e _=> !(Nat.beq e 141)|_=>false
def aFI:aFH nY=true:=aw
def ar0{a b:my}(H:pR a=true)(I:pR b=true):pR (a++b)=true:=by simp only[pR,List.all_append,dW];exact⟨H,I⟩
def aLP(S:c8)(L:Au S=true)(r:bD)(A:r∈S.dp)(w:Γ)(bA:Φ)(ca:Θ)(cc:Nat)(D:l_ w bA)(F:jy w ca S.bB): Calls prog 120 #[.string r.op,.string r.aO,bA,.slice ca S.bB.length cc] w λe w'=>av8 e w'/\β w w':=by
 obtain⟨ρ,σ,h,M,ar,bV,V,rL,JD⟩:=D;obtain⟨dw,o,arr,bd,rfl,mI,O⟩:=F;have mp:∀b,21<=b->σ b=none:=λb G=>bV.kn b z;have C:∀b p,σ b=some p->b≠21:=λb p G e=>by rw[e,mp 21 z]at G;cases G
 obtain⟨kw,zX⟩:∃kw:b9,kw=λb=>if b=21 then some ⟨dw,o,2*cc⟩else σ b:=⟨_,rfl⟩
 have aa:mV σ kw:=λb p G=>by rw[zX];simp only;rw[bo (C b p G)];exact G
 have NP:kw 21=some ⟨dw,o,2*cc⟩:=by rw[zX];simp
 have kH:pR (ws S)=true:=ar0 He (by simp[pR,eG]);have m:Dp (ws S)=true:=by exact apf
 have base:∀b x,(b,x)∈nY->∃p e vs,x=.aK e vs/\σ b=some p/\e≠141/\(∃arr bd,w.heap[p.ba]? =some (.cells arr e bd))/\kA (ρ.at w) σ p w.heap[p.ba]? (.aK e vs):=λb x av=>by exact ao1
 have pe:∀b x,(hA ⟨.e,22⟩ (ws S)).cW b=some x->(b,x)∈nY∨(b=21/\x=.aK 141 (so S.bB)):=λb x G=>by exact aoS
 have aaq:nv w dw=arr:=by simp[nv,mI]
 have vO:qM w dw=bd:=by simp[qM,mI]
 have s:c_ (ρ.at w) kw (hA ⟨.e,22⟩ (ws S)) w:=by exact aof
 have R:kM prog kw:=λg T=>by obtain⟨n,B⟩:=ar g T;exact⟨n,aa _ _ B⟩
 have N:b5 (ρ.at w) kw [py r.op,py r.aO,Bb,.slice 21 0 S.bB.length 2 none]=some [.string r.op,.string r.aO,bA,.slice (some ⟨dw,o,none⟩) S.bB.length cc]:=by exact an3
 have d:=iq.1 L r A;unfold asJ at d;split at d
 .rename_i a k Q U P;simp only[dW]at d;refine(Al follows (ρ:=ρ.at w) M (k6.rB tN) uw ajX R N kH m s P d.1).mono ?_;rintro e w' ⟨c,E,rfl,j⟩;refine⟨?_,j.b⟩;have J:=j.v;simp only[aT,iW]at J;obtain⟨x,f,rfl⟩:=J;simp only[b5]at f;cases l:aT (ρ.at w) E a with
  |none=>rw[l]at f;simp at f
  |some y=>rw[l]at f;simp only[aT,cx]at f;subst f;obtain⟨u,iZ,ac,rfl,K⟩:=aDr d.2 j.h l;exact⟨u,iZ,ac,k,Q,rfl,K⟩
 .cases d
def ain(w:Γ)(s:13<=w.heap.size):χ 22 #[.slice none 0 0] w λe w'=>(∃v,e=.returned v/\l_ w' v):=by
 let⟨ρ,f,_⟩:=G_ (nH prog) (λ_=>(0,0)) (λ_=>#[]);have ar:kM prog ol:=λg ar=>⟨0,by
  have:prog.globals.size=13:=aw
  rw[this]at ar
  simp[ol,ar]⟩
 have o:c_ ρ ol (hA ⟨.e,13⟩ []) w:=by exact ab3
 have a:=aw4;unfold aim at a;split at a;rename_i v i j;simp only[dW]at a;let⟨⟨H,I⟩,k⟩:=a;have H:=U.beq_eq H;subst H;refine(Al follows (ρ:=ρ) f (k6.rB tN) uw azi ar (args:=[.dM]) (cs:=[.slice none 0 0]) rfl (l:=[]) rfl rfl o j rfl).mono ?_;rintro e w' ⟨c,q,rfl,d⟩;exact⟨⟨c,rfl,ρ,q,i,f,λg r=>by let⟨n,m⟩:=ar g r;exact⟨n,d.ext _ _ m⟩,d.h,gK I,k,d.v⟩,d.b⟩;cases a
end Go.bk.N
namespace Go.bE
open Go Go.Proofs.Tryz Go.cE Go.Proofs Go.RowKit Go.aM
open Go.bk.N (ol G_)
def ako:prog.globals.size=13:=aw
def aIe(w:Γ)(b o tot t:Nat)(arr:Ω)(bd:Nat×Nat)(j:w.heap[b]? =some (.cells arr t bd))(vs:List U)(d:List Φ)(l:∀ρ σ,b5 ρ σ vs=some d)(s:pR [(13,eK.aK t vs)]=true)(B:∀i,i<vs.length->arr[o+i]? =d[i]?):∃(ρ:cj) (σ:b9),ρ.ql=nH prog/\kM prog σ/\c_ ρ σ (hA ⟨.e,14⟩ [(13,eK.aK t vs)]) w/\σ 13=some ⟨b,o,tot⟩:=by
 let⟨m,r,_⟩:=G_ (nH prog) (λ_=>(0,0)) (λ_=>#[]);obtain⟨c,e⟩:∃c:b9,c=λx=>if x=13 then some ⟨b,o,tot⟩else ol x:=⟨_,rfl⟩
 have f:c 13=some ⟨b,o,tot⟩:=by rw[e];simp
 have pe:∀x y,(hA ⟨.e,14⟩ [(13,eK.aK t vs)]).cW x=some y->x=13/\y=.aK t vs:=λx y a=>by have H:=Af s a;simp only[oQ,iX]at H;exact H
 refine⟨m.at w,c,r,λg k=>⟨0,by rw[ako]at k;rw[e];simp only;rw[bo z];simp[ol,k]⟩,⟨λx y a=>?_,λx q y u p C a A ag D n=>?_,λx a=>?_⟩,f⟩;obtain⟨rfl,rfl⟩:=pe x y a;refine⟨_,f,d,l _ _,?_,λi hi=>?_⟩;show w.heap[b]? =some (Obj.cells (nv w b) t (qM w b));simp[nv,qM,j];show(nv w b)[o+i]? =_;simp only[nv,j];exact B i hi;obtain⟨rfl,_⟩:=pe x y a;obtain⟨rfl,_⟩:=pe q u A;exact absurd rfl n;rw[G8]at a;have a:14<=x:=a;rw[e];simp only;rw[bo z];unfold ol;rw[bo z]
def Eu(cl:Nat):List U:=[.int .i64 (.ofNat cl),.int .i64 (.ofNat 1),.int .i64 (.ofNat 200),.str []]
def Sw(l:my)(x:Option (U×ay)):Bool:=match x with
 |some (.bool _,h)=>st h l
 |_=>false
def azl:km 471=none:=aw
def aHL:Sw [(13,.aK 299 (Eu 1))] ((i0 prog km j6.find 300).call 471 [.slice 13 0 1 4 none] (hA ⟨.e,14⟩ [(13,.aK 299 (Eu 1))]))=true:=aw
def aHM:Sw [(13,.aK 299 (Eu 2))] ((i0 prog km j6.find 300).call 471 [.slice 13 0 1 4 none] (hA ⟨.e,14⟩ [(13,.aK 299 (Eu 2))]))=true:=aw
def arh(n:Nat)(a:Sw [(13,.aK 299 (Eu n))] ((i0 prog km j6.find 300).call 471 [.slice 13 0 1 4 none] (hA ⟨.e,14⟩ [(13,.aK 299 (Eu n))]))=true)(w:Γ)(aO:Θ)(d:Nat)(ag:p5 w aO (n:Int)): χ 471 #[.slice aO 1 d] w λe w'=>LF e:=by
 obtain⟨b,o,arr,bd,rfl,p,af,H,I,h⟩:=ag;let⟨ρ,σ,k,ar,j,g⟩:=aIe w b o (4*d) 299 arr bd p (Eu n) [n,.int .i64 1,.int .i64 200,.string ⟨#[]⟩] (λρ σ=>by simp[Eu,b5,aT,e2]) (by simp[pR,eG]) (λi hi=>by
  have hi:i<4:=hi
  match i with
  |0=>exact af
  |1=>exact H
  |2=>exact I
  |3=>exact h)
 have l:b5 ρ σ [.slice 13 0 1 4 none]=some [.slice (some ⟨b,o,none⟩) 1 d]:=by simp only[b5,aT,g,ov,jP];simp
 unfold Sw at a;split at a;rename_i r q m;refine(Al follows (ρ:=ρ) k (k6.rB tN) uw azl ar l (by simp[pR,eG]) (by simp[Dp,eK.Uk]) j m a).mono ?_;rintro e w' ⟨c,s,rfl,f⟩;have J:=f.v;simp only[aT,cx]at J;exact⟨⟨_,by rw[<-J]⟩,f.b⟩;cases a
def arf(cl:Int)(b:cl=1∨cl=2)(w:Γ)(aO:Θ)(a:Nat)(ag:p5 w aO cl): χ 471 #[.slice aO 1 a] w λe w'=>LF e:=by rcases b with rfl|rfl;exact arh 1 aHL w aO a ag;exact arh 2 aHM w aO a ag
end Go.bE
namespace Go.bE
open Go Go.Proofs.Tryz Go.Proofs Go.RowKit Go.Lib Go.aM
def LC(m:Nat)(aH:List Φ):Prop:=0<aH.length->∃(x y:Nat) (l:List Φ),aH=.int .i64 x::.int .i64 y::l/\x<=y/\y<=m
def LC.push{m x y:Nat}{aH:List Φ}(h:LC m aH)(d:x<=y)(c:y<=m):LC m (aH++[.int .i64 x,.int .i64 y]):=λ_=>by
 by_cases af:0<aH.length
 .obtain⟨a,b,l,rfl,H,I⟩:=h af
  exact⟨a,b,l++[.int .i64 x,.int .i64 y],rfl,H,I⟩
 .have:aH=[]:=CL z
  subst this
  exact⟨x,y,[],rfl,d,c⟩
def avL(base m:Nat)(e:Ending)(w':Γ):Prop:=∃v n aH,e=.returned v/\w'.ownsRow base 3 1 v n aH/\LC m aH/\n<=1000
variable{w:Γ}{e:TypeId}{v:Φ}{n:Nat}{aH:List Φ}
def aqb{base:Nat}{size:Nat}(h:w.ownsRow base e size v n aH):∃a c,v=.slice a n c:=by
 rcases h.2 with⟨b,d⟩|⟨i,cap,g,ak,f,_⟩
 rw[d];exact⟨_,_,b⟩;exact⟨_,_,ak⟩
def aGJ{base:Nat}{size:Nat}(h:w.ownsRow base e size v n aH):∀b,v.ownBlock=some b->base<=b:=λb G=>by
 rcases h.2 with⟨c,_⟩|⟨i,cap,g,ak,a,d,f⟩
 .subst c;simp[Value.ownBlock]at G
 .subst ak;simp[Value.ownBlock]at G;subst G;exact a
def azz(s:Ψ)(D:s.size<=200)(aO:Θ)(j:Nat)(cl:Int)(u:cl=1∨cl=2)(w:Γ)(ag:p5 w aO cl): Calls prog 560 #[.slice aO 1 j,.string s] w λe w'=>avL w.heap.size s.size e w'/\β w w':=by
 obtain⟨jg,Q,O,P,N⟩:=iz Ug;have V:=A (arf cl u w aO j ag);have S:=A λW=>anc s D W;have ia:=A λW (R:β w W) fr (mp:fr<=s.size)=>ajJ s D aO j cl u fr mp W (ag.K R);have gb:(s.size:Int)<=200:=z;clear ag u;go_enter func560,ntmps560
 go_wp2_with (first
  |(go_at_call 471;refine(V.out).mono ?_;rintro e am ⟨⟨Z,rfl⟩,E⟩;have y:=A E;clear E;cases Z)
  |(go_at_call 281;refine(S.out _).mono ?_;rintro e ap ⟨⟨dy,rfl⟩,rfl⟩;cases dy))
 all_goals first|(go_ret;exact⟨⟨_,0,[],rfl,ne _ _ _ _,λh=>absurd h aq,z⟩,y.out⟩)|skip
 go_loopw [5,6,7,8] (λout kP l f wr=>∃(k n:Nat) (aH:List Φ),k<=s.size/\kP=.int .i64 k/\n<=2*k/\wr.ownsRow w.heap.size 3 1 out n aH/\LC s.size aH/\β w wr) (λ_ i _ _ _=>s.size-(RowKit.intOf i).toNat);case atStart=>exact⟨0,0,[],dh _,rfl,z,ne _ _ _ _,λh=>absurd h aq,y.out⟩
 case round=>clear y;obtain⟨k,n,aH,ad,rfl,ax,r,o,G⟩:=hrel;by_cases au:k<s.size;{have m':(k:Int)<s.size:=z;have l4:(0:Int)<=(k:Int):=z;have I:=A r;have d:=A o;have t:=A G;clear r o G;(go_wp2_with (go_at_call 561;refine(ia.out _ t.out k z).mono ?_;rintro e U ⟨⟨g,rfl,H⟩,q⟩);have c:=A (b3 t.out q);have a:=A (uS I.out (.hs q));have J:=A H;clear q t I H;go_loopw [8] (λf Y=>∃m:Nat,k<=m/\m<=s.size/\f=.int .i64 m/\Y=U) (λf _=>(RowKit.intOf f).toNat);case atStart=>exact⟨s.size,z,aY _,rfl,rfl⟩);case round=>obtain⟨m,ae,F,rfl,rfl⟩:=hrel;have gF:(0:Int)<=(m:Int):=z;have i3:(m:Int)<(s.size:Int)+1:=z;have Pk:(m:Int)<=200:=z;by_cases rG:k<m;{have od:(k:Int)<m:=z;obtain⟨x,aa⟩:=J.out.2.1 m z;have ab:=J.out.1;have C:(m:Int)-1=((m-1:Nat):Int):=z;cases x;{(go_wp2;go_roundw;case rel=>first|exact⟨m-1,z,z,by first|rfl|rw[C],by trivial⟩|((repeat apply Exists.intro);refine⟨?_,rfl⟩;exact⟨m-1,z,z,by first|rfl|rw[C],by trivial⟩));case measure=>simp[RowKit.intOf];omega};{obtain⟨va,X,rfl⟩:=aqb a.out;have o7:=c.out.size;(go_wp2_with (at_builtin;refine lP _ rfl _ _ 22 rfl w.heap.size 3 jg _ 1 8 pj Q O P N rfl al (.slice va n X) n aH rfl (a.out.alloc _) ⟨wr.heap.size,0,none⟩ 2 2 [.int .i64 k,.int .i64 m] rfl rfl (r5 (pW wr _)) (by simp[Value.oneCell']) (by unfold maxLen;omega) z bw ?_;intro v5 T M B _;have L:=A M;have K:Hid (β w T):=A ((c.out.alloc o7 _).grown B bw (λb G=>aGJ a.out b G));clear M B);go_roundw;case rel=>first|exact⟨m,n+2,_,z,rfl,z,L.out,d.out.push z F,K.out⟩|((repeat apply Exists.intro);refine⟨?_,rfl⟩;exact⟨m,n+2,_,z,rfl,z,L.out,d.out.push z F,K.out⟩));case measure=>simp[RowKit.intOf];omega}};{have od:¬(k:Int)<m:=z;(go_wp2;go_roundw;case rel=>first|exact⟨k+1,n,aH,z,bz,z,a.out,d.out,c.out⟩|((repeat apply Exists.intro);refine⟨?_,rfl⟩;exact⟨k+1,n,aH,z,bz,z,a.out,d.out,c.out⟩));case measure=>simp[RowKit.intOf];omega}};{have m':¬(k:Int)<s.size:=z;go_wp2;go_ret;exact⟨⟨_,n,aH,rfl,r,o,z⟩,G⟩}
def avK(m:Nat)(e:Ending):Prop:=∃(x y:Nat) (ok:Bool),e=.returned (.tuple #[.int .i64 x,.int .i64 y,.bool ok])/\(ok=true->x<=y/\y<=m)
def azw(s:Ψ)(m:s.size<=200)(aO:Θ)(c:Nat)(cl:Int)(j:cl=1∨cl=2)(w:Γ)(ag:p5 w aO cl): χ 523 #[.slice aO 1 c,s,.int .i64 1] w λe w'=>avK s.size e:=by
 have f:=A (azz s m aO c cl j w ag);clear ag j;go_enter func523,ntmps523;go_upto_region 2 with(go_at_call 560;refine(f.out).mono ?_;rintro e F ⟨⟨v,n,aH,rfl,a,d,G⟩,b⟩)
 obtain⟨va,K,rfl⟩:=aqb a;have O:(n:Int)<=1000:=z;by_cases I:2<=n
 .have hd:¬((n/2:Nat):Int)<1:=z;have k:¬(n:Int)/2<1:=z;have J:0<(n:Int):=z;have M:1<(n:Int):=z;rcases a.2 with⟨q,H⟩|⟨g,cap,L,ak,E,i,t⟩
  exfalso;injection q with _ N;omega
  .injection ak with B _ _
   subst B;have r:0<aH.length:=by have:=a.1;omega
   obtain⟨x,y,l,rfl,C,o⟩:=d r;have bi:=a.cells (g:=g) rfl 0 x rfl;have c1:=a.cells (g:=g) rfl 1 y rfl;rw[AD]at bi c1;have D:=bM i;have u:=A b;clear a d b i t f;simp only[hY,gy]at bi c1;go_wp2;go_quiet (fail);go_wp2;refine gd (by simp[results,results523,go_sem];rfl) rfl ?_;exact⟨⟨x,y,true,rfl,λ_=>⟨C,o⟩⟩,pV u _⟩
 .have hd:((n/2:Nat):Int)<1:=z;have k:(n:Int)/2<1:=z;go_wp2;refine gd (by simp[results,results523,go_sem];rfl) rfl ?_;exact⟨⟨0,0,false,rfl,λh=>by simp at h⟩,b⟩
def aED(s:Ψ)(j:s.size<=200)(aO:Θ)(d:Nat)(cl:Int)(i:cl=1∨cl=2)(w:Γ)(ag:p5 w aO cl): χ 525 #[.slice aO 1 d,s] w λe w'=>LF e:=by
 have y:=A (arf cl i w aO d ag);have l:=A λW=>anc s j W;have n:Hid (∀W,β w W->χ 561 #[.slice aO 1 d,s,.int .i64 0] W (ahB (s.size+1))):=A λW r=>ajJ s j aO d cl i 0 (dh _) W (ag.K r);have D:(s.size:Int)<(s.size:Int)+1:=z;clear ag i;go_enter func525,ntmps525;go_wp2_with (first|(go_at_call 471;refine(y.out).mono ?_;rintro e C ⟨⟨B,rfl⟩,k⟩;have b:=A k;clear k;cases B)|(go_at_call 281;refine(l.out _).mono ?_;rintro e t ⟨⟨f,rfl⟩,rfl⟩;cases f)|(go_at_call 561;refine(n.out _ b).mono ?_;rintro e u ⟨⟨g,rfl,a⟩,c⟩;let⟨x,q⟩:=a.2.1 s.size z;have o:=a.1;have m:=A (b3 b c);clear c b a));all_goals(try go_wp2_with (first|(go_at_call 281;refine(l.out _).mono ?_;rintro e t ⟨⟨f,rfl⟩,rfl⟩;cases f)|(go_at_call 561;refine(n.out _ b).mono ?_;rintro e u ⟨⟨g,rfl,a⟩,c⟩;let⟨x,q⟩:=a.2.1 s.size z;have o:=a.1;have m:=Lib.hid (b3 b c);clear c b a)))
 all_goals first|(go_ret;exact⟨⟨_,rfl⟩,b⟩)|(go_ret;exact⟨⟨_,rfl⟩,m⟩)
variable{s:Ψ}
def kC.append{t:Ψ}(b:kC s)(aj:kC t)(h:s.size+t.size<=200):kC (s++t):=by
 have:(s++t)=⟨(s.data.toList++t.data.toList).toArray⟩:=by apply KY;apply xG;simp
 rw[this];refine sf.Cx (λc a=>?_) (by rw[ir];show s.data.toList.length+t.data.toList.length<=200;rw[iV,iV];exact h);rcases kx.1 a with H|H
 exact sf.hs b c H;exact sf.hs aj c H
def kC.extract(a:kC s)(x y:Nat):kC (s.extract x y):=by
 have:(s.extract x y)=⟨((s.data.toList.drop x).take (y-x)).toArray⟩:=by apply KY;apply xG;simp[atd]
 rw[this];have d:s.data.toList.length=s.size:=iV;refine sf.Cx (λc b=>sf.hs a c (afF (Lf b))) ?_;rw[mw,pm];have:=a.1;omega
def aKO(g:Θ)(k f:Nat)(i fn dH ds:Int)(ff:Θ)(gr j:Nat)(aO:Ψ)(m:Nat)(bY a:Ψ)(q:kC bY)(n:kC a)(w:Γ)(l:Θ)(ac:Nat)(h:cm aD (aR aD 1) w l [hX bY,hX a]): χ 481 #[.string ⟨#[99,111,110,99,97,116]⟩,aO,.agg (e3 g k f i fn dH ds ff gr j),.slice l 2 ac] w (e_ w m):=by
 have V:((⟨#[99,111,110,99,97,116]⟩:Ψ).toList==(⟨#[99,111,110,99,97,116]⟩:Ψ).toList)=true:=qH _;have t:=A λs W=>VA s W;have P:=q.1;have bN:=n.1;have c:=A (lu.start w (e3 g k f i fn dH ds ff gr j) 251);obtain⟨b,o,rfl,G,⟨ca,cc,ra,rc,af⟩,Q,T,R,S,H⟩:=IU h;clear h;go_enter VY,V5;go_upto_region 1 with fail
 generalize ((w.alloc (.cells (e3 g k f i fn dH ds ff gr j) 251)).alloc (.cells fo 44))=M at c|-;have d:=c.out.b;have U:=cT d G;have c1:=aA d G af.c1;have O:=aA d G H.c1;clear af H;by_cases r:bY.size+a.size<=200
 .have I:¬200<(bY.size:Int)+(a.size:Int):=z;have cp:=A (q.append n r);go_wp2_with (first|(go_at_call 476;refine(t.out _ _).mono ?_;rintro e N ⟨rfl,u⟩;have ec:=c.out.K u;let⟨J,C,B,E,F,K,L⟩:=eU ec.o;let⟨z0,x,y,z3,z4,z5,D⟩:=hp ec.o));exact ab7
 .have I:200<(bY.size:Int)+(a.size:Int):=z;have ec:=c.out;let⟨J,C,B,E,F,K,L⟩:=eU ec.o;let⟨z0,x,y,z3,z4,z5,D⟩:=hp ec.o;go_wp2;refine gd (j5 (fn:=f481) rfl _ _ (w.heap.size+1) 44 _ (0,0) _ _ rfl rfl (iJ ec.o _ _ _ _ _ _ _) k2 rfl jk) rfl ?_;exact⟨e_.none _ _ _ 3 al al,iU ec.b z _ _ _ _ _ _ _⟩
def aKR(d:Θ)(i c:Nat)(f fn dH ds:Int)(ff:Θ)(gr g:Nat)(aO:Ψ)(m:Nat)(bY:Ψ)(u:kC bY)(w:Γ)(j:Θ)(ac:Nat)(h:cm aD (aR aD 1) w j [hX bY]): χ 481 #[.string ⟨#[117,112,112,101,114]⟩,aO,.agg (e3 d i c f fn dH ds ff gr g),.slice j 1 ac] w (e_ w m):=by
 have y:((⟨#[117,112,112,101,114]⟩:Ψ).toList==(⟨#[99,111,110,99,97,116]⟩:Ψ).toList)=false:=fX al;have Q:((⟨#[117,112,112,101,114]⟩:Ψ).toList==(⟨#[117,112,112,101,114]⟩:Ψ).toList)=true:=qH _;have r:=A λW=>aLW bY u W;have n:=A λs W=>VA s W;have a:=A (lu.start w (e3 d i c f fn dH ds ff gr g) 251);obtain⟨b,o,rfl,G,ca,cc,ra,rc,af⟩:=MH h;clear h;go_enter VY,V5;go_upto_region 1 with fail
 generalize ((w.alloc (.cells (e3 d i c f fn dH ds ff gr g) 251)).alloc (.cells fo 44))=B at a|-;have k:=a.out.b;have O:=cT k G;have c1:=aA k G af.c1;clear af;go_wp2_with (first|(go_at_call 520;refine(r.out _).mono ?_;rintro e w3 ⟨⟨P,rfl,l⟩,q⟩;have x:=A (a.out.K q);have cp:=A l;clear l)|(go_at_call 476;refine(n.out _ _).mono ?_;rintro e C ⟨rfl,t⟩;have ec:=x.out.K t;let⟨L,H,F,J,K,M,N⟩:=eU ec.o;let⟨z0,D,E,z3,z4,z5,I⟩:=hp ec.o));exact ab7
def aKP(g:Θ)(k f:Nat)(j fn dH ds:Int)(ff:Θ)(gr c:Nat)(aO:Ψ)(m:Nat)(bY:Ψ)(i:kC bY)(cl:Int)(K:cl=1∨cl=2)(w:Γ)(l:Θ)(ac:Nat)(h:cm aD (aR aD 1) w l [hX bY])(O:p5 w ff cl): χ 481 #[.string ⟨#[101,120,116,114,97,99,116]⟩,aO,.agg (e3 g k f j 1 dH ds ff 1 c),.slice l 1 ac] w (e_ w m):=by
 have R:((⟨#[101,120,116,114,97,99,116]⟩:Ψ).toList==(⟨#[99,111,110,99,97,116]⟩:Ψ).toList)=false:=fX al;have V:((⟨#[101,120,116,114,97,99,116]⟩:Ψ).toList==(⟨#[117,112,112,101,114]⟩:Ψ).toList)=false:=fX al;have T:((⟨#[101,120,116,114,97,99,116]⟩:Ψ).toList==(⟨#[108,111,119,101,114]⟩:Ψ).toList)=false:=fX al;have U:((⟨#[101,120,116,114,97,99,116]⟩:Ψ).toList==(⟨#[116,114,105,109]⟩:Ψ).toList)=false:=fX al;have wT:((⟨#[101,120,116,114,97,99,116]⟩:Ψ).toList==(⟨#[101,120,116,114,97,99,116]⟩:Ψ).toList)=true:=qH _;have u:=A λW (q:β w W)=>azw bY i.1 ff c cl K W (O.K q);have r:=A λs W=>VA s W;have Y:=i.1;have a:=A (lu.start w (e3 g k f j 1 dH ds ff 1 c) 251);obtain⟨b,o,rfl,G,ca,cc,ra,rc,af⟩:=MH h;clear h;go_enter VY,V5;go_upto_region 1 with fail
 generalize ((w.alloc (.cells (e3 g k f j 1 dH ds ff 1 c) 251)).alloc (.cells fo 44))=S at a|-;have d:=a.out.b;have jc:=cT d G;have c1:=aA d G af.c1;obtain⟨-,-,hK,-,-,f5⟩:=gp a.out.g;have Q:=bM a.out.g;clear af;go_upto_region 15 with(first|(go_at_call 523;refine(u.out _ d).mono ?_;rintro e w3 ⟨⟨x,y,ok,rfl,P⟩,t⟩;have n:=A (a.out.K t)))
 cases ok
 .have ec:=n.out;let⟨L,F,E,I,J,M,N⟩:=eU ec.o;let⟨z0,C,D,z3,z4,z5,H⟩:=hp ec.o;go_wp2;refine gd (j5 (fn:=f481) rfl _ _ (w.heap.size+1) 44 _ (0,0) _ _ rfl rfl (iJ ec.o _ _ _ _ _ _ _) k2 rfl jk) rfl ?_;exact⟨e_.none _ _ _ 18 al al,iU ec.b z _ _ _ _ _ _ _⟩
 .obtain⟨mr,sy⟩:=P rfl;have Z:(x:Int)<=(y:Int):=z;have gb:(y:Int)<=(bY.size:Int):=z;have jg:(0:Int)<=(x:Int):=z;have cp:=A (i.extract x y);go_wp2_with (first|(go_at_call 476;refine(r.out _ _).mono ?_;rintro e X ⟨rfl,B⟩;have ec:=n.out.K B;let⟨L,F,E,I,J,M,N⟩:=eU ec.o;let⟨z0,C,D,z3,z4,z5,H⟩:=hp ec.o));exact ab7
def aKQ(g:Θ)(k f:Nat)(j fn dH ds:Int)(ff:Θ)(gr c:Nat)(aO:Ψ)(m:Nat)(bY:Ψ)(y:kC bY)(cl:Int)(B:cl=1∨cl=2)(w:Γ)(l:Θ)(ac:Nat)(h:cm aD (aR aD 1) w l [hX bY])(D:p5 w ff cl): χ 481 #[.string ⟨#[109,97,116,99,104]⟩,aO,.agg (e3 g k f j fn dH ds ff 1 c),.slice l 1 ac] w (e_ w m):=by
 have L:((⟨#[109,97,116,99,104]⟩:Ψ).toList==(⟨#[99,111,110,99,97,116]⟩:Ψ).toList)=false:=fX al;have P:((⟨#[109,97,116,99,104]⟩:Ψ).toList==(⟨#[117,112,112,101,114]⟩:Ψ).toList)=false:=fX al;have N:((⟨#[109,97,116,99,104]⟩:Ψ).toList==(⟨#[108,111,119,101,114]⟩:Ψ).toList)=false:=fX al;have O:((⟨#[109,97,116,99,104]⟩:Ψ).toList==(⟨#[116,114,105,109]⟩:Ψ).toList)=false:=fX al;have F:((⟨#[109,97,116,99,104]⟩:Ψ).toList==(⟨#[101,120,116,114,97,99,116]⟩:Ψ).toList)=false:=fX al;have H:((⟨#[109,97,116,99,104]⟩:Ψ).toList==(⟨#[108,101,110,103,116,104]⟩:Ψ).toList)=false:=fX al;have I:((⟨#[109,97,116,99,104]⟩:Ψ).toList==(⟨#[112,97,114,115,101]⟩:Ψ).toList)=false:=fX al;have K:((⟨#[109,97,116,99,104]⟩:Ψ).toList==(⟨#[114,101,97,100]⟩:Ψ).toList)=false:=fX al;have u:=A λW (n:β w W)=>aED bY y.1 ff c cl B W (D.K n);have r:=A λb W=>asH b W;have a:=A (lu.start w (e3 g k f j fn dH ds ff 1 c) 251);obtain⟨b,o,rfl,G,ca,cc,ra,rc,af⟩:=MH h;clear h;go_enter VY,V5;go_upto_region 1 with fail
 generalize ((w.alloc (.cells (e3 g k f j fn dH ds ff 1 c) 251)).alloc (.cells fo 44))=M at a|-;have d:=a.out.b;have jc:=cT d G;have c1:=aA d G af.c1;have f5:=aN 5 a.out.g;have E:=bM a.out.g;clear af;go_wp2_with (first|(go_at_call 525;refine(u.out _ d).mono ?_;rintro e w3 ⟨⟨X,rfl⟩,s⟩;have C:=A (a.out.K s))|(go_at_call 479;refine(r.out _ _).mono ?_;rintro e Q ⟨⟨q,aE,rfl⟩,x⟩;have ec:=C.out.K x;let⟨hf,U,T,Y,Z,hg,hj⟩:=eU ec.o;let⟨z0,R,S,z3,z4,z5,V⟩:=hp ec.o));refine gd (j5 (fn:=f481) rfl _ _ (w.heap.size+1) 44 _ (0,0) _ _ rfl rfl (iJ ec.o _ _ _ _ _ _ _) k2 rfl jk) rfl ?_;exact aoO
def aFQ(l:Θ)(t k:Nat)(r fn dH ds:Int)(ff:Θ)(gr s:Nat)(aO:Ψ)(m:Nat)(f j:Int)(g:Nat)(y:0<=f/\f<=3652058)(C:hC j g)(w:Γ)(x:Θ)(ac:Nat)(h:cm aD (aR aD 1) w x [kD f,gR j g]): χ 483 #[.string ⟨#[100,97,121,115]⟩,aO,.agg (e3 l t k r fn dH ds ff gr s),.slice x 2 ac] w (e_ w m):=by
 have Z:((⟨#[100,97,121,115]⟩:Ψ).toList==(⟨#[112,114,105,110,116]⟩:Ψ).toList)=false:=fX al;have SX:((⟨#[100,97,121,115]⟩:Ψ).toList==(⟨#[97,100,100]⟩:Ψ).toList)=false:=fX al;have SY:((⟨#[100,97,121,115]⟩:Ψ).toList==(⟨#[115,117,98]⟩:Ψ).toList)=false:=fX al;have YZ:((⟨#[100,97,121,115]⟩:Ψ).toList==(⟨#[109,117,108]⟩:Ψ).toList)=false:=fX al;have ab:((⟨#[100,97,121,115]⟩:Ψ).toList==(⟨#[114,111,117,110,100]⟩:Ψ).toList)=false:=fX al;have ad:((⟨#[100,97,121,115]⟩:Ψ).toList==(⟨#[115,104,111,119]⟩:Ψ).toList)=false:=fX al;have wT:((⟨#[100,97,121,115]⟩:Ψ).toList==(⟨#[100,97,121,115]⟩:Ψ).toList)=true:=qH _;have R:=A λW=>awC f j y.1 y.2 C.2.2.1 C.2.2.2.1 W;have Q:=A λn W=>aym n W;obtain⟨b,o,rfl,G,⟨ca,cc,ra,rc,af⟩,g9,ho,h9,hQ,H⟩:=IU h;have c:=A (lu.start w (e3 l t k r fn dH ds ff gr s) 251);clear h;go_enter K0,K2;go_upto_region 16 with fail
 generalize ((w.alloc (.cells (e3 l t k r fn dH ds ff gr s) 251)).alloc (.cells fo 44))=i at c|-;have d:=c.out.b;have X:=cT d G;have bi:=aA d G af.c4;have q:=aA d G H.c2;have V:=aA d G H.c3;clear af H;by_cases aa:0<g
 .have U:0<(g:Int):=z;have a:=c.out;let⟨M,I,F,K,L,N,O⟩:=eU a.o;let⟨z0,D,E,z3,z4,z5,J⟩:=hp a.o;go_wp2;refine gd (j5 (fn:=f483) rfl _ _ (w.heap.size+1) 44 _ (0,0) _ _ rfl rfl (iJ a.o _ _ _ _ _ _ _) k2 rfl jk) rfl ?_;exact⟨e_.none _ _ _ 15 al al,iU a.b z _ _ _ _ _ _ _⟩
 .have U:¬0<(g:Int):=z;go_upto_region 18 with fail
  have B:=A (c.out.K (lk i));have P:i.drew.cell? ⟨b,o+4,none⟩=_:=bi;have u:i.drew.cell? ⟨b,o+7+2,none⟩=_:=q;go_region_held3 (λaZ=>aZ ⟨b,o+4,none⟩=f/\aZ ⟨b,o+7+2,none⟩=j) (first|with_reducible exact⟨bi,q⟩|with_reducible exact⟨P,u⟩|go_keep) (first|(go_at_call 537;refine(R.out _).mono ?_;rintro e w3 ⟨⟨n,ok,rfl,Y⟩,rfl⟩));clear bi q P u V c d X;generalize i.drew=ap at*;cases ok
  .have a:=B.out;let⟨M,I,F,K,L,N,O⟩:=eU a.o;let⟨z0,D,E,z3,z4,z5,J⟩:=hp a.o;go_wp2;refine gd (j5 (fn:=f483) rfl _ _ (w.heap.size+1) 44 _ (0,0) _ _ rfl rfl (iJ a.o _ _ _ _ _ _ _) k2 rfl jk) rfl ?_;exact⟨e_.none _ _ _ 3 al al,iU a.b z _ _ _ _ _ _ _⟩
  .obtain⟨T,bN⟩:=Y rfl;go_wp2_with (first|(go_at_call 478;refine(Q.out _ _).mono ?_;rintro e bh ⟨rfl,S⟩;have a:=B.out.K S;let⟨M,I,F,K,L,N,O⟩:=eU a.o;let⟨z0,D,E,z3,z4,z5,J⟩:=hp a.o));refine gd (j5 (fn:=f483) rfl _ _ (w.heap.size+1) 44 _ (0,0) _ _ rfl rfl (iJ a.o _ _ _ _ _ _ _) k2 rfl jk) rfl ?_;exact⟨e_.some _ _ _ (aR.jb _ 1 _ 3 bX 0 0 n none 0 none 0) (.kD n T bN),iU a.b z _ _ _ _ _ _ _⟩
def e_.put{base r B:Nat}{c:Γ}{k N S n':Int}{ca ra:Θ}{cl cc rl rc:Nat}{err:Int}(h:e_ base n (.returned (.tuple #[.agg (bC k s N S n' ca cl cc ra rl rc),err])) c)(i:r<base)(l:B<=base): e_ B n (.returned (.tuple #[.agg (bC k s N S n' ca cl cc ra rl rc),err])) (Ae c r k (.string s) N S n' (.slice ca cl cc) (.slice ra rl rc)):=by
 let⟨dx,t,m,q,o,y,f,x,u,g,w,j,e,af,H,I⟩:=h;injection e with e
 injection e with e
 injection e with e
 injection e with d a
 injection a with a _
 injection a with _ a
 subst a;refine⟨_,_,_,_,_,_,_,_,_,_,_,_,rfl,af,H,λaP=>?_⟩;let⟨v,J,ar⟩:=I aP;injection d with d
 rw[<-d]at J;exact⟨v,(J.eB (Kr (eR.refl _ c) (λ(G:base<=r)=>z) _ _ _ _ _ _ _)).low λb (G:base<=b)=>(show B<=b by omega),ar⟩
def XX{a:Θ}{aG:List (List bs)}{l:List bs}(h:cm aD (aR aD 1) w a (jl aG::l)):∃b o,a=some ⟨b,o,none⟩/\b<w/\∃ca cc ra rc,aR aD 1 w (bC 5 bX 0 0 0 ca 2 cc ra aG rc) (jl aG)/\vv w b o (.int .i64 5) (.string bX) (.int .i64 0) (.int .i64 0) (.int .i64 0) (.slice ca 2 cc) (.slice ra aG rc):=by
 obtain⟨e,d,rfl,_,f,i⟩:=h.2 aq;let⟨x,s,t,u,C,y,m,z,B,n,A,g,c⟩:=i 0 aq;let⟨j,k,q,r,dA,H,I⟩:=g;injection dA with dA
 simp only[qs,HX,HY,EK,EX,AM]at dA;obtain⟨rfl,rfl,rfl,rfl,rfl,⟨rfl,rfl,rfl⟩,rfl,rfl,rfl⟩:=dA;simp only[vh,hY]at c;exact⟨e,d,rfl,f,_,_,_,_,⟨_,_,_,_,rfl,H,I⟩,c⟩
def awU{b o:Nat}{v:bs}{bN c f d:Int}{a:Ψ}(h:cm aD (aR aD 1) w (some ⟨b,o,none⟩) [v,.mk bN a c f d [] []]):∃ca cc ra rc,vv w b (o+7) bN (.string a) c f d (.slice ca 0 cc) (.slice ra 0 rc):=by
 let⟨C,B,e,_,D,k⟩:=h.2 aq;injection e with e
 injection e with ak i
 subst ak;subst i;let⟨y,t,s,r,E,z,F,A,u,G,x,j,g⟩:=k 1 aq;let⟨m,l,n,q,ak,_⟩:=j;injection ak with ak
 simp only[qs,HX,HY,EK,EX,AM]at ak;obtain⟨rfl,rfl,rfl,rfl,rfl,⟨rfl,rfl,rfl⟩,rfl,rfl,rfl⟩:=ak;simp only[Rr,tV]at g;exact⟨_,_,_,_,g⟩
def aKv(k:Nat)(E fn:Int)(ff:Θ)(gr F:Nat)(m:Nat)(aG:List (List bs))(J:e9 n (jl aG))(bN q s r:Int)(l:Ψ)(aO:Ψ)(w:Γ)(cb Y:Θ)(ac:Nat)(bA:Φ)(Z:g0 aD w cb [lM])(h:cm aD (aR aD 1) w Y [jl aG,.mk bN l q s r [] []]): χ 482 #[.string ⟨#[119,104,101,114,101]⟩,.agg (e3 cb 1 k E fn 0 0 ff gr F),bA,.slice Y 2 ac] w (e_ w m):=by have ag:((⟨#[119,104,101,114,101]⟩:Ψ).toList==(⟨#[108,111,111,107,117,112]⟩:Ψ).toList)=false:=fX al;have ah:((⟨#[119,104,101,114,101]⟩:Ψ).toList==(⟨#[116,97,98,108,101]⟩:Ψ).toList)=false:=fX al;have wT:((⟨#[119,104,101,114,101]⟩:Ψ).toList==(⟨#[119,104,101,114,101]⟩:Ψ).toList)=true:=qH _;obtain⟨b,o,rfl,G,ca,cc,ra,rc,eV,af⟩:=XX h;let⟨D,N,I,L,H⟩:=awU h;have bp:=A λW (ao:β w W)=>aL9 (m:=m) aG J W _ (eV.K ao) (bC bN l q s r D 0 N I 0 L) _ (aR.jb aD 1 W bN l q s r D N I L);obtain⟨g,gY,rfl,_,K,rK⟩:=Z.2 aq;have M:=rK 0 aq;simp only[AG,hY]at M;have j:=A (lu.start w (e3 (some ⟨g,gY,none⟩) 1 k E fn 0 0 ff gr F) 251);clear h rK Z eV;go_enter VZ,V6;go_wp2;generalize ((w.alloc (.cells (e3 (some ⟨g,gY,none⟩) 1 k E fn 0 0 ff gr F) 251)).alloc (.cells fo 44))=am at j|-;have a:=j.out.b;have jc:=cT a G;have BC:=cT a K;have hT:=bM j.out.g;have bi:=aA a G af.bi;have c1:=aA a G af.c1;have c2:=aA a G af.c2;have c3:=aA a G af.c3;have c4:=aA a G af.c4;have c5:=aA a G af.c5;have fe:=aA a G af.fe;have P:=(show am ⟨w,0,none⟩=some (.slice (some ⟨g,gY,none⟩) 1 k)from aN 0 j.out.g);have O:=aA a K M;have Q:=aA a G H.bi;have R:=aA a G H.c1;have x:=aA a G H.c2;have u:=aA a G H.c3;have y:=aA a G H.c4;have B:=aA a G H.c5;have C:=aA a G H.fe;have jB:am.drew.cell? ⟨b,o,none⟩=_:=bi;have vA:am.drew.cell? ⟨b,o+1,none⟩=_:=c1;have ry:am.drew.cell? ⟨b,o+2,none⟩=_:=c2;have wM:am.drew.cell? ⟨b,o+3,none⟩=_:=c3;have MU:am.drew.cell? ⟨b,o+4,none⟩=_:=c4;have MV:am.drew.cell? ⟨b,o+5,none⟩=_:=c5;have MW:am.drew.cell? ⟨b,o+6,none⟩=_:=fe;have MY:am.drew.cell? ⟨w,0,none⟩=_:=P;have MZ:am.drew.cell? ⟨g,gY,none⟩=_:=O;have M0:am.drew.cell? ⟨b,o+7,none⟩=_:=Q;have MS:am.drew.cell? ⟨b,o+7+1,none⟩=_:=R;have Yd:am.drew.cell? ⟨b,o+7+2,none⟩=_:=x;have Ye:am.drew.cell? ⟨b,o+7+3,none⟩=_:=u;have aa:am.drew.cell? ⟨b,o+7+4,none⟩=_:=y;have ab:am.drew.cell? ⟨b,o+7+5,none⟩=_:=B;have ad:am.drew.cell? ⟨b,o+7+6,none⟩=_:=C;have f:w.heap.size+1≠b:=z;have yC:w.heap.size+1≠w.heap.size:=z;have Kf:w.heap.size+1≠g:=z;have d:=A jc;have vl:=A BC;have hw:=A hT;have i6:=A a.drew;have sU:=A (j.out.K (lk am));have dO:w.heap.size+1<am.heap.size:=bM j.out.o;clear a G K M;go_region_held3 (λaZ=>aZ ⟨b,o,none⟩=(5:Int)/\aZ ⟨b,o+1,none⟩=bX/\aZ ⟨b,o+2,none⟩=(0:Int)/\aZ ⟨b,o+3,none⟩=(0:Int)/\aZ ⟨b,o+4,none⟩=(0:Int)/\aZ ⟨b,o+5,none⟩=some (.slice ca 2 cc)/\aZ ⟨b,o+6,none⟩=some (.slice ra aG rc)/\aZ ⟨w,0,none⟩=some (.slice (some ⟨g,gY,none⟩) 1 k)/\aZ ⟨g,gY,none⟩=lM/\aZ ⟨b,o+7,none⟩=bN/\aZ ⟨b,o+7+1,none⟩=l/\aZ ⟨b,o+7+2,none⟩=q/\aZ ⟨b,o+7+3,none⟩=s/\aZ ⟨b,o+7+4,none⟩=r/\aZ ⟨b,o+7+5,none⟩=some (.slice D 0 N)/\aZ ⟨b,o+7+6,none⟩=some (.slice I 0 L)) (first|with_reducible exact⟨bi,c1,c2,c3,c4,c5,fe,P,O,Q,R,x,u,y,B,C⟩|with_reducible exact⟨jB,vA,ry,wM,MU,MV,MW,MY,MZ,M0,MS,Yd,Ye,aa,ab,ad⟩|with_reducible exact⟨eg,dz,dJ,cP,jv,j9,l7,tS,xD,xE,xC,S,T,U,V,X⟩|with_reducible exact⟨(fg f).trans eg,(fg f).trans dz,(fg f).trans dJ,(fg f).trans cP,(fg f).trans jv,(fg f).trans j9,(fg f).trans l7,(fg yC).trans tS,(fg Kf).trans xD,(fg f).trans xE,(fg f).trans xC,(fg f).trans S,(fg f).trans T,(fg f).trans U,(fg f).trans V,(fg f).trans X⟩|go_keep) (first|(go_at_call 527;refine(bp.out _ i6).mono ?_;rintro e w3 ⟨⟨gc,oh,wF,Dj,od,IX,ae,IZ,Kv,aj,Kw,ai,rfl,oF,lD,l3⟩,c⟩;have ec:=sU.out.K c;have eg:=aA c d bi;have dz:=aA c d c1;have dJ:=aA c d c2;have cP:=aA c d c3;have jv:=aA c d c4;have j9:=aA c d c5;have l7:=aA c d fe;have tS:=aA c hw P;have xD:=aA c vl O;have xE:=aA c d Q;have xC:=aA c d R;have S:=aA c d x;have T:=aA c d u;have U:=aA c d y;have V:=aA c d B;have X:=aA c d C;let⟨hf,dn,dR,fy,gG,hg,hj⟩:=eU ec.o;let⟨z0,cC,dC,z3,z4,z5,eJ⟩:=hp ec.o));exact aos
def aKu(k:Nat)(l fn:Int)(ff:Θ)(gr q:Nat)(m:Nat)(av:1<=m)(aG:List (List bs))(J:e9 n (jl aG))(aO:Ψ)(w:Γ)(I E:Θ)(ac:Nat)(bA:Φ)(F:g0 aD w I [lv])(h:cm aD (aR aD 1) w E [jl aG]): χ 482 #[.string ⟨#[115,117,109]⟩,.agg (e3 I 1 k l fn 0 0 ff gr q),bA,.slice E 1 ac] w (e_ w m):=by have ab:((⟨#[115,117,109]⟩:Ψ).toList==(⟨#[108,111,111,107,117,112]⟩:Ψ).toList)=false:=fX al;have ad:((⟨#[115,117,109]⟩:Ψ).toList==(⟨#[116,97,98,108,101]⟩:Ψ).toList)=false:=fX al;have aj:((⟨#[115,117,109]⟩:Ψ).toList==(⟨#[119,104,101,114,101]⟩:Ψ).toList)=false:=fX al;have ah:((⟨#[115,117,109]⟩:Ψ).toList==(⟨#[106,111,105,110]⟩:Ψ).toList)=false:=fX al;have ai:((⟨#[115,117,109]⟩:Ψ).toList==(⟨#[112,105,99,107]⟩:Ψ).toList)=false:=fX al;have wT:((⟨#[115,117,109]⟩:Ψ).toList==(⟨#[115,117,109]⟩:Ψ).toList)=true:=qH _;obtain⟨b,o,rfl,G,ca,cc,ra,rc,M,af⟩:=XX h;have bp:=A λW (ao:β w W)=>aKf (m:=m) av aG J W _ (M.K ao);obtain⟨f,gY,rfl,_,r,R⟩:=F.2 aq;have s:=R 0 aq;simp only[AG,hY]at s;have d:=A (lu.start w (e3 (some ⟨f,gY,none⟩) 1 k l fn 0 0 ff gr q) 251);clear h R F M;go_enter VZ,V6;go_wp2;generalize ((w.alloc (.cells (e3 (some ⟨f,gY,none⟩) 1 k l fn 0 0 ff gr q) 251)).alloc (.cells fo 44))=am at d|-;have a:=d.out.b;have jc:=cT a G;have X:=cT a r;have hT:=bM d.out.g;have bi:=aA a G af.bi;have c1:=aA a G af.c1;have c2:=aA a G af.c2;have c3:=aA a G af.c3;have c4:=aA a G af.c4;have c5:=aA a G af.c5;have fe:=aA a G af.fe;have y:=(show am ⟨w,0,none⟩=some (.slice (some ⟨f,gY,none⟩) 1 k)from aN 0 d.out.g);have x:=aA a r s;have B:=(show am ⟨w,3,none⟩=(0:Int)from aN 3 d.out.g);have C:=(show am ⟨w,4,none⟩=(0:Int)from aN 4 d.out.g);have jB:am.drew.cell? ⟨b,o,none⟩=_:=bi;have vA:am.drew.cell? ⟨b,o+1,none⟩=_:=c1;have ry:am.drew.cell? ⟨b,o+2,none⟩=_:=c2;have wM:am.drew.cell? ⟨b,o+3,none⟩=_:=c3;have MU:am.drew.cell? ⟨b,o+4,none⟩=_:=c4;have MV:am.drew.cell? ⟨b,o+5,none⟩=_:=c5;have MW:am.drew.cell? ⟨b,o+6,none⟩=_:=fe;have MY:am.drew.cell? ⟨w,0,none⟩=_:=y;have MZ:am.drew.cell? ⟨f,gY,none⟩=_:=x;have Z:am.drew.cell? ⟨w,3,none⟩=_:=B;have MS:am.drew.cell? ⟨w,4,none⟩=_:=C;have j:w.heap.size+1≠b:=z;have D:w.heap.size+1≠w.heap.size:=z;have Y:w.heap.size+1≠f:=z;have g:=A jc;have vl:=A X;have u:=A hT;have i6:=A a.drew;have sU:=A (d.out.K (lk am));have dO:w.heap.size+1<am.heap.size:=bM d.out.o;clear a G r s;go_region_held3 (λaZ=>aZ ⟨b,o,none⟩=(5:Int)/\aZ ⟨b,o+1,none⟩=bX/\aZ ⟨b,o+2,none⟩=(0:Int)/\aZ ⟨b,o+3,none⟩=(0:Int)/\aZ ⟨b,o+4,none⟩=(0:Int)/\aZ ⟨b,o+5,none⟩=some (.slice ca 2 cc)/\aZ ⟨b,o+6,none⟩=some (.slice ra aG rc)/\aZ ⟨w,0,none⟩=some (.slice (some ⟨f,gY,none⟩) 1 k)/\aZ ⟨f,gY,none⟩=lv/\aZ ⟨w,3,none⟩=(0:Int)/\aZ ⟨w,4,none⟩=(0:Int)) (first|with_reducible exact⟨bi,c1,c2,c3,c4,c5,fe,y,x,B,C⟩|with_reducible exact⟨jB,vA,ry,wM,MU,MV,MW,MY,MZ,Z,MS⟩|with_reducible exact⟨N,L,K,H,P,O,Q,S,U,V,T⟩|with_reducible exact⟨(fg j).trans N,(fg j).trans L,(fg j).trans K,(fg j).trans H,(fg j).trans P,(fg j).trans O,(fg j).trans Q,(fg D).trans S,(fg Y).trans U,(fg D).trans V,(fg D).trans T⟩|go_keep) (first|(go_at_call 530;refine(bp.out _ i6).mono ?_;rintro e w3 ⟨⟨gc,oh,wF,Dj,od,IX,aa,IZ,Kv,ag,Kw,ae,rfl,oF,lD,l3⟩,c⟩;have ec:=sU.out.K c;have N:=aA c g bi;have L:=aA c g c1;have K:=aA c g c2;have H:=aA c g c3;have P:=aA c g c4;have O:=aA c g c5;have Q:=aA c g fe;have S:=aA c u y;have U:=aA c vl x;have V:=aA c u B;have T:=aA c u C;let⟨hf,dn,dR,fy,gG,hg,hj⟩:=eU ec.o;let⟨z0,cC,dC,z3,z4,z5,eJ⟩:=hp ec.o));exact aos
def aKs(f:Θ)(j d:Nat)(g fn dH ds:Int)(ff:Θ)(gr i:Nat)(m:Nat)(C:1<=m)(aG:List (List bs))(u:aG.length<=3)(w:Γ)(k:Θ)(ac:Nat)(n:Φ)(h:cm aD (aR aD 1) w k [jl aG]): χ 482 #[.string ⟨#[99,111,117,110,116]⟩,.agg (e3 f j d g fn dH ds ff gr i),n,.slice k 1 ac] w (e_ w m):=by
 have x:((⟨#[99,111,117,110,116]⟩:Ψ).toList==(⟨#[108,111,111,107,117,112]⟩:Ψ).toList)=false:=fX al;have y:((⟨#[99,111,117,110,116]⟩:Ψ).toList==(⟨#[116,97,98,108,101]⟩:Ψ).toList)=false:=fX al;have F:((⟨#[99,111,117,110,116]⟩:Ψ).toList==(⟨#[119,104,101,114,101]⟩:Ψ).toList)=false:=fX al;have D:((⟨#[99,111,117,110,116]⟩:Ψ).toList==(⟨#[106,111,105,110]⟩:Ψ).toList)=false:=fX al;have E:((⟨#[99,111,117,110,116]⟩:Ψ).toList==(⟨#[112,105,99,107]⟩:Ψ).toList)=false:=fX al;have t:((⟨#[99,111,117,110,116]⟩:Ψ).toList==(⟨#[115,117,109]⟩:Ψ).toList)=false:=fX al;have S:((⟨#[99,111,117,110,116]⟩:Ψ).toList==(⟨#[99,111,117,110,116]⟩:Ψ).toList)=true:=qH _;obtain⟨b,o,rfl,G,ca,cc,ra,rc,s,af⟩:=XX h;have q:=A λW=>UT (aG.length:Int) 0 W;have c:=A (lu.start w (e3 f j d g fn dH ds ff gr i) 251);clear h s;go_enter VZ,V6;go_upto_region 1 with fail
 generalize ((w.alloc (.cells (e3 f j d g fn dH ds ff gr i) 251)).alloc (.cells fo 44))=B at c|-;have l:=c.out.b;have R:=cT l G;have fe:=aA l G af.fe;clear af
 go_wp2_with (go_at_call 477;refine(q.out _).mono ?_;rintro e w3 ⟨rfl,r⟩;have a:=c.out.K r;let⟨O,K,J,M,N,P,Q⟩:=eU a.o;let⟨z0,H,I,z3,z4,z5,L⟩:=hp a.o);refine gd (j5 (fn:=f482) rfl _ _ (w.heap.size+1) 44 _ (0,0) _ _ rfl rfl (iJ a.o _ _ _ _ _ _ _) k2 rfl jk) rfl ?_;exact⟨e_.some _ _ _ (aR.jb _ 1 _ 2 bX (aG.length:Int) 0 0 none 0 none 0) (.gR _ 0 ⟨aq,aq,z,z,.inl rfl⟩ (by
  have:10^3<=10^(2*m+1):=k5 z z
  omega) z),iU a.b z _ _ _ _ _ _ _⟩
end Go.bE
