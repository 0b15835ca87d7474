/- ItemLatest, one part of the proof. -/
import Derived.Test.YtdioggbficfibaaGreatDoorP15
set_option linter.all false
set_option maxRecDepth 100000
set_option maxHeartbeats 16000000
namespace Go.bS
open Go Go.Proofs.Tryz Go.Proofs Go.RowKit Go.da Go.bh
open Go.aJ (el kR fb pZ hn)
def FR(w:World)(e:Option Addr)(d:Nat):Prop:=d=0∨ ∃b o,e=some ⟨b,o,none⟩/\b<w.heap.size/\∀i,i<d->∃a n c,w.cell? ⟨b,o+i,none⟩=some (.slice a n c)/\kR w a n/\(∀q,a=some q->0<n->q.block<w.heap.size)/\n<=maxLen
variable{w:World}
theorem FR.K{w':World}{f:Option Addr}{g:Nat}(h:FR w f g)(A:β w w'):FR w' f g:=by
 rcases h with h|⟨b,o,e,d,j⟩;exact .inl h;refine .inr ⟨b,o,e,cS A d,fun i hi=>?_⟩;obtain⟨a,n,c,H,I,m,l⟩:=j i hi;exact⟨a,n,c,(A.cell d).trans H,I.K A,fun q k ae=>iK (m q k ae) A.size,l⟩
def avq(base n:Nat)(e:Ending)(w':World):Prop:=∃a c l,e=.returned (.slice a (l:List cf).length c)/\l.length=n/\iQ (fa base) w' a l/\∀x∈l,Bu x
theorem aDU{S:cU}{M:Nat->Nat}{rs:List bA}{ca r:Option Addr}{cc o rb aE rc:Nat}(h:Bz S M rs ca r cc o rb aE rc w)(dV:13<=w.heap.size)(fq:Option Addr)(f hj:Nat)(c0:FR w fq f): χ 19 #[.agg (eg S rs ca r cc o rb aE rc),.slice fq f hj,.int .i64 12] w (avq w (min f 12)):=by
 obtain⟨Po,OU,Pi,h1,fU⟩:=im abP;have RB:=G fun W (ar:β w W) id a n c (ad:kR W a n) (aA:∀q,a=some q->0<n->q.block<W) (ap:n<=maxLen)=>aD7 (h.K ar) (cO dV ar.size) id a n c ad aA ap;have E:=hX.ee w (eg S rs ca r cc o rb aE rc);have RW:=G c0;clear h c0;go_enter func19,ntmps19;go_upto_region 1 with fail
 generalize (w.alloc (.cells (eg S rs ca r cc o rb aE rc) 29))=am at E⊢
 go_wp2;go_loopw [7,8] (fun v i wr=>∃l:List cf,(∀x∈l,Bu x)/\l.length<=12/\l.length<=f/\i=.int .i64 l/\mx (w.heap.size+1) wr v l/\hX w (eg S rs ca r cc o rb aE rc) wr) (fun _ i _=>min f 12-(RowKit.intOf i).toNat);case atStart=>exact⟨[],(fun x h=>by cases h),dx _,dx _,rfl,mx.nil _ _,E⟩
 case round=>
  clear E;obtain⟨l,aa,pM,sY,rfl,ce,b'⟩:=hrel;have fV:=G aa;clear aa;obtain⟨va,ct,rfl⟩:=ce.gX;by_cases au:l.length<f
  ·have jq:(l.length:Int)<f:=z;by_cases t_:l.length<12
   ·have lF:(l.length:Int)<12:=z;rcases RW.out with ae|⟨m,eh,rfl,Y,ne⟩
    omega
    ·obtain⟨H,T,cx,Nn,O5,T4,af⟩:=ne l au;have fe:=az b'.b Y Nn;have qv:=O5.K b'.b;have U:∀q,H=some q->0<T->q.block<wr.heap.size:=fun q aC ae=>iK (T4 q aC ae) b'.b.size;have kD:m<wr.heap.size:=cS b'.b Y;obtain⟨cQ,aX,ba,bx,dt,dS⟩:=f_ b'.g;obtain⟨e6,ab,Z,Og⟩:=ce.o;have iC:=G Z;have ag:=G ab;have Xa:=G Og;have u:=G ce;have C:=G b';have TQ:w.heap.size<wr.heap.size:=c8 b'.g;have Mr:=G qv;have Xm:=G U;have ei:(0:Int)<=(l.length:Int):=z;clear ne qv U O5 T4 Nn ab Z Og ce b';go_upto_region 5 with fail
     go_region_held3 (fun X=>X.cell? ⟨w,0,none⟩=some (.string S.nm)/\X.cell? ⟨w,1,none⟩=some (.int .i64 S.db)/\X.cell? ⟨w,2,none⟩=some (.slice ca S.bw cc)/\X.cell? ⟨w,3,none⟩=some (.slice r S.aD o)/\X.cell? ⟨w,4,none⟩=some (.slice (some ⟨rb,aE,none⟩) rs rc)/\X.cell? ⟨w,5,none⟩=some (.int .i64 S.al)/\X.cell? ⟨m,eh+l.length,none⟩=some (.slice H T cx)) (first|with_reducible exact⟨cQ,aX,ba,bx,dt,dS,fe⟩|with_reducible exact⟨u0,u1,u2,u3,u4,u5,u6⟩|with_reducible exact⟨v0,dW,ek,v3,v4,v5,g1⟩|go_keep) (first|(have _:=u0;refine LJ _ (by rfl) _ _ _ (by rfl) (w.heap.size+1) 44 Po _ 16 216 aeZ OU Pi h1 fU rfl ak (.slice va l ct) l (e6.flatMap Array.toList) (by rfl) ((xA iC (.hP d)).alloc _) ⟨t,0,none⟩ 1 1 (gY x.id x.c_ x.gq x.dj x.kd J x.hh L k s N D n O P K Q x.fm x.e5 aG x.prog I).toList (by rfl) (by rfl) (rA (px t _)) (by simp[Value.oneCell']) ak (by unfold maxLen;omega) z bz (t.heap.size+1) ao ?_;intro g cap w7 cX B fv T2;have iN:=G (mx.push (u.out.K d) (u.out.p1 (aZ _) TQ Xg) B fv ag (fun j a b=>(Xa.out j a b).ex (.hP d)) cX);have fx:=G (((cj C.out.b d).alloc z _).grown B bz (fun b A=>by have:=(u.out.lt b A).1;omega));have R:=(B.block w bz (fun e=>by have:=(u.out.lt _ e.symm).1;omega)).trans ((CU t _ w z).trans OR);have o6:=G (hX.mk fx R);have G8:m<w.heap.size+1∨True:=.inr g';obtain⟨v0,dW,ek,v3,v4,v5⟩:=f_ R;have g1:=(B.cell_far ⟨m,eh+l.length,none⟩ (by show m<_;simp;omega) (fun e=>by have:=(u.out.lt m e.symm).1;omega)).trans (((e4 t _).cell (p:=⟨m,eh+l.length,none⟩) (cS d kD)).trans u6);clear cX B fv R)|(go_at_call 46;refine(RB.out _ ((C.out.b).trans (((br _ _).drew).mono C.out.b.size)) _ H T cx (Mr.out.K ((br _ _).drew)) Xm af).mono ?_;rintro e t ⟨⟨F,x,rfl,hC,J,L,k,s,N,D,n,O,P,K,Q,aG,I,rfl,ud,V,Uk⟩,dm⟩;have d:=G ((lh wr).trans dm);have Xg:Hid (iP (fa wr) t (gY x.id x.c_ x.gq x.dj x.kd J x.hh L k s N D n O P K Q x.fm x.e5 aG x.prog I) x):=G ⟨J,L,k,s,N,D,n,O,P,K,Q,aG,I,rfl,ud,V,Uk⟩;have hb:=G hC;clear ud V Uk dm hC;have OR:=(d.out.block _ TQ).trans C.out.g;have AP:=d.out.size;obtain⟨u0,u1,u2,u3,u4,u5⟩:=f_ OR;have u6:=az d kD fe))
     all_goals(
      clear fe u6 g1
      go_wp2
      refine⟨⟨l++[x],(fun y aB=>by rcases lo.1 aB with h|h;exact fV.out y h;rw[o0.1 h];exact hb.out),bz,bz,?_,iN,o6⟩,by simp[RowKit.intOf];omega⟩
      rw[ia,Bq];go_num)
   have lF:¬(l.length:Int)<12:=z;exact an6
  have jq:¬(l.length:Int)<f:=z;exact an6
end Go.bS
namespace Go.bS
open Go Go.Proofs.Tryz Go.Proofs Go.RowKit Go.da Go.bh
open Go.aJ (el kR fb pZ hn K')
def avJ(base n:Nat)(e:Ending)(w':World):Prop:=∃a c l,e=.returned (.slice a (l:List cf).length c)/\l.length=n/\iQ (fa base) w' a l/\∀x∈l,(1<=x.id/\x.id<=4)/\Bu x
variable{w:World}
theorem iQ.Un{B:Nat->Prop}{b:Nat}{l:List cf}(h:iQ B w (some ⟨b,0,none⟩) l)(k:Nat)(c:k<l):w.cell? ⟨b,k*16,none⟩=some (.int .i64 l[k].id)/\w.frozen? ⟨b,k*16,none⟩=false/\b<w.heap.size:=by
 obtain⟨m,e,i,⟨o,a⟩,d⟩:=h.2 z;cases e;obtain⟨F,H,I⟩:=d k c;obtain⟨t,u,r,s,N,S,n,ca,cc,ra,rc,aG,f,rfl,g,j,q⟩:=H;have:=I 0 z;rw[h7]at this;exact⟨this,Go.aJ.cJ a,bF a⟩
theorem aLv{S:cU}{M:Nat->Nat}{rs:List bA}{ca D:Option Addr}{cc C rb aE rc:Nat}{w:World}(h:Bz S M rs ca D cc C rb aE rc w)(dV:13<=w.heap.size)(P:Option Addr)(s hj:Nat)(N:FR w P s): χ 6 #[.agg (eg S rs ca D cc C rb aE rc),.slice P s hj,.int .i64 12] w (avJ w.heap.size (min s 12)):=by
 have Bx:=G fun W (L:β w W)=>aDU (h.K L) (cO dV L.size) P s hj (N.K L);have o:=hX.ee w (eg S rs ca D cc C rb aE rc);have RW:=G N;clear h N;go_enter func6,ntmps6;go_upto_region 1 with fail
 generalize (w.alloc (.cells (eg S rs ca D cc C rb aE rc) 29))=K at o⊢;obtain⟨cQ,aX,ba,bx,dt,dS⟩:=f_ o.g;have iB:=G (Bx.out K o.b);have iY:w.heap.size<K.heap.size:=c8 o.g;go_upto_region 2 with(go_at_call 19;(with_reducible refine iB.out.mono ?_);rintro e aq ⟨⟨a,c,d,rfl,yE,ad,R⟩,bp⟩;have Y:Hid (∀t (ai:t<d.length),Bu d[t]):=G (fun t ai=>R _ (fP ai));have J:=G ad;have u:=G yE;have ey:=G (cj o.b bp);clear ad bp yE R)
 have pM:d.length<=12:=J.out.1;clear iB Bx cQ aX ba bx dt dS o;generalize K.heap.size=b2 at*
 go_wp2;go_loopw [15] (fun i wr=>∃(l:List cf) (j:Nat),l.length=d.length/\j<=d.length/\i=.int .i64 j/\iQ (fa b2) wr a l/\(∀t (ai:t<l.length),t<j->1<=l[t].id/\l[t].id<=4)/\Hid (∀t (ai:t<l.length),Bu l[t])/\β w wr) (fun i _=>d.length-(RowKit.intOf i).toNat);case atStart=>exact⟨d,0,rfl,dx _,rfl,J.out,fun t _ h=>absurd h z,Y,ey.out⟩
 case round=>
  clear J ey Y;obtain⟨l,j,B,aa,rfl,q,E,fV,A⟩:=hrel;by_cases au:j<d.length
  ·have jq:(j:Int)<d.length:=z;have ei:(0:Int)<=(j:Int):=z;have Q:j<l.length:=z;obtain⟨b,rfl,jJ,l1,ud⟩:=q.2 z;clear l1 ud;obtain⟨bo,k6,kD⟩:=q.Un j Q;have t0:0<=(j:Int)%4:=z;have dI:(j:Int)%4<4:=z;have af:w.heap.size<=b:=cO (Br iY) jJ;have F:=G (A.setCell (p:=⟨b,j*16,none⟩) af (.int .i64 (1+(j:Int)%4)));have I:=G (q.ars j Q (1+(j:Int)%4));have r:=G B;have O:=G E;have m:=G Q;clear q E A B;go_upto_region 6 with fail
   generalize ah:(1+(j:Int)%4)=g at*;have ag:1<=g/\g<=4:=z;clear ah t0 dI;generalize (wr.setCell ⟨b,j*16,none⟩ (.int .i64 g))=a_ at*;rcases RW.out with ae|⟨cb,eh,rfl,D7,ne⟩
   ·exfalso;have:=u.out;omega
   ·obtain⟨b7,yX,cx,U,V,T4,an⟩:=ne j (by have:=u.out;omega);have fe:=az F.out D7 U;have ht:=G (V.K F.out);have al:(j:Int)<s:=by have:=u.out;omega
    have ip:Hid (∀(y:Int),1<=y/\y<=4->∀t (ai:t<((l.set j ((l[j]'m.out).Fk y))).length),t<j+1->1<=(l.set j ((l[j]'m.out).Fk y))[t].id/\(l.set j ((l[j]'m.out).Fk y))[t].id<=4):=G fun y aB t ai X=>by
     rw[zr]at ai;by_cases e:j=t
     ·subst e;simp only[IB];exact aB
     ·rw[Rn e];exact O.out t ai z
    have Z:Hid (∀(f:List cf) (Ko:f.length=l.length),(∀t (ai:t<f.length),Bu f[t])->∀(y:Int) (k:Nat) (T:k<f.length),∀t (ai:t<(f.set k (f[k].Fk y)).length),Bu (f.set k (f[k].Fk y))[t]):=G fun f _ h y k T t ai=>by
     rw[zr]at ai;by_cases e:k=t
     ·subst e;simp only[IB];exact h k T
     ·rw[Rn e];exact h t ai
    have iM:Hid (∀t (ai:t<(l.set j ((l[j]'m.out).Fk g)).length),Bu (l.set j ((l[j]'m.out).Fk g))[t]):=G (Z.out l rfl fV.out g j m.out);clear ne bo k6 V T4 U au;by_cases pj:yX=0
    ·subst pj
     go_wp2;exact⟨⟨_,j+1,by rw[zr];exact r.out,z,bG,I.out,ip.out g ag,iM,F.out⟩,by simp[RowKit.intOf];omega⟩
    ·have fo:0<(yX:Int):=z;rcases ht.out with ax|⟨eo,gM,rfl,q_⟩
     ·omega
     ·obtain⟨x,H⟩:=q_ 0 z;rw[h7]at H;have ab:=K' x 4 ak ak;have l1:=Wp x (show(0:Int)<4 by decide);have ud: -4<x.tmod 4:=by have:=ae_ x (show(0:Int)<4 by decide);omega
      obtain⟨c1,hL,aj⟩:=I.out.Un j (by rw[zr];exact m.out);obtain⟨dX,c1⟩:∃dX,a_.cell? ⟨b,j*16,none⟩=some (.int .i64 dX):=⟨_,c1⟩
      go_wp2;refine⟨⟨_,j+1,by rw[zr,zr];exact r.out,z,bG,I.out.ars j (by rw[zr];exact m.out) _,fun t ai X=>?_,G (Z.out _ (by rw[zr]) iM.out _ j _),F.out.setCell (p:=⟨b,j*16,none⟩) af _⟩,by simp[RowKit.intOf];omega⟩;rw[zr]at ai;by_cases e:j=t
      ·subst e;simp only[IB];show 1<=1+x.tmod 4%4/\1+x.tmod 4%4<=4;omega
      ·rw[Rn e];exact ip.out g ag t ai X
  ·have jq:¬(j:Int)<d.length:=z;have r:=G B;have O:=G E;have hY:=G q;clear q E B
   go_wp2;go_ret;exact⟨⟨a,c,l,hU (fun n=>Ending.returned (.slice a n c)) r.out.symm,r.out.trans u.out,hY.out.low fun b A=>cO (Br iY) A,fun x H=>by obtain⟨t,ai,rfl⟩:=IF.1 H;exact⟨O.out t ai (by have:=r.out;omega),fV.out t ai⟩⟩,A⟩
end Go.bS
namespace Go.bS
open Go Go.Proofs.Tryz Go.Proofs Go.RowKit Go.Lib Go.aJ Go.Maps
theorem aDA(d:Option Addr)(fi:Nat)(R:List cf)(w:World)(c:iQ aV w d R)(aa:∀m (h:m+1<R.length),(R[m]'z).id<R[m+1].id) {t0 dI cG t3 t4 t5 ky S t9 f uv vX vY uw vZ v_ y1 v' ux uy uz t22 t23 uA t25 uB uC uD uE wa wb t32 wd we t35 t36 wg wh wi wj t41 wk wl t44 wm t46 wn wo wq ws wt wu t53 wv ww wx t57 wy wz wA wB wC t63 t64 wD wE wF wG wH y2 y3 y4 y5 y6 y7 y8 y9 y_ y' za zb zc zd ze zf zg zh zi zj zk zl zm H2 H3 H4 H5 H6 H7 H8 HI HJ HK HL T U V X Y Z HS HT HU HV HW HX HY HZ x y B C D E F H I J K L M N O j k l n o q r s t u P g Q:Value}{bE:Act->World->Prop}{yi:Exit->Act->World->Prop} (cF:∀{z4 ag aq av aw ay az aA ah ai aj ak al am an ao ab ad ae af:Value} (w':World),β w w'->bE ⟨#[t0,dI,cG,t3,z4,t5,ky,S,.slice d R.length fi,t9,f,uv,vX,vY,uw,vZ,ag,y1,v',ux,uy,uz,t22,t23,uA,t25,uB,uC,uD,uE,wa,wb,t32,wd,we,t35,t36,wg,wh,wi,wj,t41,wk,wl,t44,wm,t46,wn,wo,wq,ws,wt,wu,t53,wv,ww,wx,t57,wy,wz,wA,wB,wC,t63,t64,wD,wE,wF,wG,wH,y2,y3,y4,y5,y6,y7,y8,y9,y_,y',za,zb,zc,zd,ze,zf,aq,av,aw,ay,az,aA,ah,ai,aj,ak,al,am,an,ao,ab,ad,ae,af,T,U,V,X,Y,Z,HS,HT,HU,HV,HW,HX,HY,HZ,x,y,B,C,D,E,F,H,I,J,K,L,M,N,O,j,k,l,n,o,q,r,s,t,u,P,g,Q],[]⟩ w'): Code.wp prog (VF 21 (f3.body.getD .ret)) (Exit.then bE yi) ⟨#[t0,dI,cG,t3,t4,t5,ky,S,.slice d R.length fi,t9,f,uv,vX,vY,uw,vZ,v_,y1,v',ux,uy,uz,t22,t23,uA,t25,uB,uC,uD,uE,wa,wb,t32,wd,we,t35,t36,wg,wh,wi,wj,t41,wk,wl,t44,wm,t46,wn,wo,wq,ws,wt,wu,t53,wv,ww,wx,t57,wy,wz,wA,wB,wC,t63,t64,wD,wE,wF,wG,wH,y2,y3,y4,y5,y6,y7,y8,y9,y_,y',za,zb,zc,zd,ze,zf,zg,zh,zi,zj,zk,zl,zm,H2,H3,H4,H5,H6,H7,H8,HI,HJ,HK,HL,T,U,V,X,Y,Z,HS,HT,HU,HV,HW,HX,HY,HZ,x,y,B,C,D,E,F,H,I,J,K,L,M,N,O,j,k,l,n,o,q,r,s,t,u,P,g,Q],[]⟩ w:=by
 have ls:=G fun W (ar:β w W)=>c.K ar;have aB:=c.1;have ht:=G aa;have gz:=@G _ @cF;clear c aa cF;show Code.wp prog (Code.seq _ _) _ _ _
 go_wp2;go_loopw [16] (fun i wr=>∃m:Nat,(m+1<=R.length∨m=0)/\i=.int .i64 ((m:Int)+1)/\β w wr) (fun i _=>R.length-(RowKit.intOf i).toNat);case atStart=>exact⟨0,.inr rfl,rfl,br _ _⟩
 case round=>
  obtain⟨m,ap,rfl,A⟩:=hrel;by_cases au:m+1<R.length
  ·have jq:(m:Int)+1<(R.length:Int):=z;have ei:(0:Int)<=(m:Int)+1:=z;have hA:(0:Int)<=(m:Int)+1-1:=z;have gU:((m:Int)+1-1)<(R.length:Int):=z;have kf:((m:Int)+1-1).toNat=m:=z;have mn:((m:Int)+1).toNat=m+1:=z;have e:=ls.out wr A;obtain⟨gs,rfl,_,_,_⟩:=e.2 z;have b:iQ aV wr (some ⟨gs,0,none⟩) R:=e;have bo:=(iQ.Un b m z).1;have c1:=(iQ.Un b (m+1) au).1;have ax:=ht.out m au;have a:=G A;clear e b A;generalize (R[m]'z).id=dX at*;generalize R[m+1].id=dl at*;have hv:decide (dl<=dX)=false:=bz
   go_wp2;go_quiet (fail)
   go_wp2;exact⟨⟨m+1,.inl z,bG,⟨a.out.os,a.out.tape,a.out.output,a.out.size,a.out.block⟩⟩,by simp[RowKit.intOf];omega⟩
  ·have jq:¬(m:Int)+1<(R.length:Int):=z;have a:=G A;clear A
   go_wp2;exact gz.out _ a.out
structure x6 (base:Nat) (w:World) (v:Value) (l:List cf):Prop where
 o:∃e6:List (Array Value),e6.length=l.length/\w.ownsRow base 44 16 v l.length (e6.flatMap Array.toList)/\∀j (H:j<e6.length) (I:j<l.length),iP (fun b=>b<base) w e6[j] l[j]
theorem x6.nil(base:Nat)(w:World):x6 base w (.slice none 0 0) []:=⟨[],rfl,mT _ _ _ _,fun j H=>by cases H⟩
variable{w:World}{v:Value}
theorem x6.gX{base:Nat}{l:List cf}(h:x6 base w v l):∃a c,v=.slice a l c:=by
 exact UI
variable{w':World}
theorem Yc{base:Nat}(h:Below base w w'):eQ (fun b=>b<base) w w':=⟨h.size,fun b A _=>h.block b A⟩
theorem x6.Ut{base:Nat}{l:List cf}(h:x6 base w v l)(k:l.length<=12):∃a c,v=.slice a l c/\iQ aV w a l:=by
 obtain⟨e6,H,I,ah⟩:=h.o;obtain⟨a,c,rfl⟩:=h.gX;refine⟨a,c,rfl,k,fun ae=>?_⟩;have e8:∀F∈e6,F.size=16:=fun F b_=>by exact an4
 have qr:=I;rcases I.2 with⟨n,o⟩|⟨g,cap,f,aj,m,d,q,r,s,t⟩
 omega
 ·injection aj with lU _ _
  refine⟨g,lU,g',⟨f,d⟩,fun j aa=>?_⟩;have b_:=ah j z aa;refine⟨e6[j],b_.low fun b A=>⟨g',fun e=>z⟩,fun i hi=>?_⟩;exact anK
theorem x6.push{base m g cap:Nat}{w w':World}{l:List cf}{c:List (Array Value)}{x:cf}{F:Array Value}(f:l.length=m)(H:c.length=l.length)(i:∀j (a:j<c.length) (b:j<l.length),iP (fun b=>b<base) w c[j] l[j])(k:iP (fun b=>b<base) w F x)(A:Below base w w')(n:w'.ownsRow base 44 16 (.slice (some ⟨g,0,none⟩) (m+1) cap) (m+1) (c.flatMap Array.toList++F.toList)):x6 base w' (.slice (some ⟨g,0,none⟩) (m+1) cap) (l++[x]):=by
 subst f;refine⟨c++[F],by simp[H],by simpa using n,fun j a b=>?_⟩;by_cases e:j<c.length
 ·have d:j<l.length:=z;rw[xW e,xW d];exact(i j e d).ex (Yc A)
 ·have d:¬j<l.length:=z;rw[xX z,xX z];simp only[LP];exact k.ex (Yc A)
theorem aDB(a:Option Addr)(c:Nat)(l:List cf)(w:World)(j:iQ aV w a l) {t0 q cG t3 t4 t5 ky Lm t9 I uv vX vY uw vZ v_ v' ux uy uz t22 t23 uA t25 uB uC uD uE wa wb t32 wd we t35 t36 wg wh wi wj t41 wk wl t44 wm t46 wn wo wq ws wt wu t53 wv ww wx t57 wy wz wA wB wC t63 t64 wD wE wF wG wH y2 y3 y4 y5 y6 y7 y8 y9 y_ y' za zb zc zd ze zf zg zh zi zj zk zl zm H2 H3 H4 H5 H6 H7 H8 HI HJ HK HL HM HN HO HP HQ HR HS HT HU HV HW HX HY HZ V W X Y Z EQ ER ES ET EU EV EW EX EY EZ L M N O P Q R S T U E_ K Fa:Value}{bE:Act->World->Prop}{yi:Exit->Act->World->Prop} (cF:∀(hS:Option Addr) (QJ:Nat) {ab aq ar au av ad ae af ag ah ai al am an ap:Value} (w':World),β w w'->iQ aV w' hS l.reverse->bE ⟨#[t0,q,cG,t3,t4,t5,ky,.slice a l.length c,Lm,t9,I,uv,vX,vY,uw,vZ,v_,.slice hS l.length QJ,ab,ux,uy,uz,t22,t23,uA,t25,uB,uC,uD,uE,wa,wb,t32,wd,we,t35,t36,wg,wh,wi,wj,t41,wk,wl,t44,wm,t46,wn,wo,wq,ws,wt,wu,t53,wv,ww,wx,t57,wy,wz,wA,wB,wC,t63,t64,wD,wE,wF,wG,wH,y2,y3,y4,y5,y6,y7,y8,y9,y_,y',za,zb,zc,zd,ze,zf,zg,zh,zi,zj,zk,zl,zm,H2,H3,H4,H5,H6,H7,H8,HI,HJ,HK,HL,aq,ar,au,av,ad,ae,af,ag,ah,ai,al,am,an,ap,V,W,X,Y,Z,EQ,ER,ES,ET,EU,EV,EW,EX,EY,EZ,L,M,N,O,P,Q,R,S,T,U,E_,K,Fa],[]⟩ w'): Code.wp prog (VF 27 (f3.body.getD .ret)) (Exit.then bE yi) ⟨#[t0,q,cG,t3,t4,t5,ky,.slice a l.length c,Lm,t9,I,uv,vX,vY,uw,vZ,v_,.slice none 0 0,v',ux,uy,uz,t22,t23,uA,t25,uB,uC,uD,uE,wa,wb,t32,wd,we,t35,t36,wg,wh,wi,wj,t41,wk,wl,t44,wm,t46,wn,wo,wq,ws,wt,wu,t53,wv,ww,wx,t57,wy,wz,wA,wB,wC,t63,t64,wD,wE,wF,wG,wH,y2,y3,y4,y5,y6,y7,y8,y9,y_,y',za,zb,zc,zd,ze,zf,zg,zh,zi,zj,zk,zl,zm,H2,H3,H4,H5,H6,H7,H8,HI,HJ,HK,HL,HM,HN,HO,HP,HQ,HR,HS,HT,HU,HV,HW,HX,HY,HZ,V,W,X,Y,Z,EQ,ER,ES,ET,EU,EV,EW,EX,EY,EZ,L,M,N,O,P,Q,R,S,T,U,E_,K,Fa],[]⟩ w:=by
 obtain⟨Po,OU,Pi,h1,fU⟩:=im abP;have eR:=G j.2;have pM:=j.1;have gz:=@G _ @cF;clear j cF;show Code.wp prog (Code.seq _ _) _ _ _
 go_wp2;go_loopw [17,18] (fun v i wr=>∃t m:Nat,t+m=l.length/\i=.int .i64 ((t:Int)-1)/\x6 w.heap.size wr v (l.reverse.take m)/\β w wr) (fun _ i _=>(RowKit.intOf i+1).toNat);case atStart=>exact⟨l.length,0,rfl,rfl,x6.nil _ _,br _ _⟩
 case round=>
  obtain⟨t,m,aB,rfl,d,A⟩:=hrel;obtain⟨ra,rc,Pc⟩:=d.gX;have e:(l.reverse.take m).length=m:=by rw[nu,LR];omega
  rw[e]at Pc;subst Pc;rcases t with _|t
  ·obtain rfl:m=l.length:=z;rw[uK (by rw[LR];exact aZ _)]at d;obtain⟨a',fd,cg,fu⟩:=d.Ut (by rw[LR];exact pM);rw[LR]at cg;cases cg;have dC:((0:Nat):Int)-1= -1:=rfl;rw[dC];have hY:=G fu;have f:=G A;clear fu A d
   go_wp2;exact gz.out ra rc _ f.out hY.out
  ·have dC:((t+1:Nat):Int)-1=(t:Int):=z;rw[dC];have t0:(0:Int)<=(t:Int):=z;have q:(t:Int)<l.length:=z;obtain⟨cb,rfl,_,⟨ck,jy⟩,sI⟩:=eR.out z;obtain⟨F,pg,yt⟩:=sI t z;have cK:∃x,x=l[t]'z/\iP (fun b=>b<w.heap.size) w F x:=⟨_,rfl,pg.lt.low fun _ h=>h.2⟩;have kD:=bF jy;clear pg sI jy;obtain⟨x,Ee,E,H,b4,o,k,B,n,r,s,u,y,C,D,rfl,ba,bx,dt⟩:=cK;have aw:=G (show iP (fun b=>b<w.heap.size) w (gY x.id x.c_ x.gq x.dj x.kd E x.hh.length H b4 o k B n r s u y x.fm x.e5 C x.prog.length D) x from⟨E,H,b4,o,k,B,n,r,s,u,y,C,D,rfl,ba,bx,dt⟩);have Df:Hid (l.reverse.take (m+1)=l.reverse.take m++[x]):=G (by
    rw[p9 (by rw[LR];omega),List.getElem_reverse,Ee]
    congr 3
    omega)
   obtain⟨dC,aj,aF,bq,cI,hr,iV,jY,tM,vm,Ah,Ai,Aj,Ak,Al,Am⟩:=Eg (fun i h=>(A.cell kD).trans (yt i h));obtain⟨W1,Oj,g,J⟩:=d.o;rw[e]at g;have ts:=G Oj;have lO:=G g;have zH:=G J;have f:=G A;have ax:=G e;have aA:=A.size;clear yt Ee ba bx dt d Oj g J A e
   go_wp2_with (at_builtin;refine Ri _ rfl _ _ 31 rfl w.heap.size 44 Po _ 16 216 aeZ OU Pi h1 fU rfl ak (.slice ra m rc) m (W1.flatMap Array.toList) rfl (lO.out.alloc _) ⟨wr.heap.size,0,none⟩ 1 1 (gY x.id x.c_ x.gq x.dj x.kd E x.hh.length H b4 o k B n r s u y x.fm x.e5 C x.prog.length D).toList rfl rfl (rA (px wr _)) (by simp[Value.oneCell']) ak (by unfold maxLen;omega) z bz (wr.heap.size+1) ao ?_;intro vo DA gG yI yD ay az);have aa:Below w.heap.size wr gG:=((br w.heap.size wr).alloc aA _).grown yD bz (fun b A=>(lO.out.lt b A).1);have Om:=x6.push ax.out ts.out zH.out (aw.out.ex (Yc f.out)) aa yI;rw[←Df.out]at Om;exact⟨⟨t,m+1,z,bG,Om,f.out.trans (aa)⟩,by simp[RowKit.intOf]⟩
end Go.bS
namespace Go.bh.N
open Go Go.cv Go.Proofs Go.da Go.aJ
def F'(h:aw)(b e o:Nat)(l:List O):Bool:=match h.cR b with
 |some (.cells a vs _ _)=>Nat.beq e a&&O.pI ((vs.drop o).take l.length) l
 |_=>false
def EK:List (ByteArray×Nat)->List Nat->List O
 |c::l,m::a=>pa c.1::.int .i64 (.ofNat c.2)::.int .i64 (.ofNat m)::EK l a
 |_,_=>[]
def F6:List Nat->List O
 |[]=>[]
 |a::l=>.int .i64 (.ofNat a)::F6 l
def Nu(c:Option Nat)(l:Nat):Bool:=match c with
 |none=>true
 |some n=>Nat.ble l n
def Yj(h:aw)(a:O)(args:List Nat):Bool:=match a with
 |.slice b o l 1 c=>Nat.beq l args.length&&Nu c l&&F' h b 3 o (F6 args)
 |.lA _ _ _ _=>args.isEmpty
 |_=>false
def uu(h:aw):List O->List bA->Bool
 |_,[]=>true
 |hd::op::aG::a::vs,r::l=>O.beq hd (.int .i64 (.ofNat r.h))&&O.beq op (pa r.op)&&O.beq aG (pa r.aG)&&Yj h a r.args&&uu h vs l
 |_,_=>false
def aq8(h:aw)(b o:Nat)(l:List bA):Bool:=match h.cR b with
 |some (.cells e vs _ _)=>Nat.beq e 96&&uu h (vs.drop o) l
 |_=>false
def B9(S:cU)(a:List Nat)(x:Option (O×aw)):Bool:=match x with
 |some (.tup [.agg [nm,db,.slice d f b 2 c1,.slice bL e c 3 c2,.slice rb aE rq 4 c3,al],.int .i64 _,.int .i64 _],h)=>
  O.beq nm (pa S.nm)&&O.beq db (.int .i64 (.ofNat S.db))&&O.beq al (.int .i64 (.ofNat S.al))&&Nat.beq b S.bw.length&&Nat.beq c S.aD.length&&Nat.beq rq S.df.length&&Nat.beq a.length S.aD.length&&a.all (fun m=>Nat.ble 1 m&&Nat.ble m 5)&&
  F' h d 136 f (rV S.bw)&&F' h bL 61 e (EK S.aD a)&&aq8 h rb aE S.df&&Nu c1 b&&Nu c2 c&&Nu c3 rq
 |_=>false
end Go.bh.N
namespace Go.bh.N
open Go Go.Proofs.Tryz Go.cv Go.Proofs Go.da Go.aJ
def aef:List Nat:=[103,114,97,109,109,97,114,32,116,101,120,116,115,32,49,10,99,111,108,117,109,110,32,97,32,116,101,120,116,10,99,111,108,117,109,110,32,98,32,116,101,120,116,10,115,121,109,98,111,108,32,84,32,116,101,120,116,32,52,10,115,121,109,98,111,108,32,85,32,116,101,120,116,32,50,10,114,117,108,101,32,84,32,99,111,108,32,39,97,39,10,114,117,108,101,32,84,32,99,111,108,32,39,98,39,10,114,117,108,101,32,84,32,99,111,110,99,97,116,32,39,39,32,85,32,84,10,114,117,108,101,32,84,32,117,112,112,101,114,32,39,39,32,85,10,114,117,108,101,32,85,32,99,111,108,32,39,97,39,10,114,117,108,101,32,85,32,116,101,120,116,32,39,45,39,10,114,117,108,101,32,85,32,101,120,116,114,97,99,116,32,39,92,100,43,35,49,39,32,85,10,115,116,97,114,116,32,84,10]
theorem aGp:B9 mp [4,2] ((iF prog j8 jO.find 3000).call 13 [.str aef] (hl ⟨.e,13⟩ []))=true:=av
def aeg:List Nat:=[103,114,97,109,109,97,114,32,110,117,109,98,101,114,115,32,49,10,99,111,108,117,109,110,32,110,32,110,117,109,98,101,114,10,99,111,108,117,109,110,32,109,32,110,117,109,98,101,114,10,115,121,109,98,111,108,32,78,32,110,117,109,98,101,114,32,52,10,115,121,109,98,111,108,32,77,32,110,117,109,98,101,114,32,50,10,114,117,108,101,32,78,32,99,111,108,32,39,110,39,10,114,117,108,101,32,78,32,99,111,108,32,39,109,39,10,114,117,108,101,32,78,32,97,100,100,32,39,39,32,77,32,78,10,114,117,108,101,32,78,32,109,117,108,32,39,39,32,78,32,77,10,114,117,108,101,32,77,32,110,117,109,98,101,114,32,39,50,39,10,114,117,108,101,32,77,32,99,111,108,32,39,109,39,10,114,117,108,101,32,77,32,114,111,117,110,100,32,39,49,39,32,77,10,115,116,97,114,116,32,78,10]
theorem aGq:B9 mq [4,2] ((iF prog j8 jO.find 3000).call 13 [.str aeg] (hl ⟨.e,13⟩ []))=true:=av
def aeh:List Nat:=[103,114,97,109,109,97,114,32,100,97,116,101,115,32,49,10,99,111,108,117,109,110,32,100,32,100,97,116,101,10,99,111,108,117,109,110,32,101,32,100,97,116,101,10,99,111,108,117,109,110,32,110,32,110,117,109,98,101,114,10,115,121,109,98,111,108,32,68,32,100,97,116,101,32,52,10,115,121,109,98,111,108,32,78,32,110,117,109,98,101,114,32,51,10,115,121,109,98,111,108,32,69,32,100,97,116,101,32,49,10,114,117,108,101,32,68,32,99,111,108,32,39,100,39,10,114,117,108,101,32,68,32,100,97,121,115,32,39,39,32,68,32,78,10,114,117,108,101,32,78,32,99,111,108,32,39,110,39,10,114,117,108,101,32,78,32,110,117,109,98,101,114,32,39,55,39,10,114,117,108,101,32,78,32,98,101,116,119,101,101,110,32,39,39,32,69,32,69,10,114,117,108,101,32,69,32,99,111,108,32,39,100,39,10,114,117,108,101,32,69,32,99,111,108,32,39,101,39,10,115,116,97,114,116,32,68,10]
theorem aGr:B9 l3 [4,3,1] ((iF prog j8 jO.find 3000).call 13 [.str aeh] (hl ⟨.e,13⟩ []))=true:=av
def aei:List Nat:=[103,114,97,109,109,97,114,32,108,111,111,107,117,112,115,32,49,10,99,111,108,117,109,110,32,99,111,100,101,32,116,101,120,116,10,99,111,108,117,109,110,32,110,32,110,117,109,98,101,114,10,115,121,109,98,111,108,32,78,32,110,117,109,98,101,114,32,52,10,115,121,109,98,111,108,32,84,32,116,101,120,116,32,50,10,114,117,108,101,32,78,32,108,111,111,107,117,112,32,39,112,114,105,99,101,115,46,99,111,100,101,46,112,114,105,99,101,58,110,117,109,98,101,114,39,32,84,10,114,117,108,101,32,78,32,99,111,108,32,39,110,39,10,114,117,108,101,32,78,32,109,117,108,32,39,39,32,78,32,78,10,114,117,108,101,32,84,32,99,111,108,32,39,99,111,100,101,39,10,114,117,108,101,32,84,32,117,112,112,101,114,32,39,39,32,84,10,114,117,108,101,32,84,32,116,101,120,116,32,39,65,39,10,115,116,97,114,116,32,78,10]
theorem aGs:B9 n0 [4,2] ((iF prog j8 jO.find 3000).call 13 [.str aei] (hl ⟨.e,13⟩ []))=true:=av
def aej:List Nat:=[103,114,97,109,109,97,114,32,99,104,111,105,99,101,115,32,49,10,99,111,108,117,109,110,32,115,32,116,101,120,116,10,99,111,108,117,109,110,32,110,32,110,117,109,98,101,114,10,115,121,109,98,111,108,32,84,32,116,101,120,116,32,53,10,115,121,109,98,111,108,32,66,32,98,111,111,108,32,51,10,115,121,109,98,111,108,32,78,32,110,117,109,98,101,114,32,49,10,115,121,109,98,111,108,32,67,32,116,101,120,116,32,49,10,114,117,108,101,32,84,32,99,111,108,32,39,115,39,10,114,117,108,101,32,84,32,116,101,120,116,32,39,108,111,119,39,10,114,117,108,101,32,84,32,105,102,32,39,116,101,120,116,39,32,66,32,67,32,84,10,114,117,108,101,32,66,32,108,101,115,115,32,39,39,32,78,32,78,10,114,117,108,101,32,66,32,109,97,116,99,104,32,39,92,117,43,39,32,67,10,114,117,108,101,32,78,32,99,111,108,32,39,110,39,10,114,117,108,101,32,78,32,110,117,109,98,101,114,32,39,49,48,39,10,114,117,108,101,32,67,32,99,111,108,32,39,115,39,10,114,117,108,101,32,67,32,116,101,120,116,32,39,104,105,103,104,39,10,115,116,97,114,116,32,84,10]
theorem aGt:B9 k0 [5,3,1,1] ((iF prog j8 jO.find 3000).call 13 [.str aej] (hl ⟨.e,13⟩ []))=true:=av
def aek:List Nat:=[103,114,97,109,109,97,114,32,116,97,98,108,101,115,32,49,10,99,111,108,117,109,110,32,105,116,101,109,115,32,116,97,98,108,101,10,99,111,108,117,109,110,32,107,32,116,101,120,116,10,115,121,109,98,111,108,32,78,32,110,117,109,98,101,114,32,52,10,115,121,109,98,111,108,32,88,32,116,97,98,108,101,32,51,10,115,121,109,98,111,108,32,84,32,116,101,120,116,32,49,10,114,117,108,101,32,78,32,115,117,109,32,39,97,109,111,117,110,116,62,61,48,39,32,88,10,114,117,108,101,32,78,32,99,111,117,110,116,32,39,39,32,88,10,114,117,108,101,32,78,32,97,100,100,32,39,39,32,78,32,78,10,114,117,108,101,32,88,32,99,111,108,32,39,105,116,101,109,115,39,10,114,117,108,101,32,88,32,119,104,101,114,101,32,39,107,105,110,100,39,32,88,32,84,10,114,117,108,101,32,84,32,99,111,108,32,39,107,39,10,114,117,108,101,32,84,32,116,101,120,116,32,39,97,39,10,115,116,97,114,116,32,78,10]
theorem aGu:B9 mR [4,3,1] ((iF prog j8 jO.find 3000).call 13 [.str aek] (hl ⟨.e,13⟩ []))=true:=av
end Go.bh.N
namespace Go.bh.N
open Go Go.Proofs.Tryz Go.cv Go.Proofs Go.RowKit Go.da Go.aJ
section
variable {ρ:cd} {σ:b6} {h:aw} {w:World}
theorem Yq{b e o:Nat}{l:List O}(a:F' h b e o l=true)(j:cZ ρ σ h w){p:cv.nB}(ag:σ b=some p):∃(arr:Array Value) (bb:Nat×Nat) (cs:List Value),w.heap[p.aY]? =some (Obj.cells arr e bb)/\bY ρ σ l=some cs/\∀i,i<l.length->arr[p.del+o+i]? =cs[i]? :=by
 unfold F' at a;split at a
 ·rename_i s vs t wr A;simp only[dQ]at a;obtain rfl:=gx a.1;have I:=O.tE a.2;obtain⟨q,arr,bb,cs,d,f,n,r,u,k,x,m,_⟩:=j.cells A;obtain rfl:p=q:=gQ (ag.symm.trans d);have g:=tI l.length (vj o k);refine⟨arr,bb,(cs.drop o).take l.length,f,by rw[←g,I],fun i hi=>?_⟩;have c:=hU List.length I;simp only[nu,qN]at c;rw[kN,m (o+i) z,oZ,co hi,LO]
 ·cases a
theorem Yr{b e o:Nat}{l:List O}(a:F' h b e o l=true)(f:cZ ρ σ h w){p:cv.nB}(ag:σ b=some p):l.length=0∨o+l.length<=p.tot:=by
 unfold F' at a;split at a
 ·rename_i k vs t wr A;simp only[dQ]at a;have I:=O.tE a.2;obtain⟨q,arr,bb,cs,d,g,i,j,n,m,r,s,_⟩:=f.cells A;obtain rfl:p=q:=gQ (ag.symm.trans d);have c:=hU List.length I;simp only[nu,qN]at c;omega
 ·cases a
theorem SE{p:cv.nB}{o af l:Nat}{c:Option Nat}(b:0<af)(a:Nu c l=true)(h:l=0∨o+l*af<=p.tot):l<=jv p o af c:=by
 cases c with
 |some n=>exact hH a
 |none=>
  show l<=(p.tot-o)/af;rcases h with h|h
  subst h;exact dx _;exact(ata b).2 z
theorem aq9:∀(l:List bA) (vs:List O),uu h vs l=true->l.length*4<=vs.length
 |[],_,_=>by simp
 |r::l,hd::op::aG::a::vs,b=>by
  simp only[uu,dQ]at b
  have:=aq9 l vs b.2
  simp;omega
 |r::l,[],b=>by simp[uu]at b
 |r::l,[_],b=>by simp[uu]at b
 |r::l,[_,_],b=>by simp[uu]at b
 |r::l,[_,_,_],b=>by simp[uu]at b
theorem axA(n:Nat):aN ρ σ (.int .i64 (.ofNat n))=some (.int .i64 (n:Int)):=by simp[aN]
theorem aiM:∀cs,bY ρ σ (rV cs)=some (rU cs)
 |[]=>by simp[rV,rU,bY]
 |c::l=>by simp[rV,rU,bY,BY,aN,aiM l]
def Ao(a:List Nat)(i:Nat):Nat:=a.getD i 1
theorem aiP(F:Nat->Nat):∀(ss:List (ByteArray×Nat)) (a:List Nat) (k:Nat),a.length=ss.length->(∀i (hi:i<a.length),a[i]=F (k+i))->bY ρ σ (EK ss a)=some (rr ss F k)
 |[],[],_,_,_=>by simp[EK,rr,bY]
 |c::l,m::f,k,d,b=>by
  have ae:=b 0 (C0 _)
  simp only[Bp,h7]at ae
  have e:=aiP F l f (k+1) (by simpa using d) fun i hi=>by
   have:=b (i+1) (WD hi)
   simp only[IA]at this
   rw[this,show k+1+i=k+(i+1) by omega]
  simp[EK,rr,bY,BY,aN,e,←ae]
theorem ad_:∀(ss:List (ByteArray×Nat)) (a:List Nat),a.length=ss.length->(EK ss a).length=ss.length*3
 |[],[],_=>rfl
 |c::l,m::b,h=>by simp[EK,ad_ l b (by simpa using h)];omega
theorem aiL:∀l,bY ρ σ (F6 l)=some (sB l)
 |[]=>by simp[F6,sB,bY]
 |a::l=>by simp[F6,sB,bY,aN,aiL l]
theorem Yi:∀l,(F6 l).length=l.length
 |[]=>rfl
 |a::l=>by simp[F6,Yi l]
theorem YR:∀l,(rV l).length=l.length*2
 |[]=>rfl
 |a::l=>by simp[rV,YR l];omega
variable{c:Value}
theorem aww{a:O}{args:List Nat}(d:Yj h a args=true)(m:cZ ρ σ h w)(f:aN ρ σ a=some c):∃j k ac,c=.slice (some ⟨j,k,none⟩) args ac/\qU w (some ⟨j,k,none⟩) args/\L0 w (some ⟨j,k,none⟩) args/\args.length<=ac:=by
 unfold Yj at d;split at d;rename_i b o l cap;simp only[dQ]at d;obtain rfl:=gx d.1.1;simp only[aN,iz]at f;obtain⟨p,ag,rfl⟩:=f;obtain⟨arr,bb,cs,g,n,r⟩:=Yq d.2 m ag;have q:=Yr d.2 m ag;rw[Yi]at q;rw[aiL]at n;cases n;refine⟨p.aY,p.del+o,_,rfl,fun _=>⟨_,_,rfl,c8 g,fun i hi=>?_⟩,fun _=>⟨_,_,rfl,_,_,g⟩,SE ak d.1.2 z⟩;simp only[World.cell?,g];rw[r i (by rw[Yi];exact hi)];exact Yh args i hi
 ·rename_i b o l e;have:args=[]:=by simpa using d
  subst this;simp only[aN,iz]at f;obtain⟨p,ag,rfl⟩:=f;exact⟨_,_,_,rfl,fun h=>by simp at h,fun h=>by simp at h,dx _⟩
 cases d
theorem aq_(f:cZ ρ σ h w){B:Nat}:∀(l:List bA) (vs:List O) (cs:List Value) (base:Nat),uu h vs l=true->bY ρ σ vs=some cs->(∀i,i<vs.length->w.cell? ⟨B,base+i,none⟩=cs[i]?)->∀i (hi:i<l.length),∃e ac,Jf w B (base+i*4) l[i] e ac/\L0 w e l[i].args/\l[i].args.length<=ac
 |[],_,_,_,_,_,_,i,hi=>by simp at hi
 |r::l,hd::op::aG::a::vs,cs,base,b,c,d,i,hi=>by
  simp only[uu,dQ]at b
  obtain⟨⟨⟨⟨b4,dF⟩,gL⟩,A⟩,g⟩:=b
  have b4:=O.beq_eq b4
  have dF:=O.beq_eq dF
  have gL:=O.beq_eq gL
  subst b4 dF gL
  simp only[bY,BY,axA]at c
  cases aH:aN ρ σ a with
  |none=>rw[aH]at c;simp at c
  |some ca=>
   cases J:bY ρ σ vs with
   |none=>rw[aH,J]at c;simp at c
   |some y=>
    rw[aH,J]at c
    simp only[cq]at c
    subst c
    cases i with
    |zero=>
     obtain⟨t,x,ac,rfl,s,o,n⟩:=aww A f aH
     have z:=d 0 ao
     have k:=d 1 ao
     have m:=d 2 ao
     have q:=d 3 ao
     refine⟨_,ac,⟨?_,?_,?_,?_,s,⟨t,x,rfl⟩⟩,o,n⟩
     ·simpa using z
     ·simpa using k
     ·simpa using m
     ·simpa using q
    |succ i=>
     have u:=aq_ f l vs y (base+4) g J (fun j C=>by
      have:=d (j+4) bz
      rw[show base+4+j=base+(j+4) by omega,this]
      simp) i (by simpa using hi)
     rw[show base+(i+1)*4=base+4+i*4 by omega]
     exact u
 |r::l,[],_,_,b,_,_,_,_=>by simp[uu]at b
 |r::l,[_],_,_,b,_,_,_,_=>by simp[uu]at b
 |r::l,[_,_],_,_,b,_,_,_,_=>by simp[uu]at b
 |r::l,[_,_,_],_,_,b,_,_,_,_=>by simp[uu]at b
theorem azD{S:cU}{d:List Nat}{v:O}{c:Value}(o:B9 S d (some (v,h))=true)(g:cZ ρ σ h w)(e:aN ρ σ v=some c):∃F a b,c=.tuple #[.agg F,.int .i64 a,.int .i64 b]/\x5 S (Ao d) S.df w F/\∀i,1<=Ao d i/\Ao d i<=5:=by
 unfold B9 at o;split at o
 ·rename_i nm db dr A NA cc bL r eq aW rb aE rq rc al x y bc vw;cases vw;simp only[dQ]at o;obtain⟨⟨⟨⟨⟨⟨⟨⟨⟨⟨⟨⟨⟨b4,dF⟩,gL⟩,s8⟩,J⟩,U⟩,n⟩,Q⟩,C⟩,D⟩,f⟩,M⟩,N⟩,P⟩:=o;have b4:=O.beq_eq b4;have dF:=O.beq_eq dF;have gL:=O.beq_eq gL;subst b4 dF gL;obtain rfl:=gx s8;obtain rfl:=gx J;obtain rfl:=gx U;have n:=gx n;have fl:∀i,1<=Ao d i/\Ao d i<=5:=fun i=>by
   unfold Ao;rw[p8];cases hi:d[i]? with
   |none=>simp
   |some m=>have:=h6.1 Q m (CY hi);simp only[dQ]at this;exact⟨by simpa using this.1,by simpa using this.2⟩
  simp only[aN,bY,BY,iz]at e;cases k:σ dr with
  |none=>rw[k]at e;simp at e
  |some t=>
   cases s:σ bL with
   |none=>rw[k,s]at e;simp at e
   |some j=>
    cases B:σ rb with
    |none=>rw[k,s,B]at e;simp at e
    |some u=>
     rw[k,s,B]at e;simp only[n6,cq]at e;obtain⟨l,K,rfl⟩:=e;subst K;obtain⟨V,I,aa,bW,cD,a3⟩:=Yq C g k;rw[aiM]at cD;cases cD;obtain⟨ad,mD,jV,G,E,cw⟩:=Yq D g s;rw[aiP (Ao d) S.aD d 0 n fun i hi=>by simp[Ao,hi]]at E;cases E;have Y:=Yr C g k;rw[YR]at Y;have X:=Yr D g s;rw[ad_ _ _ n]at X;unfold aq8 at f;split at f
     ·rename_i bq R t3 ab W;simp only[dQ]at f;obtain rfl:=gx f.1;obtain⟨q,arr,bb,cs,L,T,ba,bx,dt,Z,hf,m8,_⟩:=g.cells W;obtain rfl:u=q:=gQ (B.symm.trans L);refine⟨_,x,y,rfl,⟨_,_,_,_,_,_,rfl,⟨t.aY,t.del+A,V,I,rfl,bW,fun i hi=>?_⟩,⟨j.aY,j.del+r,rfl,⟨_,_,G⟩,fun i hi=>?_⟩,⟨u.aY,u.del+aE,rfl,⟨_,_,T⟩,?_⟩,SE ak M z,SE ak N z,SE ak P (by have:=aq9 _ _ f.2;rw[qN]at this;omega)⟩,fl⟩
      ·have H:=YQ S.bw i hi;have bZ:i*2+1<(rV S.bw).length:=by rw[YR];omega
       rw[a3 (i*2) z,show t.del+A+i*2+1=t.del+A+(i*2+1) by omega,a3 (i*2+1) bZ];exact H
      ·have H:=ad9 (Ao d) S.aD 0 i hi;rw[gP]at H;have bZ:i*3+2<(EK S.aD d).length:=by rw[ad_ _ _ n];omega
       simp only[World.cell?,G];rw[cw (i*3) z,show j.del+r+i*3+1=j.del+r+(i*3+1) by omega,cw (i*3+1) z,show j.del+r+i*3+2=j.del+r+(i*3+2) by omega,cw (i*3+2) bZ];exact H
      ·refine aq_ g S.df (R.drop aE) (cs.drop aE) (u.del+aE) f.2 (vj aE Z) fun i hi=>?_;simp only[qN]at hi;rw[kN,hf (aE+i) z,LO]
     ·cases f
 ·cases o
end
theorem Tk:kA prog nZ:=fun g an=>⟨0,by
 have:prog.globals.size=13:=av
 rw[this]at an
 simp[nZ,an]⟩
theorem Uc(ρ:cd)(w:World):cZ ρ nZ (hl ⟨.e,13⟩ []) w:=by
 exact acm
def ahx(S:cU)(w':World)(e:Ending):Prop:=∃F a b M,e=.returned (.tuple #[.agg F,.int .i64 a,.int .i64 b])/\(∀i,1<=M i/\M i<=5)/\x5 S M S.df w' F/\2<=M S.al
theorem K1(S:cU)(j t:List Nat)(I:2<=Ao j S.al)(ai:t.all (fun n=>decide (n<256))=true)(d:B9 S j ((iF prog j8 jO.find 3000).call 13 [.str t] (hl ⟨.e,13⟩ []))=true)(w:World): χ 13 #[.string (eU t)] w fun e w'=>ahx S w' e:=by
 obtain⟨ρ,o,_⟩:=HC (ni prog) (fun _=>(0,0)) (fun _=>#[]);cases f:(iF prog j8 jO.find 3000).call 13 [.str t] (hl ⟨.e,13⟩ [])with
 |none=>rw[f]at d;cases d
 |some x=>
  obtain⟨v,p⟩:=x;rw[f]at d;have aH:bY ρ nZ [.str t]=some [.string (eU t)]:=by simp only[bY,aN];rw[co ai]
  refine(A7 follows (ρ:=ρ) o (kP.q4 td) tO ayT Tk aH (l:=[]) rfl rfl (Uc ρ w) f rfl).mono ?_;rintro e w' ⟨c,q,rfl,i⟩;obtain⟨g,a,b,rfl,k,m⟩:=azD d i.h i.v;exact⟨⟨g,a,b,_,rfl,m,k,I⟩,i.b⟩
def CJ(n:Nat):List Nat:=if n=0 then aef else if n=1 then aeg else if n=2 then aeh else if n=3 then aei else if n=4 then aej else aek
theorem aGw(n:Nat)(w:World):χ 13 #[.string (eU (CJ n))] w fun e w'=>ahx (cA n) w' e:=by
 unfold cA CJ;by_cases ae:n=0;rw[co ae,co ae];exact K1 _ _ _ ak av aGp w
 rw[bs ae,bs ae];by_cases H:n=1;rw[co H,co H];exact K1 _ _ _ ak av aGq w
 rw[bs H,bs H];by_cases I:n=2;rw[co I,co I];exact K1 _ _ _ ak av aGr w
 rw[bs I,bs I];by_cases b:n=3;rw[co b,co b];exact K1 _ _ _ ak av aGs w
 rw[bs b,bs b];by_cases a:n=4;rw[co a,co a];exact K1 _ _ _ ak av aGt w
 rw[bs a,bs a];exact K1 _ _ _ ak av aGu w
def aI8(t:List Nat)(x:Option (O×aw)):Bool:=match x with
 |some (v,_)=>O.beq v (.str t)
 |none=>false
theorem ayU:j8 14=none:=av
theorem Lf(k:Nat)(t:List Nat)(ai:t.all (fun n=>decide (n<256))=true)(a:aI8 t ((iF prog j8 jO.find 30).call 14 [.int .i64 (.ofNat k)] (hl ⟨.e,13⟩ []))=true)(w:World): χ 14 #[.int .i64 (k:Int)] w fun e w'=>e=.returned (.string (eU t)):=by
 obtain⟨ρ,f,_⟩:=HC (ni prog) (fun _=>(0,0)) (fun _=>#[]);cases b:(iF prog j8 jO.find 30).call 14 [.int .i64 (.ofNat k)] (hl ⟨.e,13⟩ [])with
 |none=>rw[b]at a;cases a
 |some x=>obtain⟨v,g⟩:=x;rw[b]at a;have J:=O.beq_eq (show O.beq v (.str t)=true from a);subst J;refine(A7 follows (ρ:=ρ) f (kP.q4 td) tO ayU Tk (args:=[.int .i64 (.ofNat k)]) (cs:=[.int .i64 (k:Int)]) rfl (l:=[]) rfl rfl (Uc ρ w) b rfl).mono ?_;rintro e w' ⟨c,i,rfl,d⟩;have J:=d.v;simp only[aN]at J;rw[co ai]at J;cases J;exact⟨rfl,d.b⟩
theorem aId(n:Nat)(a:n<6)(w:World):χ 14 #[.int .i64 (n:Int)] w fun e w'=>e=.returned (.string (eU (CJ n))):=by
 have:n=0∨n=1∨n=2∨n=3∨n=4∨n=5:=z;rcases this with rfl|rfl|rfl|rfl|rfl|rfl
 ·exact Lf 0 aef av av w
 ·exact Lf 1 aeg av av w
 ·exact Lf 2 aeh av av w
 ·exact Lf 3 aei av av w
 ·exact Lf 4 aej av av w
 ·exact Lf 5 aek av av w
end Go.bh.N
namespace Go.bh.N
open Go Go.Proofs Go.RowKit Go.da
open Go.aJ (kR tA el uW qG K')
def F2(t:Nat):Prop:=t=136∨t=61∨t=96∨t=3
structure iR (w w':World):Prop where
 af:w.heap.size<=w'.heap.size
 k:∀(b:Nat) (arr:Array Value) (t:Nat) (bb:Nat×Nat),F2 t->w.heap[b]? =some (Obj.cells arr t bb)->w'.heap[b]? =some (Obj.cells arr t bb)
theorem iR.trans{a b c:World}(h:iR a b)(g:iR b c):iR a c:=⟨cO h.af g.af,fun x arr t bb ai d=>g.k x arr t bb ai (h.k x arr t bb ai d)⟩
variable{w w':World}
theorem iR.K(A:β w w'):iR w w':=⟨A.size,fun b arr t bb _ h=>by rw[A.block b (c8 h)];exact h⟩
variable{b t:Nat}
theorem iR.set{cs:Array Value}{fr:Nat×Nat}(A:w.heap[b]? =some (Obj.cells cs t fr))(ai:¬F2 t)(i:Nat)(u:Value):iR w (w.setCell ⟨b,i,none⟩ u):=
 ⟨ao,fun c arr d bb a h=>by
  rw[g_ _ _ _ _ (fun e=>?_)]
  ·exact h
  ·rw[e,A]at h
   cases h
   exact ai a⟩
variable{a:Option Addr}{c:Nat}
theorem iR.next{f:Nat}{n:Nat}{N:Int}{e:Ending}{i:Nat}(g:w.heap[f]? =some (Obj.cells #[.slice a n c,i] 54 (0,0)))(d:uW w f a n N e w'):iR w w':=
 ⟨by rw[d.2.2.1];exact aZ _,fun b arr t bb ai h=>by
  rw[d.2.2.2.1 b (fun e=>?_)]
  ·exact h
  ·rw[e,g]at h
   cases h
   rcases ai with h|h|h|h<;>cases h⟩
theorem iR.cell(a:iR w w')(ai:F2 t)(A:vb w b t)(o:Nat):w'.cell? ⟨b,o,none⟩=w.cell? ⟨b,o,none⟩:=by
 obtain⟨arr,bb,h⟩:=A;simp only[World.cell?,h,a.k b arr t bb ai h]
theorem iR.VK(a:iR w w')(ai:F2 t)(A:vb w b t):vb w' b t:=by
 obtain⟨arr,bb,h⟩:=A;exact⟨arr,bb,a.k b arr t bb ai h⟩
theorem vb.lt(h:vb w b t):b<w.heap.size:=by obtain⟨arr,bb,h⟩:=h;exact c8 h
theorem vb.K{B:Nat}(h:vb w b t)(a:b<B)(A:Below B w w'):vb w' b t:=by
 obtain⟨arr,bb,h⟩:=h;exact⟨arr,bb,by rw[A.block b a];exact h⟩
variable{ss:List (ByteArray×Nat)}{M:Nat->Nat}
theorem BP.at(h:BP w a ss M):sA w a ss M:=by
 obtain⟨b,o,e,ai,c⟩:=h;exact⟨b,o,e,ai.lt,c⟩
variable{ra:Option Addr}
theorem BN.at{rs:List bA}(h:BN w ra rs):wV w ra rs:=by
 obtain⟨b,o,e,ai,a⟩:=h;exact⟨b,o,e,ai.lt,fun i hi=>by obtain⟨c,ac,H,_⟩:=a i hi;exact⟨c,ac,H⟩⟩
theorem BP.hN{d:Option Addr}(h:BP w d ss M)(a:iR w w'):BP w' d ss M:=by
 obtain⟨b,o,e,ai,f⟩:=h;have c:=fun o=>a.cell (t:=61) (.inr (.inl rfl)) ai o;exact⟨b,o,e,a.VK (.inr (.inl rfl)) ai,fun i hi=>by rw[c,c,c];exact f i hi⟩
theorem awx{l:List Nat}(h:qU w a l)(ai:L0 w a l)(d:iR w w'):qU w' a l/\L0 w' a l:=by
 refine⟨fun ae=>?_,fun ae=>?_⟩;obtain⟨b,o,e,k,j⟩:=h ae;obtain⟨f,g,c,A⟩:=ai ae;rw[e]at c;cases c;exact⟨b,o,e,iK k d.af,fun i hi=>by rw[d.cell (t:=3) (.inr (.inr (.inr rfl))) A];exact j i hi⟩;obtain⟨f,g,c,A⟩:=ai ae;exact⟨f,g,c,d.VK (.inr (.inr (.inr rfl))) A⟩
theorem BN.hN{rs:List bA}(h:BN w ra rs)(a:iR w w'):BN w' ra rs:=by
 obtain⟨b,o,e,ai,d⟩:=h;have c:=fun o=>a.cell (t:=96) (.inr (.inr (.inl rfl))) ai o;refine⟨b,o,e,a.VK (.inr (.inr (.inl rfl))) ai,fun i hi=>?_⟩;obtain⟨g,ac,H,I,k⟩:=d i hi;obtain⟨j,f⟩:=awx H.args I a;exact⟨g,ac,⟨by rw[c];exact H.bo,by rw[c];exact H.c1,by rw[c];exact H.c2,by rw[c];exact H.c3,j,H.cA⟩,f,k⟩
variable{ca:Option Addr}
theorem _root_.Go.da.jd.hN{cs:List (ByteArray×Nat)}(h:jd w ca cs)(a:iR w w'):jd w' ca cs:=by
 obtain⟨b,o,arr,bb,e,d,c⟩:=h;exact⟨b,o,arr,bb,e,a.k b arr 136 bb (.inl rfl) d,c⟩
theorem x5.hN{S:cU}{rs:List bA}{F:Array Value}(h:x5 S M rs w F)(a:iR w w'):x5 S M rs w' F:=by
 obtain⟨ca,cc,f,c,ra,rc,e,H,I,d,b⟩:=h;exact⟨ca,cc,f,c,ra,rc,e,H.hN a,I.hN a,d.hN a,b⟩
structure hI (S:cU) (M:Nat->Nat) (rs:List bA) (base:Nat) (w:World) (ca:Option Addr) (cc ew g5 dM fw:Nat):Prop where
 c:jd w ca S.bw
 bP:∃arr,w.heap[ew]? =some (Obj.cells arr 61 (0,0))
 s:BP w (some ⟨ew,0,none⟩) S.aD M
 fX:∃arr,w.heap[dM]? =some (Obj.cells arr 96 (0,0))/\arr.size=fw*4
 r:BN w (some ⟨dM,0,none⟩) rs
 rl:rs.length<=fw
 bL:base<=ew
 rb:base<=dM
 cl:S.bw.length<=cc
 HG:S.aD.length<=g5
variable{cc:Nat}
theorem hI.azC{S:cU}{rs:List bA}{base:Nat}{ew a:Nat}(h:hI S M rs base w ca cc ew c a b):x5 S M rs w #[S.nm,S.db,.slice ca S.bw cc,.slice (some ⟨ew,0,none⟩) S.aD c,.slice (some ⟨a,0,none⟩) rs b,S.al]:=
 ⟨_,_,_,_,_,_,rfl,h.c,h.s,h.r,h.cl,h.HG,h.rl⟩
theorem hI.hN{S:cU}{rs:List bA}{base:Nat}{ew d:Nat}(h:hI S M rs base w ca cc ew d b c)(a:iR w w'):hI S M rs base w' ca cc ew d b c:=by
 obtain⟨arr,H⟩:=h.bP;obtain⟨e,I,f⟩:=h.fX;exact⟨h.c.hN a,⟨arr,a.k _ _ _ _ (.inr (.inl rfl)) H⟩,h.s.hN a,⟨e,a.k _ _ _ _ (.inr (.inr (.inl rfl))) I,f⟩,h.r.hN a,h.rl,h.bL,h.rb,h.cl,h.HG⟩
theorem sg.nx{S:cU}(q:qZ S){M:Nat->Nat}{rs:List bA}(O:0<rs.length){base:Nat}{w:World}{m n l:Value}{a:List uY}(h:sg S M rs base w m n l a):∃ca cc ew d b c,m=.slice ca S.bw.length cc/\n=.slice (some ⟨ew,0,none⟩) S.aD.length d/\l=.slice (some ⟨b,0,none⟩) rs.length c/\hI S M rs base w ca cc ew d b c:=by
 have s:a.length=rs.length:=by rw[←h.e,IC]
 have B:m≠ .slice none 0 0:=fun e=>by
  rcases h.c.2 with⟨_,ae⟩|⟨g,cap,r,aj,_⟩
  ·have:=q.axy;omega
  ·rw[e]at aj;cases aj
 have H:n≠ .slice none 0 0:=fun e=>by
  rcases h.s.2 with⟨_,ae⟩|⟨g,cap,r,aj,_⟩
  ·have:=q.xI;omega
  ·rw[e]at aj;cases aj
 have J:l≠ .slice none 0 0:=fun e=>by
  rcases h.r.2 with⟨_,ae⟩|⟨g,cap,r,aj,_⟩
  ·omega
  ·rw[e]at aj;cases aj
 obtain⟨t,N,x,rfl,_,a3,a4,_,eT⟩:=RL h.c B;obtain⟨ew,d,y,rfl,C,cw,L,_,f⟩:=RL h.s H;obtain⟨b,c,A,rfl,c2,c3,c4,c5,fe⟩:=RL h.r J;rw[s]at c4 fe;refine⟨_,_,ew,d,b,c,rfl,rfl,by rw[s],⟨t,0,x,_,rfl,a3,fun i hi=>?_⟩,⟨y,cw⟩,⟨ew,0,rfl,⟨_,_,cw⟩,fun i hi=>?_⟩,⟨A,c3,c5⟩,⟨b,0,rfl,⟨_,_,c3⟩,fun i hi=>?_⟩,c4,C,c2,a4,L⟩
 ·rw[gP,eT (i*2) z,eT (i*2+1) z];exact YQ S.bw i hi
 ·have:=ad9 M S.aD 0 i hi;rw[gP]at this;simp only[World.cell?,cw,gP];rw[f (i*3) z,f (i*3+1) z,f (i*3+2) z];exact this
 ·have o:i<a.length:=z;obtain⟨F,G,I,K⟩:=aq7 a i o;obtain⟨E,arr,bb,k,D⟩:=h.a a[i] (fP o);have aO:rs[i]=a[i].1:=by
   have:(a.map (·.1))[i]? =some a[i].1:=by simp[o]
   rw[h.e]at this;exact(k2.1 this).2
  refine⟨some ⟨a[i].2.1,a[i].2.2.1,none⟩,a[i].2.2.2,⟨?_,?_,?_,?_,fun _=>⟨_,_,rfl,c8 k,fun j u=>?_⟩,⟨_,_,rfl⟩⟩,fun _=>⟨_,_,rfl,⟨_,_,k⟩⟩,by rw[aO];exact E⟩
  ·simp only[World.cell?,c3,gP];rw[fe _ z,F,aO];rfl
  ·simp only[World.cell?,c3,gP];rw[fe _ z,G,aO];rfl
  ·simp only[World.cell?,c3,gP];rw[fe _ z,I,aO];rfl
  ·simp only[World.cell?,c3,gP];rw[fe _ z,K,aO];rfl
  ·simp only[World.cell?,k];have:=D j (by rw[←aO];exact u);rw[this];simp only[aO];rfl
theorem hI.aIr{S:cU}{rs:List bA}{base:Nat}{ew x s u:Nat}(h:hI S M rs base w ca cc ew x s u)(i m:Nat)(hi:i<S.aD):hI S (fun j=>if j=i then m else M j) rs base (w.setCell ⟨ew,i*3+2,none⟩ m) ca cc ew x s u:=by
 obtain⟨arr,g⟩:=h.bP;obtain⟨E,G,B⟩:=h.fX;have L:∀(b t:Nat) (a:Array Value) (bb:Nat×Nat),t≠61->w.heap[b]? =some (Obj.cells a t bb)->(w.setCell ⟨ew,i*3+2,none⟩ m).heap[b]? =some (Obj.cells a t bb):=fun b t a bb ai A=>by
  rw[g_ _ _ _ _ (fun e=>?_)];exact A;rw[e,g]at A;cases A;exact ai rfl
 have l:=hT (i:=i*3+2) g m;have y:∀(b t o:Nat),vb w b t->t≠61->(w.setCell ⟨ew,i*3+2,none⟩ m).cell? ⟨b,o,none⟩=w.cell? ⟨b,o,none⟩:=fun b t o ⟨a,bb,A⟩ ai=>by simp only[World.cell?,A,L b t a bb ai A]
 refine⟨?_,⟨_,l⟩,?_,⟨E,L _ _ _ _ ak G,B⟩,?_,h.rl,h.bL,h.rb,h.cl,h.HG⟩;obtain⟨b,o,a,bb,e,f,d⟩:=h.c;exact⟨b,o,a,bb,e,L _ _ _ _ ak f,d⟩;obtain⟨b,o,e,ai,d⟩:=h.s;cases e;refine⟨ew,0,rfl,⟨_,_,l⟩,fun j k=>?_⟩;have H:=d j k;have I:=d i hi;simp only[World.cell?,g,gP]at H I;simp only[World.cell?,l,gP];refine⟨by rw[Bl z];exact H.1,by rw[Bl z];exact H.2.1,?_⟩;by_cases e:j=i;subst e;have au:j*3+2<arr.size:=(g6.1 I.2.2).1;rw[co rfl];simp[au];rw[bs e,Bl z];exact H.2.2;obtain⟨b,o,e,ai,d⟩:=h.r;refine⟨b,o,e,?_,fun j k=>?_⟩;obtain⟨a,bb,A⟩:=ai;exact⟨a,bb,L _ _ _ _ ak A⟩;obtain⟨D,ac,H,I,F⟩:=d j k;have c:=fun o=>y b 96 o ai ak;refine⟨D,ac,⟨by rw[c];exact H.bo,by rw[c];exact H.c1,by rw[c];exact H.c2,by rw[c];exact H.c3,fun ae=>?_,H.cA⟩,fun ae=>?_,F⟩;obtain⟨n,J,r,f,K⟩:=H.args ae;obtain⟨dR,eM,Gm,A⟩:=I ae;rw[r]at Gm;cases Gm;exact⟨n,J,r,by simpa using f,fun q C=>by rw[y n 3 _ A ak];exact K q C⟩;exact aou
end Go.bh.N
namespace Go.bh.N
open Go Go.Proofs Go.RowKit Go.da
theorem aik(b:Nat):∀(vs:List Value) (o:Nat) (w:World) (arr:Array Value) (t:Nat) (fr:Nat×Nat),w.heap[b]? =some (Obj.cells arr t fr)->∃a,(w.setCells b o vs).heap[b]? =some (Obj.cells a t fr)/\a.size=arr.size
 |[],_,w,arr,t,fr,h=>⟨arr,h,rfl⟩
 |v::r,o,w,arr,t,fr,h=>by
  obtain⟨a,H,I⟩:=aik b r (o+1) (w.setCell ⟨b,o,none⟩ v) _ t fr (hT h v)
  exact⟨a,H,by rw[I];simp⟩
theorem arA(b:Nat):∀(vs:List Value) (o:Nat) (w:World),(w.setCells b o vs).heap.size=w.heap.size
 |[],_,_=>rfl
 |v::r,o,w=>by
  show((w.setCell ⟨b,o,none⟩ v).setCells b (o+1) r).heap.size=_
  rw[arA b r];simp
theorem aii{B b:Nat}(A:B<=b):∀(vs:List Value) (o:Nat) {a w:World},Below B a w->Below B a (w.setCells b o vs)
 |[],_,_,_,h=>h
 |v::r,o,a,w,h=>aii A r (o+1) (h.setCell (p:=⟨b,o,none⟩) A v)
def n3(arr:Array Value)(n rq:Nat):List Value:=(arr.toList.drop ((n+1)*4)).take ((rq-n-1)*4)
section
variable {S:cU} {M:Nat->Nat} {rs:List bA} {base:Nat} {w:World} {ca:Option Addr} {cc ew g5 dM fw:Nat}
variable{arr:Array Value}
theorem hI.cell(h:hI S M rs base w ca cc ew g5 dM fw)(aH:w.heap[dM]? =some (Obj.cells arr 96 (0,0))):∀k,k<rs.length*4->∃u,arr[k]? =some u/\u.oneCell'=true:=fun k c=>by
 obtain⟨b,o,e,_,a⟩:=h.r
 cases e
 obtain⟨d,ac,H,_⟩:=a (k/4) z
 have bo:=H.bo
 have c1:=H.c1
 have c2:=H.c2
 have c3:=H.c3
 simp only[World.cell?,aH,gP]at bo c1 c2 c3
 have:k=k/4*4∨k=k/4*4+1∨k=k/4*4+2∨k=k/4*4+3:=z
 rcases this with e|e|e|e<;>rw[e]
 ·exact⟨_,bo,rfl⟩
 ·exact⟨_,c1,rfl⟩
 ·exact⟨_,c2,rfl⟩
 ·exact⟨_,c3,rfl⟩
variable{n:Nat}
theorem H9(h:hI S M rs base w ca cc ew g5 dM fw)(a:arr.size=fw*4)(b:n<rs):(n3 arr n rs).length=(rs.length-n-1)*4:=by
 have:=h.rl;simp only[n3,nu,qN,jC];omega
theorem ad'(h:hI S M rs base w ca cc ew g5 dM fw){j:Nat}(a:j<(rs.length-n-1)*4):(n3 arr n rs)[j]? =arr[(n+1)*4+j]? :=by
 simp only[n3,oZ,a,ox,LO];simp
theorem aJ2(h:hI S M rs base w ca cc ew g5 dM fw)(aH:w.heap[dM]? =some (Obj.cells arr 96 (0,0)))(b:arr.size=fw*4)(c:n<rs):∀j u,(n3 arr n rs)[j]? =some u->w.cell? ((⟨dM,(n+1)*4,none⟩:Addr).add j)=some u:=fun j u a=>by
 have au:j<(rs.length-n-1)*4:=by rw[←H9 h b c];exact(k2.1 a).1
 rw[ad' h au]at a
 rw[X']
 simp only[World.cell?,aH]
 exact a
theorem asd(h:hI S M rs base w ca cc ew g5 dM fw)(aH:w.heap[dM]? =some (Obj.cells arr 96 (0,0)))(b:arr.size=fw*4)(c:n<rs):∀u∈n3 arr n rs,u.oneCell'=true:=fun u hu=>by
 obtain⟨j,a⟩:=Ft.1 hu
 have au:j<(rs.length-n-1)*4:=by rw[←H9 h b c];exact(k2.1 a).1
 rw[ad' h au]at a
 obtain⟨d,H,I⟩:=h.cell aH ((n+1)*4+j) z
 rw[H]at a
 cases a
 exact I
theorem hI.ayP(h:hI S M rs base w ca cc ew g5 dM fw){arr:Array Value}(aH:w.heap[dM]? =some (Obj.cells arr 96 (0,0)))(r:arr.size=fw*4)(n:Nat)(x:n<rs.length): hI S M (rs.eraseIdx n) base (w.setCells dM (n*4) (n3 arr n rs.length)) ca cc ew g5 dM fw:=by
 have X:=h.rl;have W:=H9 h r x;have m:(rs.eraseIdx n).length=rs.length-1:=by rw[as2,co x]
 obtain⟨E,C,F⟩:=aik dM (n3 arr n rs.length) (n*4) w arr 96 (0,0) aH;have L:∀(b t:Nat) (a:Array Value) (bb:Nat×Nat),t≠96->w.heap[b]? =some (Obj.cells a t bb)->(w.setCells dM (n*4) (n3 arr n rs.length)).heap[b]? =some (Obj.cells a t bb):=fun b t a bb ai A=>by
  rw[asS _ _ _ _ (c8 A) (fun e=>?_)]
  ·exact A
  ·rw[e,aH]at A;cases A;exact ai rfl
 have d:∀(b t o:Nat),vb w b t->t≠96->(w.setCells dM (n*4) (n3 arr n rs.length)).cell? ⟨b,o,none⟩=w.cell? ⟨b,o,none⟩:=fun b t o ⟨a,bb,A⟩ ai=>by simp only[World.cell?,A,L b t a bb ai A]
 have low:∀o,o<n*4->(w.setCells dM (n*4) (n3 arr n rs.length)).cell? ⟨dM,o,none⟩=w.cell? ⟨dM,o,none⟩:=fun o Q=>ae4 _ _ _ _ _ (fun _ _=>.inl Q);have high:∀j,j<(rs.length-n-1)*4->(w.setCells dM (n*4) (n3 arr n rs.length)).cell? ⟨dM,n*4+j,none⟩=w.cell? ⟨dM,(n+1)*4+j,none⟩:=fun j O=>by
  have H:=World.cell?_setCells_in dM (n3 arr n rs.length) (n*4) w (fun q s=>by
   obtain⟨u,hu,_⟩:=h.cell aH (n*4+q) z
   have G:w.cell? ⟨dM,n*4+q,none⟩=some u:=by simp only[World.cell?,aH];exact hu
   rw[G];rfl) j z
  rw[H];have I:=ad' h (arr:=arr) (n:=n) O;rw[jU z]at I;simp only[World.cell?,aH];exact I
 refine⟨?_,?_,?_,⟨E,C,by rw[F,r]⟩,?_,by rw[m];omega,h.bL,h.rb,h.cl,h.HG⟩
 ·obtain⟨b,o,a,bb,e,l,c⟩:=h.c;exact⟨b,o,a,bb,e,L _ _ _ _ ak l,c⟩
 ·obtain⟨a,J⟩:=h.bP;exact⟨a,L _ _ _ _ ak J⟩
 ·obtain⟨b,o,e,ai,c⟩:=h.s;refine⟨b,o,e,?_,fun i hi=>?_⟩
  ·obtain⟨a,bb,A⟩:=ai;exact⟨a,bb,L _ _ _ _ ak A⟩
  ·rw[d b 61 _ ai ak,d b 61 _ ai ak,d b 61 _ ai ak];exact c i hi
 ·obtain⟨b,o,e,ai,c⟩:=h.r;cases e;refine⟨dM,0,rfl,⟨_,_,C⟩,fun i hi=>?_⟩;rw[m]at hi;obtain⟨k,V,K,g⟩:∃k,∃L:k<rs.length,(rs.eraseIdx n)[i]'(by rw[m];exact hi)=rs[k]/\∀f,f<4->(w.setCells dM (n*4) (n3 arr n rs.length)).cell? ⟨dM,i*4+f,none⟩=w.cell? ⟨dM,k*4+f,none⟩:=by
   by_cases D:i<n
   ·exact⟨i,z,by rw[as1,dif_pos D],fun f R=>low _ z⟩
   ·refine⟨i+1,z,by rw[as1,dif_neg D],fun f R=>?_⟩;have:=high ((i-n)*4+f) z;rw[show n*4+((i-n)*4+f)=i*4+f by omega,show(n+1)*4+((i-n)*4+f)=(i+1)*4+f by omega]at this;exact this
  obtain⟨N,ac,H,I,P⟩:=c k V;rw[K];have bo:=H.bo;have c1:=H.c1;have c2:=H.c2;have c3:=H.c3;simp only[gP]at bo c1 c2 c3;simp only[gP];refine⟨N,ac,⟨?_,?_,?_,?_,fun ae=>?_,H.cA⟩,fun ae=>?_,P⟩
  ·have:=g 0 z;simp only[h7]at this;rw[this];exact bo
  ·rw[g 1 z];exact c1
  ·rw[g 2 z];exact c2
  ·rw[g 3 z];exact c3
  ·obtain⟨y,T,B,l,U⟩:=H.args ae;obtain⟨dR,eM,Gm,A⟩:=I ae;rw[B]at Gm;cases Gm;exact⟨y,T,B,by rw[arA];exact l,fun q s=>by rw[d y 3 _ A ak];exact U q s⟩
  ·exact aou
end
end Go.bh.N
namespace Go.bh.N
open Go Go.Proofs.Tryz Go.Proofs Go.RowKit Go.da
def avg(S:cU)(M:Nat->Nat)(bI:Nat->Nat->Nat)(w':World)(base:Nat)(e:Ending):Prop:=
 ∃v b2,e=.returned v/\nA w' base v S.aD.length b2 M bI
theorem axM(S:cU)(U:qZ S)(Au:FY S)(bI:Nat->Nat->Nat)(w:World)(M:Nat->Nat)(D:∀i,1<=M i/\M i<=5)(rs:List bA)(gS:rs.Sublist S.df)(D9:zP bI rs)(ca bd ra:Option Addr)(cc aW rc:Nat)(eA:jd w ca S.bw)(fF:sA w bd S.aD M)(du:wV w ra rs): χ 42 #[.agg #[S.nm,S.db,.slice ca S.bw cc,.slice bd S.aD aW,.slice ra rs rc,S.al]] w fun e w'=>avg S M bI w' (w.heap.size+1) e:=by
 have iM:∀di,β w (w.alloc di):=fun di=>(br _ _).alloc (aZ _) _;obtain⟨ei,kV,nR,iY,kY⟩:=im aCK;have zL:=G (fun W (A:β w W)=>adv S U Au W M D rs gS ca bd ra cc aW rc (eA.K A) (fF.K A) (du.K A));have ld:∀W,χ 108 #[.int .i64 1] W fun e w'=>Dn 1 e:=fun W=>WY 1 W ak;have aN:=G ld;have u:=G D9;have aH:=G (fun r ab=>U.CC r (gS.subset ab));have ub:=U.xI;have r4:=U.aD;have vE:rs.length<=40:=cO gS.length_le U.df;clear ld D9 Au;go_enter func42,ntmps42
 go_wp2_with (go_at_call 40;refine(zL.out _ (iM _)).mono ?_;rintro e m ⟨rfl,bp⟩);have aL:Bv m w #[S.nm,S.db,.slice ca S.bw cc,.slice bd S.aD aW,.slice ra rs rc,S.al]:=
  Bv.K (B:=w.heap.size+1) ⟨ao,cW w _⟩ z (bp.mono ao)
 have dh:β w m:=(iM _).trans (bp.mono ao);have iH:w.heap.size+1<=m.heap.size:=aL.1;clear bp zL iM;go_loopw [4,5] (fun v i wr=>∃k:Nat,k<=S.aD.length/\i=.int .i64 k/\(∃b2,nA wr (w.heap.size+1) v k b2 M (fun _ _=>0))/\Below (w.heap.size+1) m wr) (fun _ i _=>S.aD.length-(RowKit.intOf i).toNat);case atStart=>exact⟨0,dx _,rfl,⟨fun _=>0,mT _ _ _ _,fun s aA=>z,fun s t aA=>z⟩,br _ _⟩
 case round=>
  obtain⟨k,aP,rfl,⟨b2,f⟩,d⟩:=hrel;have C:=aL.K z d;have Y:β w wr:=dh.trans (d.mono z);have bq:=aK 3 C.2;have Ci:=C.1;by_cases au:k<S.aD
  ·obtain⟨bL,eG,rfl,ke,dn⟩:=fF.K Y;obtain⟨k6,hL,hx⟩:=dn k au;have l0:=(D k).1;have O2:=(D k).2;have lF:(k:Int)<S.aD.length:=z;have oS:(k:Int)<=1000:=z;have Cu:(M k:Int)<=1000:=z;have pR:=aEF (M k) l0 O2;have al:=f.row
   go_wp2_with (at_builtin;refine ln _ rfl _ _ 99 rfl (w.heap.size+1) 102 ei (.slice none 0 0) 1 24 underlying99 kV nR iY kY rfl ak _ k _ rfl ((al.alloc _).alloc _) ⟨wr.heap.size+1,0,none⟩ 1 1 [.slice (some ⟨wr,0,none⟩) (M k+1) (M k+1)] rfl rfl (rA (cs:=#[.slice (some ⟨wr,0,none⟩) (M k+1) (M k+1)]) (t:=102) (fr:=(0,0)) (by rw[←i_ wr (.cells (Array.replicate (M k+1) (.string ⟨#[]⟩)) 101)];exact px _ _)) (by simp[Value.oneCell']) (by unfold maxLen;omega) z bz ?_;intro d_ bi gi fT _);have lr:=f.next z gi fT;have fy:Below (w.heap.size+1) m bi:=(((d.alloc z _).alloc bz _).grown fT bz (vP al));clear gi fT al f pR;go_roundw;case rel=>first|exact⟨k+1,z,bG,⟨_,lr⟩,fy⟩|((repeat apply Exists.intro);refine⟨?_,rfl⟩;exact⟨k+1,z,bG,⟨_,lr⟩,fy⟩)
   case measure=>simp[RowKit.intOf];omega
  ·obtain rfl:k=S.aD.length:=z;obtain⟨g,cap,rfl,G0,ah,K⟩:=f.gX ub;have ax:nA wr (w.heap.size+1) (.slice (some ⟨g,0,none⟩) S.aD cap) S.aD b2 M (qn bI rs 1 0):=f.mono fun _ _ _ _=>dx _;clear f K ah;obtain⟨bX,rfl⟩:∃bX:World,bX=wr:=⟨_,rfl⟩
   go_wp2;go_loopw [6] (fun i QQ=>∃af:Nat,1<=af/\af<=10/\i=.int .i64 af/\nA QQ (w.heap.size+1) (.slice (some ⟨g,0,none⟩) S.aD cap) S.aD b2 M (qn bI rs af 0)/\Below (w.heap.size+1) m QQ) (fun i _=>10-(RowKit.intOf i).toNat);case atStart=>exact⟨1,z,z,rfl,ax,d⟩
   case round=>
    clear C Y bq Ci ax d;obtain⟨bn,rfl⟩:∃bn:World,bn=wr:=⟨_,rfl⟩;obtain⟨af,aX,aY,rfl,f,d⟩:=hrel;by_cases bc:af<=9
    ·have bb:(af:Int)<=9:=z
     go_wp2;go_loopw [7] (fun i c=>∃k:Nat,k<=rs.length/\i=.int .i64 k/\nA c (w.heap.size+1) (.slice (some ⟨g,0,none⟩) S.aD cap) S.aD b2 M (qn bI rs af k)/\Below (w.heap.size+1) m c) (fun i _=>rs.length-(RowKit.intOf i).toNat);case atStart=>exact⟨0,z,rfl,f,d⟩
     case round=>
      clear f d;obtain⟨c,rfl⟩:∃c:World,c=wr:=⟨_,rfl⟩;obtain⟨k,nc,rfl,f,d⟩:=hrel;have C:=aL.K z d;have Y:β w c:=dh.trans (d.mono z);have cI:=aK 4 C.2;have bq:=aK 3 C.2;have Ci:=C.1;by_cases F:k<rs
      ·obtain⟨rb,aE,rfl,iw,dn⟩:=du.K Y;obtain⟨aR,ac,N⟩:=dn k F;obtain⟨R,oK,AA,_,_⟩:=aH.out _ (fP F);have k6:=N.bo;have hL:=N.c1;have hx:=N.c2;have f3:=N.c3;obtain⟨bL,eG,rfl,ke,kF⟩:=fF.K Y;obtain⟨_,_,ba⟩:=kF _ R;have IT:=G N.args;have Xt:=G f;have O2:=(D rs[k].h).2;have lF:(k:Int)<rs.length:=z;have oS:(k:Int)<=1000:=z;have AT:(rs[k].h:Int)<(S.aD.length:Int):=z;clear N dn kF f;by_cases be:M rs[k].h<af
       ·have aD:(M rs[k].h:Int)<(af:Int):=z
        go_wp2;exact⟨⟨k+1,z,bG,(Xt.out.K ((br _ _).alloc (aZ _) _)).mono fun s i _ _=>by rw[YO af k s i F];exact IH _ _,d.alloc z _⟩,by simp[RowKit.intOf];omega⟩
       ·have aD:¬(M rs[k].h:Int)<(af:Int):=z;have pR:∀w,(Instr.makeSlice 102 (.int .i64 10) (.int .i64 10)).run prog w=.ok (.slice (some ⟨w,0,none⟩) 10 10) (w.alloc (.cells (Array.replicate 10 (.string ⟨#[]⟩)) 101)):=fun w=>av
        go_wp2_with (go_at_call 108;refine(aN.out _).mono ?_;rintro e L ⟨⟨V,rfl,G7,qv⟩,bD⟩;have Z:j2 L (c.heap.size+1) 10 lk:=(by have ae:=j2.asD (c.alloc (.cells #[.int .i64 rs[k].h,.string rs[k].op,.string rs[k].aG,.slice aR rs[k].args.length ac] 96)) 10 lk;rw[i_]at ae;exact ae.K ao bD);obtain⟨bP,ik,bo,_,_⟩:=Z.cell (i:=1) ak;have z0:=Z.free 1);have ai:j2 (L.setCell ⟨c.heap.size+1,1,none⟩ (.string V)) (c.heap.size+1) 10 lk:=Z.set ak ⟨G7,qv⟩ ak;have WI:Below (c.heap.size+1) (c.alloc (.cells #[.int .i64 rs[k].h,.string rs[k].op,.string rs[k].aG,.slice aR rs[k].args.length ac] 96)) (L.setCell ⟨c.heap.size+1,1,none⟩ (.string V)):=(((br _ _).alloc ao _).trans (bD.mono ao)).setCell ao _;have aj:(L.setCell ⟨c.heap.size+1,1,none⟩ (.string V)).heap[c.heap.size]? =some (.cells #[.int .i64 rs[k].h,.string rs[k].op,.string rs[k].aG,.slice aR rs[k].args.length ac] 96 (0,0)):=by rw[WI.block _ z];exact cW _ _
        have ar:β c (L.setCell ⟨c.heap.size+1,1,none⟩ (.string V)):=((br _ _).alloc (aZ _) _).trans (WI.mono z);clear Z bD WI bo z0 G7 qv pR bq cI k6 hL hx f3 ba;generalize (L.setCell ⟨c.heap.size+1,1,none⟩ (.string V))=bi at ai aj ar⊢;have OY:=c8 aj;go_loopw [9,10] (fun v i cN=>∃j l:Nat,c.heap.size<l/\j<=rs[k].args.length/\i=.int .i64 j/\v=.slice (some ⟨l,0,none⟩) 10 10/\j2 cN l 10 (pc bI (rs[k].args.take j) lk)/\β bi cN) (fun _ i _=>rs[k].args.length-(RowKit.intOf i).toNat);case atStart=>exact⟨0,c.heap.size+1,z,z,rfl,rfl,ai,br _ _⟩
        case round=>
         clear ai;obtain⟨j,l,aV,aa,rfl,rfl,X,iv⟩:=hrel;have ag:wr.heap[c.heap.size]? =some (.cells #[.int .i64 rs[k].h,.string rs[k].op,.string rs[k].aG,.slice aR rs[k].args.length ac] 96 (0,0)):=by rw[iv.block _ OY];exact aj
         have er:=aK 3 ag;have Rz:β c wr:=cj ar iv;have x:=Xt.out.K Rz;obtain⟨aF,vf,aw,_,ah,K⟩:=x.gX ub;obtain⟨rfl,rfl⟩:g=aF/\cap=vf:=by cases aw;exact⟨rfl,rfl⟩
         clear aw;by_cases sX:j<rs[k].args.length
         ·obtain⟨dR,eM,rfl,jl,oL⟩:=(IT.out.K Rz) z;have k':=oL j sX;have Ka:=AA _ (fP sX);have pO:=K _ Ka;have an:=(x.s' _ Ka).2;have a':=(D rs[k].args[j]).2;have Ha:(0:Int)<=(j:Int):=z;have Uu:(j:Int)<(rs[k].args.length:Int):=z;have bf:(j:Int)<=1000:=z;have bh:(rs[k].args[j]:Int)<(S.aD.length:Int):=z;have ad:=apq bI (rs[k].args.take j) rs[k].args[j] (rs[k].args.drop (j+1)) lk (by rw[←Iy sX,CZ];exact u.out.num _ (fP F));have dK:∀i,i<M rs[k].args[j]+1->qn bI rs af k rs[k].args[j] i<=bI rs[k].args[j] i:=fun i hi=>SL u af k _ i z;have sl:=G (aDc l (b2 rs[k].args[j]) (M rs[k].args[j]+1) 10 (M rs[k].args[j]+1) (pc bI (rs[k].args.take j) lk) (qn bI rs af k rs[k].args[j]) wr z X an ad.1 (fun i hi=>p_ (dK i hi) (u.out.lt _ _)) (fun i hi=>p_ (QF (fun _ _=>aZ _) dK z 10 (aZ _)) (ad.2 i hi)));have gn:∀i,i<10->k1 (pc bI (rs[k].args.take j) lk) (qn bI rs af k rs[k].args[j]) (M rs[k].args[j]+1) i 10<=pc bI (rs[k].args.take (j+1)) lk i:=fun i _=>by rw[p9 sX,aiW];exact QF (fun _ _=>aZ _) dK z 10 (aZ _)
          have aM:=G gn;clear X an ad dK gn K x oL
          go_wp2_with (go_at_call 109;refine sl.out.mono ?_;rintro e w7 ⟨rfl,Ts,iu⟩);exact⟨⟨j+1,wr.heap.size,by have:=Rz.size;have:=iv.size;omega,z,bG,rfl,Ts.mono aM,cj iv iu⟩,by simp[RowKit.intOf];omega⟩
         ·obtain rfl:j=rs[k].args.length:=z;have yy:=K _ R;obtain⟨aC,Q⟩:=x.s' _ R;obtain⟨ay,rx,fL,gM,eh⟩:=Q.cell (i:=af) z;obtain⟨am,az,SQ,kw,ap⟩:=X.cell (i:=af) z;have gC:=Q.free af;have fX:=aK 0 ag;rw[tk]at ap;have bt:rx<281474976710656:=by have H:=SL u af k rs[k].h af z;have I:=u.out.lt rs[k].h af;omega
          have bQ:az<281474976710656:=p_ ap (apr bI _ lk (u.out.num _ (fP F)) af z);have bZ:b2 rs[k].h<wr.heap.size:=Q.1;have cp:=c8 ag;have bj:(0:Int)<=(af:Int):=z;have aQ:(af:Int)<(M rs[k].h:Int)+1:=z;have aS:(af:Int)<10:=z;have aU:(0:Int)<=(rs[k].h:Int):=z;have ix:l<wr.heap.size:=X.1;have KM:b2 rs[k].h<c.heap.size:=(Xt.out.s' _ R).2.1;have aG:g≠b2 rs[k].h:=fun e=>by obtain⟨_,aT,aB,_⟩:=Q;exact U9 x.row aB ak (by simp[Value.ownBlock,e])
          have aO:=G x;clear X Q x K
          go_wp2;have U2:c.heap.size≠b2 rs[k].h:=z;have aI:l≠b2 rs[k].h:=z;refine CV (S:=(fun W=>W.cell? ⟨c,0,none⟩=some (.int .i64 rs[k].h)/\W.cell? ⟨g,rs[k].h,none⟩=some (.slice (some ⟨b2 rs[k].h,0,none⟩) (M rs[k].h+1) (M rs[k].h+1))/\W.cell? ⟨l,af,none⟩=some (.string am))) av ?_ (fun j_=>?_);exact⟨fX,yy,SQ⟩
          refine p6 (i:=0) (oi:=_) (v:=?_) rfl av av av (fun _ _ _ h=>h) (Or.inl ⟨by rfl,?_⟩) (by assumption) ?_;rotate_left;exact qE
          refine h_ ?_;refine p6 (i:=1) (oi:=_) (v:=?_) rfl av av av (fun _ _ _ h=>h) (Or.inl ⟨by rfl,?_⟩) (by assumption) ?_;rotate_left;exact qE
          refine h_ ?_;refine p6 (i:=2) (oi:=_) (v:=?_) rfl av av av (fun _ _ _ h=>h) (Or.inl ⟨by rfl,?_⟩) (by assumption) ?_;rotate_left;exact qE
          refine h_ ?_;refine p6 (i:=3) (oi:=_) (v:=?_) rfl av av av (fun _ _ _ h=>h) (Or.inl ⟨by rfl,?_⟩) (by assumption) ?_;rotate_left;exact qE
          refine h_ ?_;refine p6 (i:=4) (oi:=_) (v:=?_) rfl av av av (fun _ _ _ h=>h) (Or.inl ⟨by rfl,?_⟩) (by assumption) ?_;rotate_left;exact qE
          refine h_ ?_;refine p6 (i:=5) (oi:=_) (v:=?_) rfl av av av (fun _ _ _ h=>h) (Or.inl ⟨by rfl,?_⟩) (by assumption) ?_;rotate_left;exact qE
          refine h_ ?_;refine p6 (i:=6) (oi:=_) (v:=?_) rfl av av av (fun _ _ _ h=>h) (Or.inl ⟨by rfl,?_⟩) (by assumption) ?_;rotate_left;exact qE
          refine h_ ?_;refine p6 (i:=7) (oi:=_) (v:=?_) rfl av av av (fun _ _ _ h=>h) (Or.inl ⟨by rfl,?_⟩) (by assumption) ?_;rotate_left;exact qE
          refine h_ ?_;refine p6 (i:=8) (oi:=_) (v:=?_) rfl av av av (fun _ _ _ h=>h) (Or.inl ⟨by rfl,?_⟩) (by assumption) ?_;rotate_left;exact qE
          refine h_ ?_;refine p6 (i:=9) (oi:=_) (v:=?_) rfl av av av (fun _ _ _ h=>h) (Or.inl ⟨by rfl,?_⟩) (by assumption) ?_;rotate_left;exact qE
          refine h_ ?_;refine p6 (i:=10) (oi:=_) (v:=?_) rfl av av av (fun _ _ _ h=>h) (Or.inl ⟨by rfl,?_⟩) (by assumption) ?_;rotate_left;exact qE
          refine h_ ?_;refine p6 (i:=11) (oi:=_) (v:=?_) rfl av av av (fun _ _ _ h=>h) (Or.inl ⟨by rfl,?_⟩) (by assumption) ?_;rotate_left;exact qE
          refine h_ ?_;refine p6 (i:=12) (oi:=_) (v:=?_) rfl av av av (fun _ _ _ h=>h) (Or.inl ⟨by rfl,?_⟩) (by assumption) ?_;rotate_left;exact qE
          refine h_ ?_;refine p6 (i:=14) (oi:=_) (v:=?_) rfl av av av (fun _ _ _ h=>h) (Or.inl ⟨by rfl,?_⟩) (by assumption) ?_;rotate_left;exact qE
          refine h_ ?_;refine p6 (i:=15) (oi:=_) (v:=?_) rfl av av av (fun _ _ _ h=>h) (Or.inl ⟨by rfl,?_⟩) (by assumption) ?_;rotate_left;exact qE
          refine h_ ?_;refine p6 (i:=16) (oi:=_) (v:=?_) rfl av av av (fun _ _ _ h=>h) (Or.inl ⟨by rfl,?_⟩) (by assumption) ?_;rotate_left;exact qE
          refine h_ ?_;refine p6 (i:=17) (oi:=_) (v:=?_) rfl av av av (fun _ _ _ h=>h) (Or.inl ⟨by rfl,?_⟩) (by assumption) ?_;rotate_left;exact qE
          refine h_ ?_;refine oU 13 (fun T n=>?_);go_simp;refine n.out _ _ ⟨fX,yy,SQ⟩ (fun j_=>?_);clear n T;refine h_ ?_;refine oU 18 (fun T n=>?_);go_simp;go_at_call 43;refine(Ya ay am rx az _ gM kw bt bQ).mono ?_;rintro e y ⟨⟨cG,rfl,yN,AI⟩,E⟩;have bx:y.frozen? ⟨b2 rs[k].h,af,none⟩=false:=(by rw[E.frozen (by simpa using bZ)];exact gC);have dt:y.cell? ⟨b2 rs[k].h,af,none⟩=some (.string ay):=(by rw[E.cell (by simpa using bZ)];exact fL);have dS:y.cell? ⟨g,rs[k].h,none⟩=some (.slice (some ⟨b2 rs[k].h,0,none⟩) (M rs[k].h+1) (M rs[k].h+1)):=(by rw[E.cell (by simpa using ah)];exact yy);have hf:y.cell? ⟨c,0,none⟩=some (.int .i64 rs[k].h):=(by rw[E.cell (by simpa using cp)];exact fX);have m8:y.cell? ⟨l,af,none⟩=some (.string am):=(by rw[E.cell (by simpa using ix)];exact SQ);refine n.out _ _ ⟨hf,dS,m8⟩ (fun j_=>?_);clear n T;refine h_ ?_;refine p6 (i:=19) (oi:=_) (v:=?_) rfl av av av (fun _ _ _ h=>h) (Or.inl ⟨by rfl,?_⟩) (by assumption) ?_;rotate_left;exact qE
          refine h_ ?_;refine oU 20 (fun T n=>?_);go_simp;refine n.out _ _ ⟨(nt (g_ _ _ _ _ U2)).trans hf,(nt (g_ _ _ _ _ aG)).trans dS,(nt (g_ _ _ _ _ aI)).trans m8⟩ (fun j_=>?_);clear n T;refine h_ ?_;refine Fp av ?_ _;all_goals(
           have O:nA (y.setCell ⟨b2 rs[k].h,af,none⟩ (.string cG)) (w.heap.size+1) (.slice (some ⟨g,0,none⟩) S.aD cap) S.aD b2 M (qn bI rs af (k+1)):=(nA.K (w:=wr.drew) (aO.out.K ((br _ _).drew)) E).set (fun s i _ _=>by rw[YO af k s i F];exact IH _ _) R z ⟨yN,AI⟩ (by rw[YO af k _ af F,co ⟨rfl,rfl⟩];omega)
           have i5:Below (w.heap.size+1) m (y.setCell ⟨b2 rs[k].h,af,none⟩ (.string cG)):=(((d.trans (Rz.mono z)).drew).trans (E.mono (by show w.heap.size+1<=wr.heap.size;omega))).setCell aC _
           have jf:=G O
           clear O bx dt dS hf m8 fL SQ gC fX yy
           go_wp2
           go_roundw
           case rel=>first|exact⟨k+1,z,bG,jf,i5⟩|((repeat apply Exists.intro);refine⟨?_,rfl⟩;exact⟨k+1,z,bG,jf,i5⟩)
           case measure=>simp[RowKit.intOf];omega)
      ·obtain rfl:k=rs.length:=z;have r2:nA c (w.heap.size+1) (.slice (some ⟨g,0,none⟩) S.aD cap) S.aD b2 M (qn bI rs (af+1) 0):=f.mono fun s i _ hi=>axs u af s i (by have:=(D s).2;omega);clear f
       go_wp2;exact⟨⟨af+1,z,z,bG,r2,d⟩,by simp[RowKit.intOf];omega⟩
    ·obtain rfl:af=10:=z;have O:nA bn (w.heap.size+1) (.slice (some ⟨g,0,none⟩) S.aD cap) S.aD b2 M bI:=f.mono fun s i _ hi=>SL u 10 0 s i (by have:=(D s).2;omega);have jf:=G O;have aJ:=G (dh.trans (d.mono z));clear f d O
     go_wp2;go_ret;exact⟨⟨_,b2,rfl,jf⟩,aJ⟩
def aty(e:Ending):Prop:=∃n:Int,e=.returned (.int .i64 n)
theorem azf(S:cU)(B:qZ S)(g7:Be S=true)(w:World)(M:Nat->Nat)(rq:Nat)(ca l ra:Option Addr)(cc n rc:Nat)(Y:jd w ca S.bw)(K:sA w l S.aD M)(r:bA)(u:r∈S.df)(g:Option Addr)(ac:Nat)(X:qU w g r.args)(o:Value)(V:lM w o): χ 41 #[.agg #[S.nm,S.db,.slice ca S.bw cc,.slice l S.aD n,.slice ra rq rc,S.al],.agg #[r.h,r.op,r.aG,.slice g r.args ac],o] w fun e w'=>aty e:=by
 have q:∀E D,β w ((w.alloc E).alloc D):=fun E D=>((br _ _).alloc (aZ _) _).alloc ao _;have F:=G (fun W (A:β w W)=>aLi S g7 r u W o ca cc (V.K A) (Y.K A));obtain⟨U,oK,s,_,_⟩:=B.CC r u;have r4:=B.aD;go_enter func41,ntmps41;go_upto_region 2 with(go_at_call 107;refine(F.out _ (q _ _)).mono ?_;rintro e j ⟨⟨hS,Bc,QJ,kd,P,rfl,Z⟩,c⟩)
 have f:L3 j w (w.heap.size+1) #[S.nm,S.db,.slice ca S.bw cc,.slice l S.aD n,.slice ra rq rc,S.al] #[r.h,r.op,r.aG,.slice g r.args ac]:=by
  have af:=c.size;simp only[i_]at af;refine⟨z,z,?_,?_⟩;rw[c.block _ (by simp only[i_];omega),tT _ _ (by simp only[i_];omega)];exact cW w _;rw[c.block _ (by simp only[i_];omega)];have:=cW (w.alloc (.cells #[S.nm,S.db,.slice ca S.bw cc,.slice l S.aD n,.slice ra rq rc,S.al] 29)) (.cells #[r.h,r.op,r.aG,.slice g r.args ac] 96);exact aoL
 have dh:β w j:=(q _ _).trans (c.mono bz);clear c F q;by_cases O:P=0
 ·subst O;have I:=aK 3 f.2.2.2;have fX:=aK 0 f.2.2.2;have C:=aK 3 f.2.2.1;obtain⟨bL,eG,rfl,N,d⟩:=K.K dh;by_cases T:Bc=r.args.length
  ·subst T;obtain⟨_,b4,_⟩:=d _ U;have AT:(r.h:Int)<S.aD.length:=z;have R:((r.args.length:Int) !=(r.args.length:Int))=false:=ao;by_cases Q:((S.aD[r.h].2:Int) !=kd)=true;exact acB
   ·have ah:((S.aD[r.h].2:Int) !=kd)=false:=by simpa using Q
    go_wp2;go_loopw [10] (fun i wr=>∃k:Nat,k<=r.args.length/\i=.int .i64 k/\β j wr) (fun i _=>r.args.length-(RowKit.intOf i).toNat);case atStart=>exact⟨0,z,rfl,br _ _⟩
    case round=>
     clear b4 fX I C d N;obtain⟨k,aa,rfl,a⟩:=hrel;have H:=f.K a;have m:β w wr:=cj dh a;have I:=aK 3 H.2.2.2;have C:=aK 3 H.2.2.1;by_cases au:k<r.args
     ·obtain⟨dR,eM,rfl,jl,L⟩:=(X.K m) z;have bW:=L k au;obtain⟨ak,aj,s3,N,d⟩:=K.K m;cases s3;obtain⟨_,b4,_⟩:=d _ (s _ (fP au));obtain⟨VK,ai,rfl,ae,y⟩:=(Z.K a).2 z;obtain⟨x,ad⟩:=y k au;have mP:(0:Int)<=(k:Int):=z;have lF:(k:Int)<r.args.length:=z;have oS:(k:Int)<=1000:=z;have Cu:(r.args[k]:Int)<(S.aD.length:Int):=by have:=s _ (fP au);omega
      have Uu:(0:Int)<=(r.args[k]:Int):=z;clear L d y
      go_wp2;go_quiet (fail)
      go_wp2;all_goals first
       |(
        go_roundw
        case rel=>first|exact⟨k+1,z,bG,a.trans (qV.K ⟨_,rfl⟩ _)⟩|((repeat apply Exists.intro);refine⟨?_,rfl⟩;exact⟨k+1,z,bG,a.trans (qV.K ⟨_,rfl⟩ _)⟩)
        case measure=>simp[RowKit.intOf];omega)
       |(go_ret;exact⟨⟨_,rfl⟩,m.trans (qV.K ⟨_,rfl⟩ _)⟩)
     ·go_wp2;go_ret;exact⟨⟨_,rfl⟩,m⟩
  have R:((Bc:Int) !=(r.args.length:Int))=true:=bz;exact acB
 ·have ag:(P !=0)=true:=by simp[O]
  exact acB
def RF(S:cU)(M:Nat->Nat)(bI:Nat->Nat->Nat)(w:World)(va:Option Addr)(n:Nat):Prop:=
 n<=12/\(0<n->∃(g:Nat) (b2:Nat->Nat),va=some ⟨g,0,none⟩/\g<w.heap.size/\∀s,s<n->w.cell? ⟨g,s,none⟩=some (.slice (some ⟨b2 s,0,none⟩) (M s+1) (M s+1))/\j2 w (b2 s) (M s+1) (bI s))
variable{w:World}{n:Nat}
theorem RF.K{S:cU}{M:Nat->Nat}{bI:Nat->Nat->Nat}{w':World}{va:Option Addr}(h:RF S M bI w va n)(A:β w w'):RF S M bI w' va n:=
 ⟨h.1,fun ae=>by
  obtain⟨g,b2,e,c,a⟩:=h.2 ae
  exact⟨g,b2,e,cS A c,fun s b=>⟨by rw[A.cell c];exact(a s b).1,(a s b).2.K (a s b).2.1 A⟩⟩⟩
theorem axN(S:cU)(b:qZ S)(j:FY S)(bI:Nat->Nat->Nat)(w:World)(M:Nat->Nat)(r:∀i,1<=M i/\M i<=5)(rs:List bA)(t:rs.Sublist S.df)(k:zP bI rs)(ca a ra:Option Addr)(cc d rc:Nat)(p:jd w ca S.bw)(q:sA w a S.aD M)(o:wV w ra rs):
  χ 42 #[.agg #[S.nm,S.db,.slice ca S.bw cc,.slice a S.aD d,.slice ra rs rc,S.al]] w fun e w'=>(∃va n,e=.returned (.slice va S.aD n)/\RF S M bI w' va S.aD):=
 (axM S b j bI w M r rs t k ca a ra cc d rc p q o).mono fun e w' ⟨h,A⟩=>⟨by
  obtain⟨v,b2,rfl,f⟩:=h
  obtain⟨g,cap,rfl,_,m,l⟩:=f.gX b.xI
  exact⟨_,_,rfl,b.aD,fun _=>⟨g,b2,rfl,m,fun s c=>⟨l s c,(f.s' s c).2⟩⟩⟩,A⟩
def rC(w:World)(b n:Nat):Prop:=∃cs:Array Value,w.heap[b]? =some (.cells cs 4 (0,0))/\cs.size=n/\∀i,i<n->∃x,cs[i]? =some (.bool x)
variable{b:Nat}
theorem rC.cell(h:rC w b n){i:Nat}(hi:i<n):∃x,w.cell? ⟨b,i,none⟩=some (.bool x):=by
 obtain⟨cs,H,I,a⟩:=h;obtain⟨x,e⟩:=a i hi;exact⟨x,ly H e⟩
theorem rC.free(h:rC w b n)(i:Nat):w.frozen? ⟨b,i,none⟩=false:=by
 obtain⟨cs,H,_⟩:=h;simp[World.frozen?,H]
theorem rC.set(h:rC w b n)(j:Nat)(x:Bool):rC (w.setCell ⟨b,j,none⟩ (.bool x)) b n:=by
 obtain⟨cs,H,I,c⟩:=h;refine⟨cs.setIfInBounds j (.bool x),hT H _,by simpa using I,fun i hi=>?_⟩;by_cases e:i=j;subst e;exact⟨x,by simp[I,hi]⟩;obtain⟨y,a⟩:=c i hi;exact⟨y,by rw[Bl (h8 e)];exact a⟩
theorem rC.ee(w:World)(n:Nat):rC (w.alloc (.cells (Array.replicate n (.bool false)) 4)) w n:=
 ⟨_,cW w _,ao,fun i hi=>⟨false,by simp[hi]⟩⟩
theorem rC.acO(w:World)(n j:Nat):rC (w.alloc (.cells ((Array.replicate n (.bool false)).setIfInBounds j (.bool true)) 4)) w n:=
 ⟨_,cW w _,ao,fun i hi=>by
  by_cases e:i=j
  ·subst e;exact⟨true,by simp[hi]⟩
  ·exact⟨false,by rw[Bl (h8 e)];simp[hi]⟩⟩
theorem aEG(n:Nat)(H:1<=n)(a:n<=12):∀(w:World),(Instr.makeSlice 104 (.int .i64 (n:Int)) (.int .i64 (n:Int))).run prog w=.ok (.slice (some ⟨w,0,none⟩) n n) (w.alloc (.cells (Array.replicate n (.bool false)) 4)):=by
 exact aod
def avf(M:Nat->Nat)(bI:Nat->Nat->Nat)(al:Nat)(e:Ending):Prop:=∃n m:Int,e=.returned (.tuple #[.int .i64 n,.int .i64 m])/\(m=0->∃j,j<=M al/\bI al j≠0)
theorem axk(S:cU)(n:qZ S)(Au:FY S)(bI:Nat->Nat->Nat)(g7:Be S=true)(w:World)(M:Nat->Nat)(fl:∀i,1<=M i/\M i<=5)(rs:List bA)(R:rs.Sublist S.df)(D9:zP bI rs)(ca u ra:Option Addr)(cc N rc:Nat)(eA:jd w ca S.bw)(fF:sA w u S.aD M)(Z:wV w ra rs)(bv:Value)(bk:lM w bv): χ 17 #[.agg #[S.nm,S.db,.slice ca S.bw cc,.slice u S.aD N,.slice ra rs rc,S.al],bv] w fun e w'=>avf M bI S.al e:=by
 have iM:∀di,β w (w.alloc di):=fun di=>(br _ _).alloc (aZ _) _;have zL:=G (fun W (A:β w W)=>adv S n Au W M fl rs R ca u ra cc N rc (eA.K A) (fF.K A) (Z.K A));have al:=G (fun W (A:β w W)=>axN S n Au bI W M fl rs R D9 ca u ra cc N rc (eA.K A) (fF.K A) (Z.K A));have ai:=G (fun W (A:β w W) r (O:r∈S.df) L ac (cL:qU W L r.args)=>azf S n g7 W M rs ca u ra cc N rc (eA.K A) (fF.K A) r O L ac cL bv (bk.K A));have yF:=G D9;have az:=G (fun r O=>n.CC r (R.subset O));have gc:=G (fun(r:bA) (O:r∈rs)=>R.subset O);have ub:=n.xI;have r4:=n.aD;have e2:=n.al;have vE:rs.length<=40:=cO R.length_le n.df;clear bk D9 Au;go_enter func17,ntmps17
 go_wp2_with (go_at_call 40;refine(zL.out _ (iM _)).mono ?_;rintro e X ⟨rfl,bp⟩);have aL:Bv X w #[S.nm,S.db,.slice ca S.bw cc,.slice u S.aD N,.slice ra rs rc,S.al]:=
  Bv.K (B:=w.heap.size+1) ⟨ao,cW w _⟩ z (bp.mono ao)
 have dh:β w X:=(iM _).trans (bp.mono ao);clear bp zL iM;go_loopw [7] (fun i wr=>∃k:Nat,k<=rs.length/\i=.int .i64 k/\β X wr) (fun i _=>rs.length-(RowKit.intOf i).toNat);case atStart=>exact⟨0,dx _,rfl,br _ _⟩
 case round=>
  obtain⟨k,ap,rfl,a⟩:=hrel;have d:=aL.K aL.1 a;have m:β w wr:=cj dh a;obtain⟨dC,aj,aF,P,Y,hr⟩:=f_ d.2;have Ci:=d.1;by_cases au:k<rs
  ·obtain⟨rb,aE,rfl,iw,q⟩:=Z.K m;obtain⟨L,ac,f⟩:=q k au;have k6:=f.bo;have hL:=f.c1;have hx:=f.c2;have f3:=f.c3;have IT:=G f.args;have mP:(0:Int)<=(k:Int):=z;have lF:(k:Int)<rs.length:=z;have oS:(k:Int)<=1000:=z;clear f q
   go_wp2;go_still_tail 7,av
   go_wp2_with (go_at_call 41;refine(ai.out _ m.drew rs[k] (gc.out _ (fP au)) L ac (IT.out.K ((br _ _).drew))).mono ?_;rintro e bn ⟨⟨i9,rfl⟩,bu⟩);all_goals first
    |(
      go_roundw
      case rel=>first|exact⟨k+1,z,bG,(a.drew).trans (bu.mono a.size)⟩|((repeat apply Exists.intro);refine⟨?_,rfl⟩;exact⟨k+1,z,bG,(a.drew).trans (bu.mono a.size)⟩)
      case measure=>simp[RowKit.intOf];omega)
    |(go_ret2;exact⟨⟨_,_,rfl,fun h=>by exfalso;have ag:(i9 !=0)=true:=(by assumption);rw[h]at ag;simp at ag⟩,m.drew.trans (bu.mono m.size)⟩)
  ·obtain rfl:k=rs.length:=z;clear ai;go_upto_block 2 with(go_at_call 42;refine(al.out _ m).mono ?_;rintro e o ⟨⟨va,ct,rfl,yy⟩,bD⟩)
   have qh:=d.K d.1 bD;have rE:β w o:=cj m bD;clear dC aj aF P Y hr d m bD a aL dh Ci al;go_cut [] (fun cY=>β o cY/\Hid (∃j,j<=M S.al/\bI S.al j≠0));case first=>
    have aM:=yy.1
    go_wp2_with fail;go_loopw [10] (fun i wr=>∃k:Nat,k<=S.aD.length/\i=.int .i64 k/\β o wr/\Hid (∀s,s<k->∃j,j<=M s/\bI s j≠0)) (fun i _=>S.aD.length-(RowKit.intOf i).toNat);case atStart=>exact⟨0,dx _,rfl,br _ _,G fun s ad=>z⟩
    case round=>
     obtain⟨l,rfl⟩:∃l:World,l=wr:=⟨_,rfl⟩;obtain⟨k,ap,rfl,a,Q⟩:=hrel;by_cases au:k<S.aD
     · have mP:(0:Int)<=(k:Int):=z
       have lF:(k:Int)<S.aD.length:=z;have oS:(k:Int)<=1000:=z;have O2:=(fl k).2;obtain⟨YI,b2,rfl,ar,gb⟩:=(yy.K a).2 z;obtain⟨xp,an⟩:=gb k au;have iX:=an.1
       go_wp2;go_loopw [11,12] (fun t i C=>∃(j v:Nat) (s:ByteArray),j<=M k+1/\i=.int .i64 j/\t=.string s/\BG s v/\v<=j*2147483648/\β l C/\Hid (v≠0->∃g,g<j/\bI k g≠0)) (fun _ i _=>M k+1-(RowKit.intOf i).toNat);case atStart=>exact⟨0,0,⟨#[]⟩,z,rfl,rfl,⟨rfl,ak,fun _=>rfl⟩,z,br _ _,G fun h=>absurd rfl h⟩
       case round=>
        obtain⟨j,v,s,aa,rfl,rfl,ad,J,T,nM⟩:=hrel;have aI:wr.cell? ⟨YI,k,none⟩=some (.slice (some ⟨b2 k,0,none⟩) (M k+1) (M k+1)):=by rw[T.cell ar];exact xp
        have zF:β o wr:=cj a T;by_cases E:j<M k+1
        ·obtain⟨aB,K,iS,aw,ax⟩:=(an.K iX T).cell E;have Cu:(0:Int)<=(j:Int):=z;have AT:(j:Int)<(M k:Int)+1:=z;have Ha:(j:Int)<=1000:=z;have bt:K<2147483648:=p_ ax (yF.out.lt _ _);have am:Hid (v+K≠0->∃g,g<j+1/\bI k g≠0):=G fun h=>by
          by_cases ae:v=0;exact⟨j,z,z⟩;obtain⟨g,H,I⟩:=nM.out ae;exact⟨g,z,I⟩
         have jG:=G (fun W=>Ya s aB v K W ad aw z z);clear xp
         go_wp2_with (go_at_call 43;refine(jG.out _).mono ?_;rintro e w7 ⟨⟨cG,rfl,yN,AI⟩,iu⟩);go_roundw;case rel=>first|exact⟨j+1,v+K,cG,z,bG,rfl,⟨yN,AI⟩,z,cj T iu,am⟩|((repeat apply Exists.intro);refine⟨?_,rfl⟩;exact⟨j+1,v+K,cG,z,bG,rfl,⟨yN,AI⟩,z,cj T iu,am⟩)
         case measure=>simp[RowKit.intOf];omega
        ·have AT:¬(j:Int)<(M k:Int)+1:=z;clear xp;by_cases hs:s.size=0
         ·have z0:((s.size:Int)==0)=true:=by simp[hs]
          clear hs
          go_wp2;go_ret2
          exact⟨⟨_,_,rfl,fun h=>by simp at h⟩,cj rE zF⟩
         ·have z0:((s.size:Int)==0)=false:=by rw[lp];omega
          have J5:Hid (∀D,D<k+1->∃j,j<=M D/\bI D j≠0):=G fun D mO=>by
           by_cases e:D=k;subst e;obtain⟨g,H,I⟩:=nM.out (fun e=>hs (ad.2.2 e));exact⟨g,z,I⟩;exact Q.out D z
          clear hs
          go_wp2;go_roundw;case rel=>first|exact⟨k+1,z,bG,zF,J5⟩|((repeat apply Exists.intro);refine⟨?_,rfl⟩;exact⟨k+1,z,bG,zF,J5⟩)
          case measure=>simp[RowKit.intOf];omega
     · go_wp2_with fail
       go_meet;exact⟨a,G (Q.out S.al z)⟩
   case rest=>
    obtain⟨hcut,Q⟩:=hcut;have F:=qh.K qh.1 hcut;have V:β w wc:=cj rE hcut;clear qh rE hcut yy yF;have pR:=aEG S.aD ub r4;obtain⟨-,-,-,P,-,hr⟩:=f_ F.2;have yE:=F.1;have B_:=rC.ee wc S.aD;obtain⟨fI,bo⟩:=B_.cell e2;have z0:=B_.free S.al;have jq:(S.al:Int)<S.aD.length:=z;have j1:=G (rC.acO wc S.aD S.al);have oA:=G (e4 wc (.cells ((Array.replicate S.aD (.bool false)).setIfInBounds S.al (.bool true)) 4));clear B_
    go_wp2;clear pR bo z0 P hr;generalize (wc.alloc (.cells ((Array.replicate S.aD (.bool false)).setIfInBounds S.al (.bool true)) 4))=th at j1 oA⊢;go_loopw [14] (fun i wr=>∃k:Nat,k<=S.aD.length/\i=.int .i64 k/\rC wr wc S.aD/\β wc wr) (fun i _=>S.aD.length-(RowKit.intOf i).toNat);case atStart=>exact⟨0,dx _,rfl,j1,oA⟩
    case round=>
     clear j1 oA;obtain⟨l,rfl⟩:∃l:World,l=wr:=⟨_,rfl⟩;obtain⟨af,aA,rfl,c,a⟩:=hrel;have d:=F.K yE a;have P:=aK 3 d.2;by_cases aJ:af<S.aD
     · have mP:(af:Int)<S.aD.length:=z
       have lF:(af:Int)<=1000:=z
       go_wp2;go_loopw [15] (fun i U=>∃k:Nat,k<=rs.length/\i=.int .i64 k/\rC U wc S.aD/\β wc U) (fun i _=>rs.length-(RowKit.intOf i).toNat);case atStart=>exact⟨0,dx _,rfl,c,a⟩
       case round=>
        clear c a d P;obtain⟨U,rfl⟩:∃U:World,U=wr:=⟨_,rfl⟩;obtain⟨k,nc,rfl,c,a⟩:=hrel;have d:=F.K yE a;have Y:=aK 4 d.2;by_cases t':k<rs
        ·have oS:(k:Int)<rs.length:=z;have Cu:(k:Int)<=1000:=z;have AT:(0:Int)<=(k:Int):=z;obtain⟨b9,oK,AA,_,_⟩:=az.out _ (fP t');have Ha:(rs[k].h:Int)<(S.aD.length:Int):=z;have Uu:(0:Int)<=(rs[k].h:Int):=z
         go_wp2;go_loopw [16] (fun i C=>∃j:Nat,j<=rs[k].args.length/\i=.int .i64 j/\rC C wc S.aD/\β wc C) (fun i _=>rs[k].args.length-(RowKit.intOf i).toNat);case atStart=>exact⟨0,dx _,rfl,c,a⟩
         case round=>
          clear c a d Y;obtain⟨j,aa,rfl,c,a⟩:=hrel;have d:=F.K yE a;have Y:=aK 4 d.2;have m:β w wr:=V.trans (a.mono (by have:=V.size;omega));obtain⟨rb,aE,rfl,iw,q⟩:=Z.K m;obtain⟨L,ac,f⟩:=q k t';have k6:=f.bo;have f3:=f.c3;by_cases E:j<rs[k].args.length
          ·obtain⟨x,iU⟩:=c.cell b9;have ah:(j:Int)<(rs[k].args.length:Int):=z;have ay:(0:Int)<=(j:Int):=z;have aC:(j:Int)<=1000:=z;cases x
           ·clear q f
            go_wp2;go_roundw;case rel=>first|exact⟨k+1,z,bG,c,a⟩|((repeat apply Exists.intro);refine⟨?_,rfl⟩;exact⟨k+1,z,bG,c,a⟩)
            case measure=>simp[RowKit.intOf];omega
           ·obtain⟨dR,eM,rfl,jl,oL⟩:=f.args z;have k':=oL j E;have Ka:=AA _ (fP E);have aD:(rs[k].args[j]:Int)<(S.aD.length:Int):=z;have aG:(0:Int)<=(rs[k].args[j]:Int):=z;obtain⟨y,pd⟩:=c.cell Ka;have aH:=c.free rs[k].args[j];have ht:=G (c.set rs[k].args[j] true);have R0:=G (a.setCell (p:=⟨wc,rs[k].args[j],none⟩) (aZ _) (.bool true));clear q f oL c a
            go_wp2;go_roundw;case rel=>first|exact⟨j+1,z,bG,ht,R0⟩|((repeat apply Exists.intro);refine⟨?_,rfl⟩;exact⟨j+1,z,bG,ht,R0⟩)
            case measure=>simp[RowKit.intOf];omega
          ·have ah:¬(j:Int)<(rs[k].args.length:Int):=z;clear q f
           go_wp2;go_roundw;case rel=>first|exact⟨k+1,z,bG,c,a⟩|((repeat apply Exists.intro);refine⟨?_,rfl⟩;exact⟨k+1,z,bG,c,a⟩)
           case measure=>simp[RowKit.intOf];omega
        ·go_wp2;go_roundw;case rel=>first|exact⟨af+1,z,bG,c,a⟩|((repeat apply Exists.intro);refine⟨?_,rfl⟩;exact⟨af+1,z,bG,c,a⟩)
         case measure=>simp[RowKit.intOf];omega
     · have Ml:β w l:=V.trans (a.mono (by have:=V.size;omega))
       go_wp2;go_loopw [17] (fun i C=>∃j:Nat,j<=S.aD.length/\i=.int .i64 j/\C=l) (fun i _=>S.aD.length-(RowKit.intOf i).toNat);case atStart=>exact⟨0,dx _,rfl,rfl⟩
       case round=>
        obtain⟨j,aa,rfl,rfl⟩:=hrel;by_cases E:j<S.aD
        ·obtain⟨x,iU⟩:=c.cell E;have ah:(j:Int)<S.aD.length:=z;have ay:(0:Int)<=(j:Int):=z;have aC:(j:Int)<=1000:=z;cases x
         ·go_wp2;go_ret2
          exact⟨⟨_,_,rfl,fun _=>Q.out⟩,Ml⟩
         ·go_wp2;go_roundw;case rel=>first|exact⟨j+1,z,bG,g'⟩|exact⟨j+1,z,bG,rfl⟩|((repeat apply Exists.intro);refine⟨?_,rfl⟩;exact⟨j+1,z,bG,rfl⟩)
          case measure=>simp[RowKit.intOf];omega
        ·go_wp2;go_ret2
         exact⟨⟨_,_,rfl,fun _=>Q.out⟩,Ml⟩
end Go.bh.N
namespace Go.bh.N
open Go Go.Proofs Go.da
def ape(k:Nat)(c:UInt8):Bool:=(Nat.ble 97 c.toNat&&Nat.ble c.toNat 122)||(Nat.ble 65 c.toNat&&Nat.ble c.toNat 90)||(Nat.blt 0 k&&(Nat.beq c.toNat 95||(Nat.ble 48 c.toNat&&Nat.ble c.toNat 57)))
def Hk(s:ByteArray):Bool:=Nat.ble 1 s.size&&Nat.ble s.size 20&&(s.data.toList.zipIdx.all fun p=>ape p.2 p.1)
theorem ain(s:ByteArray)(k:Nat)(a:k<s.size):s.data.toList[k]? =some s[k]:=by
 rw[jU (by rw[jC];exact a)];rfl
variable{s:ByteArray}
theorem acL(h:Hk s=true):tv s:=by
 simp only[Hk,dQ]at h;obtain⟨⟨H,I⟩,b⟩:=h;refine⟨hH H,hH I,fun k a=>?_⟩;have c:(s[k],k)∈s.data.toList.zipIdx:=Ww.2 (ain s k a);have:=h6.1 b _ c;simp only[ape,Q4,dQ,LX,Nat.beq_eq,Nat.blt_eq]at this;omega
def ac'(s:ByteArray):Bool:=Nat.ble s.size 60&&(s.data.toList.all fun c=>Nat.ble 32 c.toNat&&Nat.ble c.toNat 126)&&Nat.beq (s.data.toList.count 39) 0
theorem aGn(h:ac' s=true):ahn s:=by
 simp only[ac',dQ]at h;obtain⟨⟨H,I⟩,b⟩:=h;refine⟨hH H,fun k a=>?_,gx b⟩;have:=h6.1 I s[k] (CY (ain s k a));simp only[dQ,LX]at this;omega
def Eo(k:Nat):Bool:=Nat.ble 1 k&&Nat.ble k 5
def Ju(a b:ByteArray):Bool:=a.data.toList.map UInt8.toNat==b.data.toList.map UInt8.toNat
theorem awS{a b:ByteArray}(h:Ju a b=false):a≠b:=fun e=>by
 subst e
 simp[Ju]at h
def NN:List (ByteArray×Nat)->Bool
 |[]=>true
 |c::l=>l.all (fun d=> !Ju c.1 d.1)&&NN l
theorem Zc:∀{l:List (ByteArray×Nat)},NN l=true->∀i j (hi:i<l.length) (a:j<l.length),i<j->l[i].1≠l[j].1
 |[],_,i,_,hi,_,_=>by simp at hi
 |c::l,h,i,j,hi,a,d=>by
  simp only[NN,dQ]at h
  cases j with
  |zero=>omega
  |succ j=>
   cases i with
   |zero=>
    have b:j<l.length:=by simpa using a
    have:=h6.1 h.1 l[j] (fP b)
    exact awS (by simpa using this)
   |succ i=>exact Zc h.2 i j (by simpa using hi) (by simpa using a) z
def adA(r q:bA):Bool:=Nat.beq r.h q.h&&Ju r.op q.op&&Ju r.aG q.aG&&(r.args==q.args)
theorem aH_{r q:bA}(h:adA r q=false):L' r q:=by
 by_cases H:r.h=q.h;by_cases I:r.op=q.op;by_cases b:r.aG=q.aG;by_cases a:r.args=q.args;exfalso;simp[adA,H,I,b,a,Ju]at h;exact .inr (.inr (.inr a));exact .inr (.inr (.inl b));exact .inr (.inl I);exact .inl H
def SY:List bA->Bool
 |[]=>true
 |r::l=>l.all (fun q=> !adA r q)&&SY l
theorem ajm:∀{l:List bA},SY l=true->l.Pairwise L'
 |[],_=>List.Pairwise.nil
 |r::l,h=>by
  simp only[SY,dQ]at h
  exact List.Pairwise.cons (fun q a=>aH_ (by have:=h6.1 h.1 q a;simpa using this)) (ajm h.2)
def aq5(b:Nat)(r:bA):Bool:=Hk r.op&&ac' r.aG&&Nat.ble r.args.length 3&&r.args.all (fun a=>Nat.blt a b)&&Nat.blt r.h b
def adV(S:cU):Bool:=Nat.blt S.db 100&&Hk S.nm&&S.bw.all (fun c=>Hk c.1&&Eo c.2)&&NN S.bw&&S.aD.all (fun c=>Hk c.1&&Eo c.2)&&NN S.aD&&S.df.all (aq5 S.aD.length)&&SY S.df
theorem aI_{S:cU}(h:adV S=true):FY S:=by
 simp only[adV,dQ]at h;obtain⟨⟨⟨⟨⟨⟨⟨H,I⟩,j⟩,f⟩,k⟩,s⟩,q⟩,t⟩:=h;have b:∀{l:List (ByteArray×Nat)},l.all (fun c=>Hk c.1&&Eo c.2)=true->∀c∈l,tv c.1/\1<=c.2/\c.2<=5:=fun e c d=>by have:=h6.1 e c d;simp only[Eo,dQ,LX]at this;exact⟨acL this.1,this.2.1,this.2.2⟩
 refine⟨by simpa using H,acL I,b j,Zc f,b k,Zc s,fun r i=>?_,ajm t⟩;have:=h6.1 q r i;simp only[aq5,dQ,LX,Nat.blt_eq]at this;obtain⟨⟨⟨⟨g,m⟩,n⟩,p⟩,o⟩:=this;exact⟨acL g,aGn m,n,fun a aH=>by have:=h6.1 p a aH;simpa using this,o⟩
def aJv(S:cU):Bool:=s9 S.df S.al||K0 S.df S.al
def aI5(S:cU):Bool:=Nat.ble S.df.length 9
def ary(p:cU->Bool):Bool:=p mp&&p mq&&p l3&&p n0&&p k0&&p mR
theorem Vy{p:cU->Bool}(h:ary p=true)(n:Nat):p (cA n)=true:=by
 simp only[ary,dQ]at h;obtain⟨⟨⟨⟨⟨ae,H⟩,I⟩,b⟩,a⟩,c⟩:=h;unfold cA;split;exact ae
 split;exact H
 split;exact I
 split;exact b
 split;exact a;exact c
theorem arB(n:Nat):FY (cA n):=aI_ (Vy (p:=adV) av n)
theorem aI3(n:Nat):Lg (cA n).bI (cA n).df (cA n).al (cA n).aD.length=true:=Vy (p:=fun S=>Lg S.bI S.df S.al S.aD) av n
theorem aI1(n:Nat):(cA n).df.length<=9:=hH (Vy (p:=aI5) av n)
theorem aI4(n:Nat)(M:Nat->Nat)(I:2<=M (cA n).al):yj (cA n).df M (cA n).al:=by
 have h:=Vy (p:=aJv) av n;rcases asN.1 h with h|h
 exact .inl (UB h);exact .inr ⟨I,apN h⟩
end Go.bh.N
