/- ItemLatest, one part of the proof. -/
import Derived.Test.YtdioggbficfibaaGreatDoorP09
set_option linter.all false
set_option maxRecDepth 100000
set_option maxHeartbeats 16000000
namespace Go.bS
open Go Go.Proofs.Tryz Go.Proofs Go.RowKit Go.Lib Go.aJ
open Go.bh.N (lM)
theorem aJY(x:Nat)(V fn dB ds:Int)(T:Option Addr)(f' U:Nat)(m:Nat)(ap:1<=m)(bP:ByteArray)(w:World)(b7 aR:Option Addr)(ac:Nat)(Q:Value)(bk:lM w Q)(ax:hc aV w b7 [pr,od,oq])(h:cz aV (aU aV 1) w aR [hG bP]): χ 475 #[.string ⟨#[108,111,111,107,117,112]⟩,.agg (eV b7 3 x V fn dB ds T f' U),Q,.slice aR 1 ac] w (e7 w m):=by
 have w8:((⟨#[108,111,111,107,117,112]⟩:ByteArray).toList==(⟨#[108,111,111,107,117,112]⟩:ByteArray).toList)=true:=q0 _;obtain⟨b,o,rfl,A,H,I,E,K,ae⟩:=M8 h;obtain⟨c,e1,Ki,aa⟩:=awE w Q bk;have bl:=G Ki;have bH:=G fun W (ar:β w W)=>ay_ (m:=m) ap W c (e1.K ar) (fun aT eu=>aa aT (cj ar eu)) bP H E I K;obtain⟨ca,cc,ra,rc,rfl,_⟩:=e1;obtain⟨g,gM,rfl,_,y,F⟩:=ax.2 ao;have Y:=F 0 ao;have P:=F 1 ao;have S:=F 2 ao;simp only[Bp,IA,h7]at Y P S;have s:=G (k4.start w (eV (some ⟨g,gM,none⟩) 3 x V fn dB ds T f' U) 249);clear h F ax Ki aa bk;go_enter Wb,Wh;go_upto_region 1 with fail
 generalize ((w.alloc (.cells (eV (some ⟨g,gM,none⟩) 3 x V fn dB ds T f' U) 249)).alloc (.cells fh 42))=am at s⊢;have C:=s.out.b;have fI:=aK 0 s.out.g;have Cx:=bF s.out.g;have ik:=az C y Y;have ab:=cS C y;go_upto_region 4 with(go_at_call 186;refine(bl.out _ C).mono ?_;rintro e u ⟨rfl,d⟩)
 have Z:=s.out.K d;have B:=G (Z.K (e4 u (.cells #[pr,.slice ca 3 cc,.slice ra 2 rc] 106)));have R:=cW u (.cells #[pr,.slice ca 3 cc,.slice ra 2 rc] 106);have kD:w.heap.size+1<u.heap.size:=bF Z.o;clear fI Cx ik ab C d s Z;generalize u.heap.size=j at*;generalize (u.alloc (.cells #[pr,.slice ca 3 cc,.slice ra 2 rc] 106))=a at*;have f:=B.out.b;obtain⟨bo,c1,c2⟩:=yp R;have c3:a.cell? ⟨w,0,none⟩=some (.slice (some ⟨g,gM,none⟩) 3 x):=aK 0 B.out.g;have c4:a.cell? ⟨g,gM+1,none⟩=some (.string od):=az f y P;have c5:a.cell? ⟨b,o,none⟩=some (.int .i64 1):=az f A ae.bo;have fe:a.cell? ⟨b,o+1,none⟩=some (.string bP):=az f A ae.c1;have nG:a.cell? ⟨b,o+2,none⟩=some (.int .i64 0):=az f A ae.c2;have mC:a.cell? ⟨b,o+3,none⟩=some (.int .i64 0):=az f A ae.c3;have oG:a.cell? ⟨b,o+4,none⟩=some (.int .i64 0):=az f A ae.c4;have yn:a.cell? ⟨b,o+5,none⟩=some (.slice H 0 I):=az f A ae.c5;have L:a.cell? ⟨b,o+6,none⟩=some (.slice E 0 K):=az f A ae.fe;have M:a.cell? ⟨g,gM+2,none⟩=some (.string oq):=az f y S;have rQ:a.drew.cell? ⟨j,0,none⟩=some (.string pr):=bo;have ve:a.drew.cell? ⟨j,1,none⟩=some (.slice ca 3 cc):=c1;have q1:a.drew.cell? ⟨j,2,none⟩=some (.slice ra 2 rc):=c2;have w0:a.drew.cell? ⟨w,0,none⟩=some (.slice (some ⟨g,gM,none⟩) 3 x):=c3;have Nj:a.drew.cell? ⟨g,gM+1,none⟩=some (.string od):=c4;have Nk:a.drew.cell? ⟨b,o,none⟩=some (.int .i64 1):=c5;have Nl:a.drew.cell? ⟨b,o+1,none⟩=some (.string bP):=fe;have No:a.drew.cell? ⟨b,o+2,none⟩=some (.int .i64 0):=nG;have Np:a.drew.cell? ⟨b,o+3,none⟩=some (.int .i64 0):=mC;have Nq:a.drew.cell? ⟨b,o+4,none⟩=some (.int .i64 0):=oG;have Nh:a.drew.cell? ⟨b,o+5,none⟩=some (.slice H 0 I):=yn;have YB:a.drew.cell? ⟨b,o+6,none⟩=some (.slice E 0 K):=L;have YC:a.drew.cell? ⟨g,gM+2,none⟩=some (.string oq):=M;have n:w.heap.size+1≠b:=z;have yV:w.heap.size+1≠w.heap.size:=z;have KU:w.heap.size+1≠g:=z;have O:w.heap.size+1≠j:=z;have iX:=cS f A;have Ck:=cS f y;have hC:=bF B.out.g;have sY:=bF R;have l:=G iX;have IV:=G Ck;have hb:=G hC;have N:=G sY;have iM:=G f.drew;have sn:=G (B.out.K (lh a));have dT:w.heap.size+1<a.heap.size:=bF B.out.o;clear f A y Y P S ae R
 go_region_held3 (fun aT=>aT.cell? ⟨j,0,none⟩=some (.string pr)/\aT.cell? ⟨j,1,none⟩=some (.slice ca 3 cc)/\aT.cell? ⟨j,2,none⟩=some (.slice ra 2 rc)/\aT.cell? ⟨w,0,none⟩=some (.slice (some ⟨g,gM,none⟩) 3 x)/\aT.cell? ⟨g,gM+1,none⟩=some (.string od)/\aT.cell? ⟨b,o,none⟩=some (.int .i64 1)/\aT.cell? ⟨b,o+1,none⟩=some (.string bP)/\aT.cell? ⟨b,o+2,none⟩=some (.int .i64 0)/\aT.cell? ⟨b,o+3,none⟩=some (.int .i64 0)/\aT.cell? ⟨b,o+4,none⟩=some (.int .i64 0)/\aT.cell? ⟨b,o+5,none⟩=some (.slice H 0 I)/\aT.cell? ⟨b,o+6,none⟩=some (.slice E 0 K)/\aT.cell? ⟨g,gM+2,none⟩=some (.string oq)) (first|with_reducible exact⟨bo,c1,c2,c3,c4,c5,fe,nG,mC,oG,yn,L,M⟩|with_reducible exact⟨rQ,ve,q1,w0,Nj,Nk,Nl,No,Np,Nq,Nh,YB,YC⟩|with_reducible exact⟨dX,dl,dE,cH,ja,jS,lK,ti,xQ,xR,xP,CP,CQ⟩|with_reducible exact⟨(e_ O).trans dX,(e_ O).trans dl,(e_ O).trans dE,(e_ yV).trans cH,(e_ KU).trans ja,(e_ n).trans jS,(e_ n).trans lK,(e_ n).trans ti,(e_ n).trans xQ,(e_ n).trans xR,(e_ n).trans xP,(e_ n).trans CP,(e_ KU).trans CQ⟩|go_keep) (first|(go_at_call 520;refine(bH.out _ iM).mono ?_;rintro e u ⟨⟨gL,nX,wT,Dq,nU,Jv,ad,Jx,K9,ag,K_,af,rfl,ol,la,lE⟩,d⟩;have D:=sn.out.K d;have dX:=az d N bo;have dl:=az d N c1;have dE:=az d N c2;have cH:=az d hb c3;have ja:=az d IV c4;have jS:=az d l c5;have lK:=az d l fe;have ti:=az d l nG;have xQ:=az d l mC;have xR:=az d l oG;have xP:=az d l yn;have CP:=az d l L;have CQ:=az d IV M;obtain⟨g3,di,dL,fN,gt,g4,g9⟩:=eX D.o;obtain⟨z0,cy,dz,z3,z4,z5,eO⟩:=he D.o))
 go_wp2;refine ki D.o ?_;exact⟨e7.put (base:=a.drew.heap.size) ⟨_,_,_,_,_,_,_,_,_,_,_,_,rfl,ol,la,lE⟩ (show w.heap.size+1<a from dT) (show w.heap.size<=a.heap.size by omega),iJ D.b z _ _ _ _ _ _ _⟩
end Go.bS
namespace Go.bS
open Go Go.Proofs.Tryz Go.Proofs Go.RowKit Go.Lib Go.aJ
def bC.kind:bC->Int|.mk k _ _ _ _ _ _=>k
def wS(a:List Nat)(l:List bC):Prop:=l.length=a.length/\∀i (H:i<l.length) (I:i<a.length),l[i].kind=(a[i]:Int)
def o8(a:List Nat)(l:List bC)(k:Nat):Prop:=∀i (H:i<l.length) (I:i<a.length),i<k->l[i].kind=(a[i]:Int)
variable{w w':World}
theorem _root_.Ma.P6{b:Nat}{x:Obj}(h:w.heap[b]? =some x)(A:β w w'):w'.heap[b]? =some x:=by rw[A.block _ (bF h)];exact h
theorem o8.zero(a:List Nat)(l:List bC):o8 a l 0:=fun i _ _ hi=>z
variable{l:List bC}{k:Nat}
theorem o8.next{a:List Nat}(h:o8 a l k)(H:k<l)(I:k<a)(b:l[k].kind=(a[k]:Int)):o8 a l (k+1):=fun i _ _ hi=>by
 by_cases e:i=k
 ·subst e;exact b
 ·exact h i _ _ z
theorem o8.all{c:List Nat}(h:o8 c l k)(H:l.length=c.length)(I:l.length<=k):wS c l:=⟨H,fun i a b=>h i a b z⟩
def jP:List ByteArray:=[⟨#[99,111,110,99,97,116]⟩,⟨#[117,112,112,101,114]⟩,⟨#[108,111,119,101,114]⟩,⟨#[116,114,105,109]⟩,⟨#[101,120,116,114,97,99,116]⟩,⟨#[108,101,110,103,116,104]⟩,⟨#[112,97,114,115,101]⟩,⟨#[114,101,97,100]⟩,⟨#[109,97,116,99,104]⟩]
def no:List ByteArray:=[⟨#[108,111,111,107,117,112]⟩,⟨#[116,97,98,108,101]⟩,⟨#[119,104,101,114,101]⟩,⟨#[106,111,105,110]⟩,⟨#[112,105,99,107]⟩,⟨#[115,117,109]⟩,⟨#[99,111,117,110,116]⟩,⟨#[102,105,114,115,116]⟩]
theorem QD(w:World)(l:List ByteArray)(h:l.length<=40):hc aV (w.alloc (.cells (l.map Value.string).toArray 9)) (some ⟨w,0,none⟩) l:=
 ⟨h,fun _=>⟨_,_,rfl,g',ao,fun i hi=>by
  rw[gP]
  exact ly (cW w _) (by simp[hi])⟩⟩
structure wL (w wr:World):Prop where
 b:β w wr
 o:wr.heap[w.heap.size]? =some (.cells fh 42 (0,0))
theorem wL.K{wr:World}(h:wL w wr)(A:β wr w'):wL w w':=
 ⟨cj h.b A,by rw[A.block _ (bF h.o)];exact h.o⟩
theorem wL.start(w:World):wL w (w.alloc (.cells fh 42)):=⟨(br _ _).alloc (aZ _) _,cW _ _⟩
theorem o_.K{w w':World}{a:Option Addr}{l:Nat}{o:Option Nat}(h:o_ w a l o)(A:β w w'):o_ w' a l o:=by
 cases o with
 |none=>exact h
 |some n=>exact⟨h.1,h.2.K A⟩
theorem Sv(m:Nat)(op aG:ByteArray)(ea:List Nat)(f:zD)(w:World)(V:Value)(ca:Option Addr)(cl cc:Nat)(fk:Option Addr)(rl rc:Nat) (o5:∀W,β w W->χ 107 #[op,aG,V,.slice ca cl cc] W (Dp ea)) (o3:∀W,χ 184 #[op,aG] W (Do f)) (ku:∀k∈ea,1<=k)(F:Option Addr)(ac:Nat)(l:List bC)(Q:∀v∈l,∃n,e0 n v)(h:cz aV (aU aV 1) w F l) (JL:(op.toList==[105,102])=false)(NT:(op.toList==[99,111,108])=false)(S3:(op.toList==[116,101,120,116])=false)(Zi:(op.toList==[110,117,109,98,101,114])=false)(ad:(op.toList==[100,97,116,101])=false)(ab:(op.toList==[98,111,111,108])=false)(l0:op∈jP) (jf:wS ea l->∀W a j c d g,β w W->hc aV W a f.nm->o_ W c d f.p->χ 474 #[op,aG,.agg (eV a f.nm j f.k f.n f.dB f.ds c d g),.slice F l ac] W (e7 W m)): χ 407 #[op,aG,.slice F l ac,V,.slice ca cl cc,.slice fk rl rc] w (e7 w m):=by
 have D:=G (wL.start w);have T:=G o5;have S:=G o3;have qb:=G jf;have o4:=G fun W (y:β w W)=>(cz.K (aU.mono aV 1) h y).2;have sk:=G Q;have ff:=h.1;have BF:=G ku;have MH:=G l0;clear l0;clear o5 o3 jf h Q ku;go_enter Ip,Ir;go_upto_region 1 with fail
 generalize w.alloc (.cells fh 42)=am at D⊢;have R:=D.out.b;go_upto_region 2 with(go_at_call 107;refine(T.out _ R).mono ?_;rintro e aq ⟨⟨KJ,KK,KL,rfl,fu⟩,U⟩;generalize q9:ea.length=i7)
 have eS:=G (D.out.K U);clear T D R U;by_cases H:l.length=i7
 ·have dC:((l.length:Int) !=(i7:Int))=false:=by simp[H]
  have gz:=G fun W (y:β aq W)=>(fu.K y).2;clear fu
  go_wp2;go_loopw [20,21] (fun i _ wr=>∃k:Nat,k<=l.length/\i=.int .i64 k/\β aq wr/\o8 ea l k) (fun i _ _=>l.length-(RowKit.intOf i).toNat);case atStart=>exact⟨0,dx _,rfl,br _ _,o8.zero _ _⟩
  case round=>
   obtain⟨k,aa,rfl,bg,qs⟩:=hrel;have eL:=G (eS.out.K bg);by_cases au:k<l;exact KT
   ·have q6:wS ea l:=qs.all (H.trans q9.symm) z;have dT:=bg.size;clear qs gz o4 sk eS bg;go_upto_region 22 with(go_at_call 184;refine(S.out _).mono ?_;rintro e x ⟨⟨a,j,c,d,g,rfl,qw,pS⟩,bD⟩)
    have i3:=eL.out.K bD;have t:=G (i3.K (e4 x (.cells (eV a f.nm j f.k f.n f.dB f.ds c d g) 249)));have s:=cW x (.cells (eV a f.nm j f.k f.n f.dB f.ds c d g) 249);have B:=G (qw.K (e4 x (.cells (eV a f.nm j f.k f.n f.dB f.ds c d g) 249)));have C:=G (o_.K pS (e4 x (.cells (eV a f.nm j f.k f.n f.dB f.ds c d g) 249)));clear i3 bD eL qw pS S;generalize x.heap.size=i4 at*;generalize x.alloc (.cells (eV a f.nm j f.k f.n f.dB f.ds c d g) 249)=A at*;replace s:=G s;go_upto_region 39 with fail
    have M:hc aV (A.alloc (.cells (jP.map Value.string).toArray 9)) (some ⟨A,0,none⟩) jP:=QD A jP ak;have J:=G (M7 _ _ 9 jP op M true ⟨fun _=>MH.out,fun _=>rfl⟩);have u:=G (fun(W:World) (e:A.alloc (.cells (jP.map Value.string).toArray 9)=W)=>e▸e4 A (.cells (jP.map Value.string).toArray 9));clear M;go_upto_region 40 with(go_at_call 473;refine(J.out).mono ?_;rintro e w7 ⟨rfl,y⟩;replace u:=G (u.out _ y);clear y J)
    have P:=G (t.out.K u);have L:=G (Ma.P6 s u);have N:=G (B.out.K u);have O:=G (o_.K C u);clear u t s B C;have t:=P;have s:=L;have B:=N;have C:=O;clear P L N O;obtain⟨k6,hL,hx,f3,xa,f5⟩:=f_ s;have E:=qb.out q6 w7 a j c d g t.out.b B C;rw[H]at E;replace E:=G E;have AM:w.heap.size<=w7.heap.size:=t.out.b.size;have kb:w.heap.size<w7.heap.size:=bF t.out.o;clear qb B C s q6 dT
    go_wp2_with (go_at_call 474;(with_reducible refine E.out.mono ?_);rintro e oV ⟨⟨it,bJ,j7,lT,kr,mb,lV,mc,md,lX,me,err,rfl,ol,la,lE⟩,oj⟩;have Z:=G (t.out.K oj);have I:=Z.out.o;obtain⟨g3,di,dL,fN,gt,g4,g9⟩:=eX I;obtain⟨z0,cy,dz,z3,z4,z5,eO⟩:=he I);refine ki I ?_;exact⟨e7.put (base:=w7.heap.size) ⟨_,_,_,_,_,_,_,_,_,_,_,_,rfl,ol,la,lE⟩ kb AM,iJ Z.out.b z _ _ _ _ _ _ _⟩
 exact Hi
def ahr(e:Ending):Prop:=∃b:Bool,e=.returned (.bool b)
attribute [local irreducible] wpStill in
theorem aze(cs:List (ByteArray×Nat))(l:List bC)(w:World)(ca ra:Option Addr)(cc rc:Nat)(M:Go.da.jd w ca cs)(ff:cs.length<=8)(x:∀v∈l,∃n,e0 n v)(h:cz aV (aU aV 1) w ra l): χ 467 #[.slice ca cs.length cc,.slice ra l.length rc] w fun e w'=>ahr e:=by
 obtain⟨m,D,arr,bb,rfl,A,u⟩:=M;have T:=G fun W (g:β w W) k (t:k<cs.length)=>(show W.cell? ⟨m,D+k*2+1,none⟩=some (.int .i64 cs[k].2) by rw[World.cell?,g.block _ (bF A),A];simp[(u k t).2]);have ab:m<w.heap.size:=bF A;have U:=G fun W (g:β w W)=>(cz.K (aU.mono aV 1) h g).2;have X:=G x;clear A u h x;go_enter func467,ntmps467;by_cases j:cs.length=l.length
 ·have dC:((cs.length:Int) !=(l.length:Int))=false:=by simp[j]
  have O:=G j;clear j
  go_wp2;go_loopw [5,6] (fun i _ wr=>∃k:Nat,k<=l.length/\i=.int .i64 k/\β w wr) (fun i _ _=>l.length-(RowKit.intOf i).toNat);case atStart=>exact⟨0,dx _,rfl,br _ _⟩
  case round=>
   obtain⟨k,t,rfl,b⟩:=hrel;by_cases au:k<l.length
   ·have V:k<cs.length:=by have:=O.out;omega
    obtain⟨y,N,rfl,_,E,F⟩:=U.out _ b z;obtain⟨b4,bV,b1,cP,b5,gJ,nI,gK,gu,nW,gv,ag,a⟩:=F k au;obtain⟨Y,r⟩:=X.out _ (fP au);have s:=G (ads r _ _ ag);have C:=a.bo;have K:=a.c1;have L:=a.c2;have P:=a.c3;have Q:=a.c4;have R:=a.c5;have S:=a.fe;have hA:(0:Int)<=(k:Int):=z;have gU:(k:Int)<l.length:=z;have kf:(k:Int)<cs.length:=z;have I:y<wr.heap.size:=E;have H:=G C;have B:=b.size;have o:=G b;clear F a ag r;go_upto_region 7 with(go_at_call 202;(with_reducible refine s.out.mono ?_);rintro e c ⟨rfl,f⟩)
    have fo:=az f I H.out;have bo:=T.out _ (o.out.trans (f.mono B)) k V;have d:=(o.out.trans (f.mono B)).drew;have Z:c.drew.cell? ⟨y,N+k*7,none⟩=_:=fo;have aa:c.drew.cell? ⟨m,D+k*2+1,none⟩=_:=bo;clear C K L P Q R S H E I fo bo b f s o;refine uH av av ?_;change wpStill _ _ c.drew (fun a'=>Exit.then _ _ Exit.normal a' c.drew) _ _;generalize c.drew=a_ at*;generalize cs[k].2=q at*;rcases V5 (b4 !=(q:Int))with aj|aj<;>rcases V5 (b4 !=0)with J|J
    ·repeat still_step
     refine rB ?_
     go_wp2;go_ret;exact⟨⟨_,rfl⟩,d⟩
    all_goals
     repeat still_step
     refine rB ?_
     go_wp2;go_roundw;case rel=>first|exact⟨k+1,z,bG,d⟩|exact⟨k+1,z,z⟩|exact⟨k+1,z,z,d⟩|((repeat apply Exists.intro);refine⟨?_,rfl⟩;exact⟨k+1,z,bG,d⟩)
     case measure=>simp[RowKit.intOf];omega
   ·go_wp2;go_ret;exact⟨⟨_,rfl⟩,b⟩
 ·have dC:((cs.length:Int) !=(l.length:Int))=true:=bz
  go_wp2;go_ret;exact⟨⟨_,rfl⟩,br _ _⟩
def aht(a b:Int)(e:Ending):Prop:=∃x:Int,e=.returned (.int .i64 x)/\a<=x/\x<=b
def MW(n:Nat)(e:Ending):Prop:=∃s:ByteArray,e=.returned (.string s)/\s.size<=n
theorem aDI(y:Int)(w:World)(ae:1<=y)(H:y<=9999):Calls prog 477 #[y] w fun e w'=>ahr e/\w=w':=by
 go_enter func477,ntmps477
 go_wp2;all_goals
  go_ret;exact⟨⟨_,rfl⟩,rfl⟩
theorem ax0(y m:Int)(w:World)(ae:1<=y)(H:y<=9999):Calls prog 416 #[y,m] w fun e w'=>aht 28 31 e/\w=w':=by
 have Bx:=G (aDI y w ae H);go_enter func416,ntmps416
 go_wp2_with (go_at_call 477;(with_reducible refine Bx.out.mono ?_);rintro e a ⟨⟨b,rfl⟩,rfl⟩;cases b);all_goals
  go_ret;exact⟨⟨_,rfl,ak,ak⟩,rfl⟩
theorem azc(y:Int)(w:World)(ae:1<=y)(H:y<=9999):Calls prog 415 #[y] w fun e w'=>aht (-100) 4000000 e/\w=w':=by
 have c:=LK (a:=y-1) (b:=4) z;have d:=LK (a:=y-1) (b:=100) z;have f:=LK (a:=y-1) (b:=400) z;go_enter func415,ntmps415
 go_wp2;go_ret;refine⟨⟨_,rfl,?_,?_⟩,rfl⟩;all_goals omega
theorem ayj(n:Int)(c:Nat)(w:World)(ae: -6000000<=n)(H:n<=4000000)(o:c<=4):χ 302 #[n,c] w fun e w'=>MW 4000010 e:=by
 go_enter func302,ntmps302
 go_wp2;go_loopw [0,1,5] (fun x y v wr=>∃(j:Nat) (d:Int) (s:ByteArray),s.size=j/\x=.int .i64 d/\y=.int .i64 ((c:Int)-j)/\v=.string s/\ -6000000<=d/\d<=4000000/\j+d.toNat+((c:Int)-j).toNat<=4000010/\β w wr) (fun x y _ _=>(RowKit.intOf x).toNat+(RowKit.intOf y).toNat);case atStart=>exact⟨0,n,bO,rfl,rfl,ao,rfl,ae,H,z,br _ _⟩
 case round=>
  obtain⟨j,x,s,Y,rfl,rfl,rfl,k,r,m,A⟩:=hrel;have s0: -6000000<=x.tdiv 10:=by exact aco
  have hM:x.tdiv 10<=4000000:=by exact aco
  have t:(x.tdiv 10).toNat<=x.toNat-1:=by exact aco
  have l:=fun af=>apG wr af;have iY:∀af,(strOfNums [af]).size=1:=fun af=>by rw[Rg];rfl
  have q:s.size<=4000010:=z;by_cases f:0<x
  ·have aj:decide (0<x)=true:=by simpa using f
   exact anS
  ·have aj:decide (0<x)=false:=by simpa using f
   by_cases g:0<(c:Int)-j
   ·have i:decide (0<(c:Int)-j)=true:=by simpa using g
    exact anS
   ·have i:decide (0<(c:Int)-j)=false:=by simpa using g
    go_wp2;go_ret;exact⟨⟨s,rfl,z⟩,A⟩
def ave(e:Ending):Prop:=∃y m d:Int,e=.returned (.tuple #[.int .i64 y,.int .i64 m,.int .i64 d,.bool true])/\1<=y/\y<=9999/\1<=m/\m<=4000000/\ -5000000<=d/\d<=4000000
theorem aHN(n:Int)(w:World)(ae:0<=n)(H:n<=3652058):Calls prog 414 #[n] w fun e w'=>e=.returned (.bool true)/\w=w':=by
 go_enter func414,ntmps414
 go_wp2;exact PN
theorem axl(n:Int)(w:World)(ae:0<=n)(H:n<=3652058):Calls prog 301 #[n] w fun e w'=>ave e/\w=w':=by
 have k:=G (aHN n w ae H);have qb:=G fun y (a:1<=y) (b:y<=9999)=>azc y w a b;have qa:=G fun y m (a:1<=y) (b:y<=9999)=>ax0 y m w a b;go_enter func301,ntmps301;go_upto_region 3 with(go_at_call 414;(with_reducible refine k.out.mono ?_);rintro e c ⟨rfl,rfl⟩)
 go_wp2;go_loopw [6,7] (fun x y wr=>∃eh hi:Int,x=.int .i64 eh/\y=.int .i64 hi/\1<=eh/\eh<=hi/\hi<=9999/\w=wr) (fun x y _=>(RowKit.intOf y-RowKit.intOf x).toNat);case atStart=>exact⟨1,9999,rfl,rfl,ak,ak,ak,rfl⟩
 case round=>
  obtain⟨eh,hi,rfl,rfl,bZ,cp,ix,rfl⟩:=hrel;by_cases au:eh<hi
  ·have I:eh<(eh+hi+1).tdiv 2:=by rw[LK z];omega
   have J:(eh+hi+1).tdiv 2<=hi:=by rw[LK z];omega
   go_upto_region 7 with fail
   generalize (eh+hi+1).tdiv 2=mid at*;have g:=G (qb.out mid z z)
   go_wp2_with (go_at_call 415;(with_reducible refine g.out.mono ?_);rintro e c ⟨⟨f,rfl,t,q⟩,rfl⟩;rcases V5 (decide (f<=n))with l|l);exact⟨⟨mid,hi,rfl,rfl,z,z,z,g'⟩,by simp only[RowKit.intOf];omega⟩;exact⟨⟨eh,mid-1,rfl,rfl,z,z,z,g'⟩,by simp only[RowKit.intOf];omega⟩
  ·have g:=G (qb.out eh z z);go_upto_region 11 with(go_at_call 415;(with_reducible refine g.out.mono ?_);rintro e c ⟨⟨f,rfl,t,q⟩,rfl⟩)
   go_wp2;go_loopw [9,10] (fun x y wr=>∃r m:Int,x=.int .i64 r/\y=.int .i64 m/\ -4000100<=r/\r<=3652158/\1<=m/\m+r.toNat<=3652200/\w=wr) (fun x _ _=>(RowKit.intOf x).toNat);case atStart=>exact⟨n-f,1,rfl,rfl,z,z,ak,z,rfl⟩
   case round=>
    obtain⟨r,m,rfl,rfl,fX,C,s,E,rfl⟩:=hrel;have j:=G (qa.out eh m z z);go_upto_region 13 with(go_at_call 416;(with_reducible refine j.out.mono ?_);rintro e c ⟨⟨d,rfl,F,D⟩,rfl⟩;rcases V5 (decide (d<=r))with i|i)
    ·go_wp2_with (go_at_call 416;(with_reducible refine j.out.mono ?_);rintro e c ⟨⟨o,rfl,u,A⟩,rfl⟩);have B:d<=r:=by simpa using i
     exact⟨⟨r-o,m+1,rfl,rfl,z,z,z,z,g'⟩,by simp only[RowKit.intOf];omega⟩
    ·refine jT (by simp[results,results301,go_sem];rfl) rfl ?_;exact⟨⟨eh,m,r+1,rfl,z,z,s,z,z,z⟩,rfl⟩
theorem aJ8(n:Int)(w:World)(ae:0<=n)(H:n<=3652058):χ 206 #[n] w fun e w'=>MW 20000000 e:=by
 have mV:=G (axl n w ae H);have f:=G fun n i (W:World) (a: -6000000<=n) (b:n<=4000000) (c:i<=4)=>ayj n i W a b c;go_enter func206,ntmps206;go_upto_region 4 with(go_at_call 301;(with_reducible refine mV.out.mono ?_);rintro e k ⟨⟨y,m,d,rfl,x,A,J,D,E,B⟩,rfl⟩)
 have q:Hid (∀W,χ 302 #[y,.int .i64 4] W fun e w'=>MW 4000010 e):=G fun W=>f.out y 4 W z z ak;have l:Hid (∀W,χ 302 #[m,.int .i64 2] W fun e w'=>MW 4000010 e):=G fun W=>f.out m 2 W z z ak;have r:Hid (∀W,χ 302 #[d,.int .i64 2] W fun e w'=>MW 4000010 e):=G fun W=>f.out d 2 W z z ak
 go_wp2_with (first|(go_at_call 302;(with_reducible refine(q.out _).mono ?_);rintro e k ⟨⟨t,rfl,F⟩,g⟩)|(go_at_call 302;(with_reducible refine(l.out _).mono ?_);rintro e s ⟨⟨C,rfl,I⟩,j⟩)|(go_at_call 302;(with_reducible refine(r.out _).mono ?_);rintro e u ⟨⟨K,rfl,L⟩,o⟩))
 go_ret;refine⟨⟨_,rfl,?_⟩,(cj g j).trans (o.mono (cj g j).size)⟩;have hd:(⟨#[45]⟩:ByteArray).size=1:=rfl;rw[Lz,Lz,Lz,Lz,hd];omega
def MV(e:Ending):Prop:=∃s:ByteArray,e=.returned (.string s)/\1<=s.size
inductive qX:bC->Prop
 |hG (s:ByteArray) (h:kp s):qX (hG s)
 |gD (N:Int) (S:Nat) (h:hn N S) (bm:S<=3):qX (gD N S)
 |kq (d:Int) (ae:0<=d) (H:d<=3652058):qX (kq d)
theorem qX.right{v:bC}(J:qX v)(w:World)(F:Array Value)(h:aU aV 1 w F v):χ 202 #[.agg F] w fun e w'=>oD e:=by
 cases J with
 |hG s a=>obtain⟨ca,cc,ra,rc,rfl,_⟩:=h;exact adu s ca cc ra rc w a
 |gD N S a _=>obtain⟨ca,cc,ra,rc,rfl,_⟩:=h;exact adt N S ca cc ra rc w a
 |kq d ae H=>obtain⟨ca,cc,ra,rc,rfl,_⟩:=h;exact aqU d ca cc ra rc w ae H
theorem ai_(n:Nat)(a:n<=1000000000000000):(decDigits n).length<=1000000000000001:=by
 have H:=aeU n;have I:=UU n n (aZ _);omega
theorem aKv(neg:Bool)(n S:Nat)(a:n<=1000000000000000)(b:S<=3):(zn neg n S).length<=4000000000000004:=by
 unfold zn;have ag:10^S<=10^3:=kO z b;have c:0<10^S:=IJ z;have H:=ai_ (n/10^S) (cO (IG _ _) a);have I:=zu n c;have e:=ai_ (10^S+n%10^S) z;have d:(List.drop 1 (decDigits (10^S+n%10^S))).length<=1000000000000001:=by rw[qN];omega
 rw[ia,ia];have f:(if neg=true then [(45:UInt8)]else []).length<=1:=by split<;>simp
 have g:(if 0<S then 46::List.drop 1 (decDigits (10^S+n%10^S))else []).length<=1000000000000002:=by
  split;rw[l7];omega;simp
 omega
theorem aHg(s:ByteArray)(w:World)(h:kp s):Calls prog 204 #[s] w fun e w'=>MV e/\w=w':=by
 have g:(s.size:Int)<=200:=by have:=h.1;omega
 clear h;go_enter func204,ntmps204
 go_wp2;go_loopw [3,4] (fun x i wr=>∃(k:Nat) (t:ByteArray),k<=s.size/\i=.int .i64 k/\x=.string t/\1<=t.size/\t.size<=1+2*k/\w=wr) (fun _ i _=>s.size-(RowKit.intOf i).toNat);case atStart=>exact⟨0,_,dx _,rfl,rfl,ak,ak,rfl⟩
 case round=>
  obtain⟨k,t,c,rfl,rfl,t0,f,rfl⟩:=hrel;by_cases au:k<s.size
  ·have b:(k:Int)<s.size:=z;have ai:t.size<=401:=z;have d:(s.extract k (k+1)).size<=1:=by rw[ByteArray.size_extract];omega
   go_wp2;all_goals
    refine⟨⟨k+1,_,z,bG,rfl,?_,?_,g'⟩,by simp[RowKit.intOf];omega⟩;all_goals
     have a:(⟨#[39]⟩:ByteArray).size=1:=rfl;simp only[Lz,a];omega
  ·have b:¬(k:Int)<s.size:=z;have ai:t.size<=401:=z
   go_wp2;go_ret;exact⟨⟨_,rfl,by rw[Lz];omega⟩,rfl⟩
theorem aKa(s:ByteArray)(ca:Option Addr)(cc:Nat)(ra:Option Addr)(rc:Nat)(w:World)(c:kp s):χ 119 #[.agg (bM 1 s 0 0 0 ca 0 cc ra 0 rc)] w fun e w'=>MV e:=by
 have j:=G fun W=>(qX.hG s c).right W (bM 1 s 0 0 0 ca 0 cc ra 0 rc) (aU.iW aV 1 W _ _ _ _ _ _ _ _ _);have i:=G fun W=>aHg s W c;have b:=cW w (.cells (bM 1 s 0 0 0 ca 0 cc ra 0 rc) 42 (0,0));have d:=Re (br w w) (aZ _) (.cells (bM 1 s 0 0 0 ca 0 cc ra 0 rc) 42 (0,0));have g:=G b;have l:=G d;clear b d;go_enter func119,ntmps119
 go_wp2_with (first|(go_at_call 202;(with_reducible refine(j.out _).mono ?_);rintro e n ⟨rfl,a⟩;have f:=(a.block _ ao).trans g;obtain⟨u,r,t,x,y,z,A⟩:=eX f;have k:=G (l.out.trans (a.mono ao));clear f a)|(go_at_call 204;(with_reducible refine(i.out _).mono ?_);rintro e o ⟨⟨q,rfl,m⟩,rfl⟩))
 go_ret;exact⟨⟨_,rfl,m⟩,k⟩
theorem aJ_(N:Int)(S:Nat)(ca:Option Addr)(cc:Nat)(ra:Option Addr)(rc:Nat)(w:World)(h:hn N S)(b:S<=3):χ 119 #[.agg (bM 2 bO N S 0 ca 0 cc ra 0 rc)] w fun e w'=>MV e:=by
 have k:=G fun W=>(qX.gD N S h b).right W (bM 2 bO N S 0 ca 0 cc ra 0 rc) (aU.iW aV 1 W _ _ _ _ _ _ _ _ _);have j:=G fun W=>aKb N S W h b;have g:=G (Go.bS.aKv (decide (N<0)) N.natAbs S (by have:=h.2.2;omega) b);have c:=cW w (.cells (bM 2 bO N S 0 ca 0 cc ra 0 rc) 42 (0,0));have d:=Re (br w w) (aZ _) (.cells (bM 2 bO N S 0 ca 0 cc ra 0 rc) 42 (0,0));have i:=G c;have o:=G d;clear c d;go_enter func119,ntmps119
 go_wp2_with (first|(go_at_call 202;(with_reducible refine(k.out _).mono ?_);rintro e r ⟨rfl,a⟩;have f:=(a.block _ ao).trans i;obtain⟨x,t,u,y,z,A,B⟩:=eX f;have m:=G (o.out.trans (a.mono ao));clear f a)|(go_at_call 205;(with_reducible refine(j.out _).mono ?_);rintro e s ⟨⟨n,rfl,q⟩,l⟩;have ey:=G (cj m l);have C:n.size<=4000000000000004:=(by have:=g.out;rw[←q,jC]at this;exact this)))
 exact aoS
theorem aJ9(d:Int)(ca:Option Addr)(cc:Nat)(ra:Option Addr)(rc:Nat)(w:World)(ae:0<=d)(H:d<=3652058):χ 119 #[.agg (bM 3 bO 0 0 d ca 0 cc ra 0 rc)] w fun e w'=>MV e:=by
 have j:=G fun W=>(qX.kq d ae H).right W (bM 3 bO 0 0 d ca 0 cc ra 0 rc) (aU.iW aV 1 W _ _ _ _ _ _ _ _ _);have i:=G fun W=>aJ8 d W ae H;have b:=cW w (.cells (bM 3 bO 0 0 d ca 0 cc ra 0 rc) 42 (0,0));have c:=Re (br w w) (aZ _) (.cells (bM 3 bO 0 0 d ca 0 cc ra 0 rc) 42 (0,0));have g:=G b;have m:=G c;clear b c;go_enter func119,ntmps119
 go_wp2_with (first|(go_at_call 202;(with_reducible refine(j.out _).mono ?_);rintro e n ⟨rfl,a⟩;have f:=(a.block _ ao).trans g;obtain⟨t,r,s,x,y,z,A⟩:=eX f;have l:=G (m.out.trans (a.mono ao));clear f a)|(go_at_call 206;(with_reducible refine(i.out _).mono ?_);rintro e o ⟨⟨q,rfl,u⟩,k⟩;have ey:=G (cj l k)))
 exact aoS
theorem aeb{v:bC}(J:qX v)(w:World)(F:Array Value)(h:aU aV 1 w F v):χ 119 #[.agg F] w fun e w'=>MV e:=by
 cases J with
 |hG s a=>obtain⟨ca,cc,ra,rc,rfl,_⟩:=h;exact aKa s ca cc ra rc w a
 |gD N S a I=>obtain⟨ca,cc,ra,rc,rfl,_⟩:=h;exact aJ_ N S ca cc ra rc w a I
 |kq d ae H=>obtain⟨ca,cc,ra,rc,rfl,_⟩:=h;exact aJ9 d ca cc ra rc w ae H
def avK(e:Ending):Prop:=∃s:ByteArray,e=.returned (.agg (bM 1 s 0 0 0 none 0 0 none 0 0))/\kp s
theorem aLu(w:World)(b:Nat)(a:Option Addr)(len:Nat)(d:len<=maxLen)(h:el w b a len):Calls prog 118 #[.pointer (some ⟨b,0,none⟩),.int .i64 1] w fun e w'=>avK e/\el w' b a len/\fb b w w':=by
 have k:Hid (∀w,el w b a len->Calls prog 199 #[.pointer (some ⟨b,0,none⟩)] w fun e w'=>XX e/\nz w w' b a len):=G fun w i=>aJ' w b a len d i;have u:=G h;have g:=G (sq.ee h aeL 42);have j:Hid (w.heap.size≠b):=(by have:=h.lt;show w.heap.size≠b;omega);clear h d;go_enter func118,ntmps118
 go_wp2_with (first|(go_at_call 199;(with_reducible refine(k.out _ g.out.n).mono ?_);rintro e z ⟨⟨l,rfl,f⟩,_,q,y⟩;have o:=G f;clear f;have c:=G (g.out.A_ q y j);obtain⟨p,m,n,r,s,t,x⟩:=eX c.out.r;obtain⟨C,D,B,A,F,E,H⟩:=he c.out.r))
 refine jT (by simp[results,Wi,go_sem,p,m,n,r,s,t,x];rfl) rfl ?_;exact⟨⟨l,rfl,o⟩,u.out.CF c.out.n _ _ _ _ _ _ _,c.out.s.CF _ _ _ _ _ _ _⟩
def avm(k:Int)(e:Ending):Prop:=∃(s:ByteArray) (N S n:Int),e=.returned (.agg (bM k s N S n none 0 0 none 0 0))/\qX (.mk k s N S n [] [])
theorem aLs(w:World)(b:Nat)(a:Option Addr)(len:Nat)(f:len<=maxLen)(h:el w b a len)(k:Int)(g:k=1∨k=2∨k=3):Calls prog 118 #[.pointer (some ⟨b,0,none⟩),k] w fun e w'=>avm k e/\nz w w' b a len:=by
 rcases g with rfl|rfl|rfl;refine(aLu w b a len f h).mono ?_;rintro e w' ⟨⟨s,rfl,i⟩,c,d⟩;exact⟨⟨s,0,0,0,rfl,.hG s i⟩,h,c,d⟩;refine(aLt w b a len f h).mono ?_;rintro e w' ⟨⟨N,S,rfl,l,j⟩,c,d⟩;exact⟨⟨bO,N,S,0,rfl,.gD N S l j⟩,h,c,d⟩;refine(aLr w b a len f h).mono ?_;rintro e w' ⟨⟨N,rfl,ae,H⟩,c,d⟩;exact⟨⟨bO,0,0,N,rfl,.kq N ae H⟩,h,c,d⟩
end Go.bS
namespace Go.bh.N
open Go Go.Proofs.Tryz Go.Proofs Go.RowKit Go.da
variable{w:World}{a:Option Addr}
theorem _root_.Go.da.qU.amQ{l:List Nat}(h:qU w a l)(d:l.length<=1000):Di w a l:=
 ⟨d,fun ae=>by
  obtain⟨b,o,e,A,c⟩:=h ae
  exact⟨b,o,e,A,fun i hi=>⟨_,c i hi⟩⟩⟩
theorem atE(r q:bA)(d f:Option Addr)(ac g:Nat)(w:World)(aH:qU w d r.args)(A:qU w f q.args)(H:r.args.length<=3)(I:q.args.length<=3)(hd:L' r q): χ 181 #[.agg #[r.h,r.op,r.aG,.slice d r.args ac],.agg #[q.h,q.op,q.aG,.slice f q.args g]] w fun e w'=>e=.returned (.bool false):=by
 by_cases a:r.args=q.args
 ·have n7:=G (fun W (c:β w W)=>aCW d f r.args q.args ac g W ((aH.K c).amQ z) ((A.K c).amQ z));by_cases aj:r.h=q.h
  ·have c1:((r.h:Int)==(q.h:Int))=true:=by simp[aj]
   by_cases b:r.op=q.op
   ·have j:(r.op.toList==q.op.toList)=true:=by simp[b]
    have i:r.aG≠q.aG:=by
     rcases hd with h|h|h|h;exact absurd aj h;exact absurd b h;exact h;exact absurd a h
    have k:(r.aG.toList==q.aG.toList)=false:=YA i;clear hd aj b i a;exact acF
   have j:(r.op.toList==q.op.toList)=false:=YA b;clear hd aj b a;exact acF
  have c1:((r.h:Int)==(q.h:Int))=false:=bz;clear hd aj a;exact acF
 ·have n7:=G (fun W (c:β w W)=>aCZ d f ac g r.args q.args W (aH.K c) (A.K c) z z a);clear hd a;go_enter func181,ntmps181
  go_wp2_with (go_at_call 270;refine(n7.out _ (Sy _ _ _)).mono ?_;rintro e w' ⟨rfl,Zf,rfl⟩);all_goals(go_ret;exact⟨by first|rfl|simp,(Sy _ _ _).trans (qV.K ⟨Zf,rfl⟩ _)⟩)
theorem asm(a:Option Addr)(n c:Nat)(w:World)(N:Nat->ByteArray)(H:n<=1000)(h:0<n->∃b o,a=some ⟨b,o,none⟩/\b<w/\∀i,i<n->w.cell? ⟨b,o+i,none⟩=some (.string (N i)))(f:∀i,i<n->tv (N i))(hd:∀i j,i<j->j<n->N i≠N j):Calls prog 105 #[.slice a n c] w fun e w'=>e=.returned (.bool true)/\qV w w':=by
 have l:=G f;have r:=G hd;clear f hd;go_enter func105,ntmps105
 go_wp2;go_loopw [3] (fun i wr=>∃k:Nat,k<=n/\i=.int .i64 k/\qV w wr) (fun i _=>n-(RowKit.intOf i).toNat);case atStart=>exact⟨0,dx _,rfl,0,rfl⟩
 case round=>
  obtain⟨k,t,rfl,q,rfl⟩:=hrel;by_cases au:k<n
  ·obtain⟨b,o,rfl,A,d⟩:=h z;have u:=d k au;have g:=G (l.out k au);have D:(k:Int)<n:=z
   go_wp2_with (go_at_call 103;refine(PR _ _ g).mono ?_;rintro e w' ⟨rfl,rfl⟩)
   ·go_loopw [5] (fun j wr=>∃m:Nat,m<=k/\j=.int .i64 m/\qV w wr) (fun j _=>k-(RowKit.intOf j).toNat);case atStart=>exact⟨0,dx _,rfl,q,rfl⟩
    case round=>
     obtain⟨m,y,rfl,C,rfl⟩:=hrel;by_cases s:m<k
     ·have x:=d m z;have B:=YA (r.out m k s au);have F:(0:Int)<=(m:Int):=z;have E:(m:Int)<n:=z;have I:(0:Int)<=(k:Int):=z
      go_wp2;go_quiet (fail)
      go_wp2;all_goals first
       |(
        go_roundw
        case rel=>exact⟨m+1,z,bG,_,(by first|rfl|exact World.drewN_drewN _ _ _)⟩
        case measure=>simp[RowKit.intOf];omega)
       |(refine⟨⟨m+1,z,bG,_,rfl⟩,?_⟩;simp[intOf];omega)
     exact aEg
  ·go_wp2;all_goals(go_ret;exact⟨rfl,q,rfl⟩)
theorem atD(nm db cs al:Value)(n ra:Option Addr)(ss:List (ByteArray×Nat))(M:Nat->Nat)(rs:List bA)(u rc k:Nat)(w:World)(U:sA w n ss M)(T:∀c∈ss,tv c.1)(pM:ss.length<=12)(du:wV w ra rs)(vE:rs.length<=40)(F:∀r∈rs,ahz ss.length r)(S:∀i j (hi:i<rs.length) (aa:j<rs.length),i<j->L' rs[i] rs[j])(y:k<rs.length): χ 106 #[.agg #[nm,db,cs,.slice n ss.length u,.slice ra rs.length rc,al],.int .i64 k] w fun e w'=>e=.returned (.bool true):=by
 obtain⟨b,o,rfl,A,B⟩:=du;obtain⟨D,ac,r⟩:=B k y;have P:=G (fun W (x:β w W) (i:Nat) (hi:i<ss.length)=>aJL nm db cs (.slice (some ⟨b,o,none⟩) rs.length rc) al n ss M u i W (U.K x) T hi pM);have a:=F _ (fP y);have ai:=G a.op;have O:=G a.aG;have ag:=G a.args;have Z:=a.iD;have b9:=a.h;have Y:=G (fun i (hi:i<rs.length)=>(F _ (fP hi)).iD);have io:=G S;have jH:=G B;have N:=G r.args;have hA:(k:Int)<rs.length:=z;have ei:(0:Int)<=(k:Int):=z;have bo:=r.bo;have c1:=r.c1;have c2:=r.c2;have c3:=r.c3;have oK:decide (3<(rs[k].args.length:Int))=false:=bz;have V:∀R Q,β w ((w.alloc R).alloc Q):=fun R Q=>((br _ _).alloc (aZ _) _).alloc ao _;clear U T F a S B r;go_enter func106,ntmps106
 go_wp2_with (first
  |(go_at_call 103;refine(PR _ _ ai.out).mono ?_;rintro e w' ⟨rfl,rfl⟩)
  |(go_at_call 180;refine(aGo _ _ O.out.1 O.out.2).mono ?_;rintro e w' ⟨rfl,rfl⟩)
  |(go_at_call 182;refine(P.out _ (V _ _) _ b9).mono ?_;rintro e l ⟨⟨ad,rfl,iX⟩,bf⟩))
 have KC:w.heap.size+2<=l.heap.size:=by have:=bf.size;simp at this;omega
 have aL:L3 l w.heap.size (w.heap.size+1) #[nm,db,cs,.slice n ss.length u,.slice (some ⟨b,o,none⟩) rs.length rc,al] #[.int .i64 rs[k].h,.string rs[k].op,.string rs[k].aG,.slice D rs[k].args.length ac]:=by
  refine⟨z,z,?_,?_⟩
  ·exact aEm
  ·rw[bf.block _ (by simp only[i_];omega)];have:=cW (w.alloc (.cells #[nm,db,cs,.slice n ss.length u,.slice (some ⟨b,o,none⟩) rs.length rc,al] 29)) (.cells #[.int .i64 rs[k].h,.string rs[k].op,.string rs[k].aG,.slice D rs[k].args.length ac] 96);exact aoL
 have tq:β w l:=(V _ _).trans (bf.mono bz);clear bf;try rw[show(ad.toList==[32])=false by assumption]
 go_loopw [8] (fun i wr=>∃j:Nat,j<=rs[k].args.length/\i=.int .i64 j/\β l wr) (fun i _=>rs[k].args.length-(RowKit.intOf i).toNat);case atStart=>exact⟨0,dx _,rfl,br _ _⟩
 case round=>
  obtain⟨s,rfl⟩:∃s:World,s=wr:=⟨_,rfl⟩;obtain⟨j,aa,rfl,d⟩:=hrel;have H:=aL.K d;have I:β w s:=tq.trans (d.mono z);have hw:=aK 3 H.2.2.2;by_cases au:j<rs[k].args.length
  ·obtain⟨dR,eM,rfl,jl,X⟩:=(N.out.K I) z;have k':=X j au;have ab:=ag.out _ (fP au);obtain⟨dC,aj,aF,bq,cI,hr⟩:=f_ H.2.2.1;have mP:(0:Int)<=(j:Int):=z;have lF:(j:Int)<(rs[k].args.length:Int):=z;have oS:(j:Int)<=1000:=z;clear X
   go_wp2;go_still_tail 6,av
   go_wp2_with (go_at_call 182;refine(P.out _ I.drew _ ab).mono ?_;rintro e bn ⟨⟨am,rfl,ak⟩,q⟩);all_goals(
    go_roundw
    case rel=>first|exact⟨j+1,z,bG,(d.drew).trans (q.mono d.size)⟩|((repeat apply Exists.intro);refine⟨?_,rfl⟩;exact⟨j+1,z,bG,(d.drew).trans (q.mono d.size)⟩)
    case measure=>simp[RowKit.intOf];omega)
  ·go_wp2;go_loopw [9] (fun i cN=>∃m:Nat,m<=k/\i=.int .i64 m/\β s cN) (fun i _=>k-(RowKit.intOf i).toNat);case atStart=>exact⟨0,dx _,rfl,br _ _⟩
   case round=>
    obtain⟨m,ap,rfl,f⟩:=hrel;have L:=H.K f;have K:β w wr:=cj I f;by_cases nf:m<k
    ·have E:m<rs.length:=z;obtain⟨ae,af,C⟩:=jH.out m E;have g:=C.K A K;have k6:=g.bo;have hL:=g.c1;have hx:=g.c2;have f3:=g.c3;have ah:=G (fun W (x:β w W)=>atE rs[m] rs[k] ae D af ac W (C.args.K x) (N.out.K x) (Y.out m E) Z (io.out m k E y nf));have cI:=aK 4 L.2.2.1;obtain⟨cQ,aX,ba,bx⟩:=Gf L.2.2.2;have mP:(0:Int)<=(m:Int):=z;have lF:(m:Int)<rs.length:=z;have oS:(m:Int)<=1000:=z;clear g C
     go_wp2;go_still_tail 6,av
     go_wp2_with (go_at_call 181;refine(ah.out _ K.drew).mono ?_;rintro e bn ⟨rfl,q⟩);all_goals(
      go_roundw
      case rel=>first|exact⟨m+1,z,bG,(f.drew).trans (q.mono f.size)⟩|((repeat apply Exists.intro);refine⟨?_,rfl⟩;exact⟨m+1,z,bG,(f.drew).trans (q.mono f.size)⟩)
      case measure=>simp[RowKit.intOf];omega)
    ·go_wp2;all_goals(go_ret;exact⟨rfl,K⟩)
def oC(base:Nat)(l:List (ByteArray×Nat))(k:Nat)(v:Value)(w:World):Prop:=w.ownsRow base 9 1 v k ((l.take k).map fun c=>.string c.1)
variable{l:List (ByteArray×Nat)}{k:Nat}{v:Value}
theorem oC.K{base:Nat}{w':World}(h:oC base l k v w)(A:β w w'):oC base l k v w':=AY h A
theorem oC.k7{base:Nat}(h:oC base l k v w):∀g,v.ownBlock=some g->base<=g:=fun g an=>by
 rcases x1 g base with a|a
 ·exact absurd an.symm (y0 h a)
 ·exact a
theorem oC.gX{base:Nat}(h:oC base l k v w):∃a c,v=.slice a k c:=by
 rcases h.2 with⟨e,ae⟩|⟨g,cap,b,e,_⟩
 exact⟨_,_,by rw[e,ae]⟩;exact⟨_,_,e⟩
theorem oC.xG{base:Nat}(a:k<l)(h:w.ownsRow base 9 1 v (k+1) (((l.take k).map fun c=>.string c.1)++[.string l[k].1])):oC base l (k+1) v w:=by
 unfold oC;rw[p9 a,xY];exact h
theorem oC.arX{base:Nat}{c:Nat}(h:oC base l l (.slice a l c) w):0<l.length->∃b o,a=some ⟨b,o,none⟩/\b<w/\∀i,i<l.length->w.cell? ⟨b,o+i,none⟩=some (.string (l.getD i (⟨#[]⟩,0)).1):=fun ae=>by
 unfold oC at h
 rw[tk]at h
 rcases h.2 with⟨_,dC⟩|⟨g,cap,e,aj,j,d,k,m,n,f⟩
 ·omega
 ·cases aj
  refine⟨g,0,rfl,c8 d,fun i hi=>?_⟩
  have:(e.toList.take (l.length*1))[i]? =some (Value.string (l.getD i (⟨#[]⟩,0)).1):=by
   rw[f,n4,jU hi,p8,jU hi];rfl
  rw[oZ,co z]at this
  rw[gP]
  exact ly d (by simpa using this)
theorem adv(S:cU)(a:qZ S)(ec:FY S)(w:World)(M:Nat->Nat)(fl:∀i,1<=M i/\M i<=5)(rs:List bA)(y:rs.Sublist S.df)(ca f ra:Option Addr)(cc l rc:Nat)(eA:jd w ca S.bw)(P:sA w f S.aD M)(du:wV w ra rs): χ 40 #[.agg #[.string S.nm,.int .i64 S.db,.slice ca S.bw.length cc,.slice f S.aD.length l,.slice ra rs.length rc,.int .i64 S.al]] w fun e w'=>e=.returned (.bool true):=by
 obtain⟨hk,b5,eK,g0,R,n5,rm,ag⟩:=ec;have b1:=G b5;have c9:=G eK;have wT:=G g0;have X:=G R;have XP:=G n5;have Y:=fun r (ab:r∈rs)=>rm r (y.subset ab);have af:=Rs.1 (ag.sublist y);have R6:=G (fun W (d:β w W) (q:Nat) (Z:q<rs.length)=>atD (.string S.nm) (.int .i64 S.db) (.slice ca S.bw.length cc) (.int .i64 S.al) f ra S.aD M rs l rc q W (P.K d) (fun c ah=>(R c ah).1) a.aD (du.K d) (cO y.length_le a.df) Y af Z);have aJ:=G a.axT;have dT:=G a.lJ;have aD:=a.db;have aM:=a.bw;have ub:=a.xI;have r4:=a.aD;have vE:rs.length<=40:=cO y.length_le a.df;have e2:=a.al;have aw:=G fl;have jH:=G (fun W (d:β w W)=>eA.K d);have XJ:=G (fun W (d:β w W)=>P.K d);clear hk b5 eK g0 R n5 rm ag Y af a eA P du fl y;have dW:decide ((S.db:Int)<0)=false:=ao;have ek:decide (1000000000<(S.db:Int))=false:=bz;have v3:decide (8<(S.bw.length:Int))=false:=bz;have v4:decide ((S.aD.length:Int)<1)=false:=bz;have v5:decide (12<(S.aD.length:Int))=false:=bz;have g1:decide (40<(rs.length:Int))=false:=bz;have nr:decide ((S.al:Int)<0)=false:=ao;have ms:decide ((S.aD.length:Int)<=(S.al:Int))=false:=bz;have v9:decide (S.aD.length<=S.al)=false:=bz;have iM:∀di,β w (w.alloc di):=fun di=>(br _ _).alloc (aZ _) _;obtain⟨ei,kV,nR,iY,kY⟩:=im aCP;go_enter func40,ntmps40
 go_wp2_with (go_at_call 103;refine(PR _ _ b1.out).mono ?_;rintro e w' ⟨rfl,rfl⟩);have aL:Bv (w.alloc (.cells #[.string S.nm,.int .i64 S.db,.slice ca S.bw.length cc,.slice f S.aD.length l,.slice ra rs.length rc,.int .i64 S.al] 29)) w.heap.size #[.string S.nm,.int .i64 S.db,.slice ca S.bw.length cc,.slice f S.aD.length l,.slice ra rs.length rc,.int .i64 S.al]:=⟨ao,cW w _⟩;have dh:=iM (.cells #[.string S.nm,.int .i64 S.db,.slice ca S.bw.length cc,.slice f S.aD.length l,.slice ra rs.length rc,.int .i64 S.al] 29);have hz:=i_ w (.cells #[.string S.nm,.int .i64 S.db,.slice ca S.bw.length cc,.slice f S.aD.length l,.slice ra rs.length rc,.int .i64 S.al] 29);generalize w.alloc (.cells #[.string S.nm,.int .i64 S.db,.slice ca S.bw.length cc,.slice f S.aD.length l,.slice ra rs.length rc,.int .i64 S.al] 29)=am at*;try rw[v9]
 go_loopw [4,5] (fun v i wr=>∃k:Nat,k<=S.bw.length/\i=.int .i64 k/\oC (w.heap.size+1) S.bw k v wr/\Below (w.heap.size+1) am wr) (fun _ i _=>S.bw.length-(RowKit.intOf i).toNat);case atStart=>exact⟨0,dx _,rfl,mT _ _ _ _,br _ _⟩
 case round=>
  obtain⟨k,az,rfl,B,N⟩:=hrel;have C:=aL.K z N;have k3:β w wr:=dh.trans (N.mono z);have aF:=aK 2 C.2;have Ci:=C.1;by_cases au:k<S.bw.length
  ·obtain⟨dr,fL,rfl,k9,x⟩:=jd.cell (jH.out _ k3);obtain⟨k6,hL⟩:=x k au;obtain⟨_,Q,T⟩:=c9.out _ (fP au);have mP:(0:Int)<=(k:Int):=z;have lF:(k:Int)<S.bw.length:=z;have oS:(k:Int)<=1000:=z;clear x
   go_wp2_with (first
    |(go_at_call 104;refine(afO _ _ Q T).mono ?_;rintro e s ⟨⟨an,rfl,iX⟩,bD⟩;obtain⟨aaD,OQ⟩:=aig bD;have gT:=B.K bD)
    |(at_builtin;refine ln _ rfl _ _ 39 rfl (w.heap.size+1) 9 ei (.string ⟨#[]⟩) 1 16 It kV nR iY kY rfl ak _ _ _ rfl (ae6 gT _) ⟨s.heap.size,0,none⟩ 1 1 [.string S.bw[k].1] rfl rfl ?c1 ?c2 ?c3 ?c4 ?c5 ?_))
   case c1=>exact apg s _
   case c2=>simp[Value.oneCell']
   case c3=>unfold maxLen;omega
   case c4=>omega
   case c5=>have:=bD.size;simp;omega
   intro O u gi fT _;have fy:Below (w.heap.size+1) am u:=((N.trans (bD.mono z)).alloc (by have:=bD.size;omega) _).grown fT (by have:=bD.size;simp;omega) B.k7;have lr:oC (w.heap.size+1) S.bw (k+1) O u:=oC.xG au (by rw[Wu];exact gi);clear gi fT gT aaD OQ bD
   go_wp2;go_roundw;case rel=>first|exact⟨k+1,z,bG,lr,fy⟩|((repeat apply Exists.intro);refine⟨?_,rfl⟩;exact⟨k+1,z,bG,lr,fy⟩)
   case measure=>simp[RowKit.intOf];omega
  ·obtain⟨g,rfl⟩:∃g:World,g=wr:=⟨_,rfl⟩;obtain rfl:k=S.bw.length:=z;obtain⟨a4,c4,rfl⟩:=B.gX;have al:=C.1
   go_wp2;go_loopw [6,7] (fun v i cN=>∃m:Nat,m<=S.aD.length/\i=.int .i64 m/\oC g.heap.size S.aD m v cN/\β g cN) (fun _ i _=>S.aD.length-(RowKit.intOf i).toNat);case atStart=>exact⟨0,dx _,rfl,mT _ _ _ _,br _ _⟩
   case round=>
    obtain⟨m,ap,rfl,A,n⟩:=hrel;have E:=C.K al n;have zF:β w wr:=cj k3 n;have bq:=aK 3 E.2;have aE:=E.1;by_cases L:m<S.aD.length
    ·obtain⟨bL,eG,rfl,ke,x⟩:=XJ.out _ zF;obtain⟨k6,hL,hx⟩:=x m L;obtain⟨_,Q,T⟩:=X.out _ (fP L);have aG:=aw.out m;have mP:(0:Int)<=(m:Int):=z;have lF:(m:Int)<S.aD.length:=z;have oS:(m:Int)<=1000:=z;have aH:¬(M m:Int)<1:=z;have aI:¬9<(M m:Int):=z;clear x
     go_wp2_with (first
      |(go_at_call 104;refine(afO _ _ Q T).mono ?_;rintro e s ⟨⟨an,rfl,iX⟩,bD⟩;obtain⟨aaD,OQ⟩:=aig bD;have gT:=A.K bD)
      |(at_builtin;refine ln _ rfl _ _ 39 rfl g.heap.size 9 ei (.string ⟨#[]⟩) 1 16 It kV nR iY kY rfl ak _ _ _ rfl (ae6 gT _) ⟨s.heap.size,0,none⟩ 1 1 [.string S.aD[m].1] rfl rfl ?c1 ?c2 ?c3 ?c4 ?c5 ?_))
     case c1=>exact apg s _
     case c2=>simp[Value.oneCell']
     case c3=>unfold maxLen;omega
     case c4=>omega
     case c5=>have:=bD.size;have:=n.size;simp;omega
     intro O u gi fT _;have fy:β g u:=((cj n bD).alloc (by have:=bD.size;have:=n.size;omega) _).grown fT (by have:=bD.size;have:=n.size;simp;omega) A.k7;have lr:oC g.heap.size S.aD (m+1) O u:=oC.xG L (by rw[Wu];exact gi);exact aEe
    ·obtain⟨wp,rfl⟩:∃wp:World,wp=wr:=⟨_,rfl⟩;obtain rfl:m=S.aD.length:=z;obtain⟨eT,fe,rfl⟩:=A.gX;have ax:=G (fun W (d:β wp W)=>asm a4 S.bw.length c4 W (fun i=>(S.bw.getD i (⟨#[]⟩,0)).1) z (oC.arX ((B.K n).K d)) (fun i hi=>by
      rw[p8,jU hi];exact(c9.out _ (fP hi)).1) (fun i j H K=>by
      rw[p8,jU z,p8,jU K];exact wT.out i j _ _ H))
     have ay:=G (fun W (d:β wp W)=>asm eT S.aD.length fe W (fun i=>(S.aD.getD i (⟨#[]⟩,0)).1) z (oC.arX (A.K d)) (fun i hi=>by
      rw[p8,jU hi];exact(X.out _ (fP hi)).1) (fun i j H K=>by
      rw[p8,jU z,p8,jU K];exact XP.out i j _ _ H))
     go_wp2_with (first
      |(have _:=U;go_at_call 105;((with_reducible refine(ay.out _ (qV.K U _)).mono ?_);rintro e w' ⟨rfl,F,rfl⟩))
      |(go_at_call 105;((with_reducible refine(ax.out _ (br _ _)).mono ?_);rintro e w' ⟨rfl,o,rfl⟩;have U:qV wp (wp.drewN o):=⟨o,rfl⟩)))
     have I:Bv (wp.drewN (o+F)) w.heap.size #[.string S.nm,.int .i64 S.db,.slice ca S.bw.length cc,.slice f S.aD.length l,.slice ra rs.length rc,.int .i64 S.al]:=E;have ae:β w (wp.drewN (o+F)):=zF.trans (qV.K ⟨_,rfl⟩ _);generalize wp.drewN (o+F)=V at I ae⊢;go_loopw [10] (fun i aq=>∃q:Nat,q<=rs.length/\i=.int .i64 q/\β V aq) (fun i _=>rs.length-(RowKit.intOf i).toNat);case atStart=>exact⟨0,dx _,rfl,br _ _⟩
     case round=>
      obtain⟨q,Z,rfl,D⟩:=hrel;have av:=I.K I.1 D;have ad:β w wr:=cj ae D;obtain⟨dC,aj,aA,aB,cI,hr⟩:=f_ av.2;by_cases ai:q<rs.length
      ·have oS:(q:Int)<=1000:=z
       go_wp2_with (go_at_call 106;refine(R6.out _ ad q ai).mono ?_;rintro e w7 ⟨rfl,iu⟩);go_roundw;case rel=>first|exact⟨q+1,z,bG,cj D iu⟩|((repeat apply Exists.intro);refine⟨?_,rfl⟩;exact⟨q+1,z,bG,cj D iu⟩)
       case measure=>simp[RowKit.intOf];omega
      ·go_wp2;all_goals(go_ret;exact⟨rfl,ad⟩)
end Go.bh.N
namespace Go.bS
open Go Go.Proofs.Tryz Go.Proofs Go.RowKit Go.da Go.bh
section
variable {S:cU} {M:Nat->Nat} {rs:List bA} {ca bd:Option Addr} {cc aW rb aE rc:Nat} {w:World}
structure Dt (rs:List bA) (s:Nat) (p:List Int):Prop where
 gm:gm rs [s] p=some p.length
 ok:∀x∈p,0<=x/\x<(rs.length:Int)
theorem Dt.first{s:Nat}{p:List Int}(h:Dt rs s p):∃(k:Nat) (a:k<rs.length) (q:List Int),p=(k:Int)::q/\rs[k].h=s/\Go.bh.gm rs rs[k].args q=some q.length:=by
 obtain⟨x,q,rfl,d⟩:=Gp h.gm;rcases d with⟨rfl,_⟩|⟨k,a,rfl,e,m,b,c⟩
 ·exact absurd (h.ok _ (qP)).1 ak
 ·refine⟨k,a,q,rfl,e,?_⟩;rw[sf]at c;simp at b;rw[c,b]
attribute [local irreducible] wpStill in
theorem ar'(h:pB S M rs ca bd cc aW rb aE rc w)(aG:Option Addr)(A s:Nat)(p:List Int)(ag:lu w aG p)(j:p.length<=100)(n:Dt rs s p): χ 289 #[.agg (eg S rs ca bd cc aW rb aE rc),.slice aG p A] w fun e w'=>e=.returned (.tuple #[s,.bool true]):=by
 have N:=G fun W (m:β w W)=>Go.bh.N.adv S h.ok h.UY W M h.yS rs h.sub ca bd (some ⟨rb,aE,none⟩) cc aW rc (h.c.K m) (h.y.K m) (h.r.K m);have H:=G (aea (.string S.nm) S.db (.slice ca S.bw cc) (.slice bd S.aD aW) S.al rs rb aE rc aG A p w h.r ag h.iD h.rq j p 0 s p);have l:=hX.ee w (eg S rs ca bd cc aW rb aE rc);obtain⟨k,T,q,rfl,r,Z⟩:=n.first;have O:=G n.gm;obtain⟨pb,po,rfl,L,P⟩:=ag ao;have o:=P 0 ao;rw[Bp,h7]at o;have Q:=h.r;obtain⟨ur,Lb,cg,I,K⟩:=Q;cases cg;obtain⟨aR,ac,y⟩:=K k T;have fo:=y.bo;rw[r]at fo;rw[l7]at j;have ad:q.length<=99:=z;have gU:0<(q.length:Int)+1:=z;have z0:((q.length:Int)+1==0)=false:=bz;have kf:(0:Int)<=(k:Int):=z;have mn:(k:Int)<rs.length:=z;have vE:=h.rq;clear P Z h ag j K y r n;rw[l7]at*;go_enter func289,ntmps289;go_upto_region 2 with(go_at_call 40;refine(N.out _ l.b).mono ?_;rintro e a ⟨rfl,u⟩)
 have g:=l.K u;have aF:decide ((k:Int)<0)=false:=ao;have bq:decide ((rs.length:Int)<=(k:Int))=false:=bz;have cI:decide ((k:Int)<rs)=true:=bz;have hr:decide ((0:Int)<=(k:Int))=true:=ao;clear l u N;go_upto_region 4 with fail
 have a5:=aK 5 g.g;go_upto_region 5 with fail
 have d:=g.JK;have R:a.drew.cell? ⟨pb,po,none⟩=_:=(d.b.cell L).trans o;have U:a.drew.cell? ⟨rb,aE+k*4,none⟩=_:=(d.b.cell I).trans fo;refine uH av av ?_;change wpStill _ _ a.drew (fun a'=>Exit.then _ _ Exit.normal a' a.drew) _ _;clear g a5;generalize a.drew=c at*;obtain⟨D,x,B,C,F,E⟩:=f_ d.g;repeat still_step
 refine rB ?_
 go_wp2;have f:=d.JK;have aa:c.drew.cell? ⟨pb,po,none⟩=_:=(f.b.cell L).trans o;have ae:c.drew.cell? ⟨rb,aE+k*4,none⟩=_:=(f.b.cell I).trans fo;refine uH av av ?_;change wpStill _ _ c.drew (fun a'=>Exit.then _ _ Exit.normal a' c.drew) _ _;clear d R U D x B C F E;generalize c.drew=X at*;obtain⟨D,x,B,C,F,E⟩:=f_ f.g;repeat still_step
 refine rB ?_;have V:=G (H.out X (afm _ _) (by rw[LM];exact O.out) f.b);clear H O;have cy:(((0+(q.length+1):Nat):Int))=(q.length:Int)+1:=z
 go_wp2_with (go_at_call 195;refine(V.out).mono ?_;rintro e bn ⟨aO,Y⟩;rw[cy]at aO;subst aO);go_ret2
 exact⟨rfl,cj f.b Y⟩
end
theorem axp(w:World)(aG:Option Addr)(f:Nat)(p:List Int)(ag:lu w aG p)(j:p.length<=100)(ae:∀x∈p,0<=x): χ 290 #[.slice aG p f] w fun e w'=>e=.returned (.bool true):=by
 have g:=G fun W (d:β w W)=>ag.K d;have c:=G ae;clear ag ae;go_enter func290,ntmps290
 go_wp2;go_loopw [3] (fun i wr=>∃k:Nat,k<=p.length/\i=.int .i64 k/\β w wr) (fun i _=>p.length-(RowKit.intOf i).toNat);case atStart=>exact⟨0,dx _,rfl,br _ _⟩
 case round=>
  obtain⟨k,l,rfl,a⟩:=hrel;by_cases au:k<p
  ·obtain⟨pb,po,rfl,r,b⟩:=g.out _ a z;have q:=b k au;have m:=c.out _ (fP au);have o:(0:Int)<=(k:Int):=z;have n:(k:Int)<p.length:=z;clear b;generalize p[k]=x at*;have dC:(x== -1)=false:=bz
   go_wp2;go_roundw;case rel=>first|exact⟨k+1,z,bG,a⟩|exact⟨k+1,z,z⟩|exact⟨k+1,z,z,a⟩|((repeat apply Exists.intro);refine⟨?_,rfl⟩;exact⟨k+1,z,bG,a⟩)
   case measure=>simp[RowKit.intOf];omega
  ·go_wp2;go_ret;exact⟨rfl,a⟩
end Go.bS
namespace Go.bh
open Go Go.Proofs.Tryz Go.Proofs Go.RowKit Go.da
def atF(e:Ending):Prop:=∃r:Bool,e=.returned (.bool r)
attribute [local irreducible] wpStill in
theorem aDO(aG l:Option Addr)(u C:Nat)(p q:List Int)(w:World)(ag:lu w aG p)(f:lu w l q)(K:p.length<=100)(O:q.length<=100): χ 288 #[.slice aG p u,.slice l q C] w fun e w'=>atF e:=by
 by_cases d:p.length=q.length
 ·have dC:((p.length:Int) !=(q.length:Int))=false:=by simp[d]
  have s:(q.length:Int)=p.length:=z;have E:=G (fun W (g:β w W)=>ag.K g);have I:=G (fun W (g:β w W)=>f.K g);have c:=G d;clear ag f d s;go_enter func288,ntmps288
  go_wp2;go_loopw [5] (fun v wr=>∃k:Nat,k<=p.length/\v=.int .i64 k/\β w wr) (fun v _=>p.length-(RowKit.intOf v).toNat);case atStart=>exact⟨0,dx _,rfl,br _ _⟩
  case round=>
   obtain⟨k,L,rfl,A⟩:=hrel;by_cases au:k<p
   ·have b:=A.drew;obtain⟨m,B,rfl,F,n⟩:=E.out _ b z;obtain⟨j,l',rfl,H,o⟩:=I.out _ b (by have:=c.out;omega);have ca:=n k au;have i:=o k (by have:=c.out;omega);have Q:(0:Int)<=(k:Int):=z;have D:(k:Int)<p.length:=z;have R:(k:Int)<q.length:=by have:=c.out;omega
    have T:m<wr.heap.size:=F;have M:j<wr.heap.size:=H;generalize t:p[k]=x at ca;generalize q[k]'(by have:=c.out;omega)=y at i;clear n o t
    go_wp2;refine uH av av ?_;change wpStill _ _ wr.drew (fun a'=>Exit.then _ _ Exit.normal a' wr.drew) _ _;generalize wr.drew=a at*;by_cases r:x=y
    ·subst r;have aj:(x !=x)=false:=ao;repeat still_step
     refine rB ?_
     go_wp2;go_roundw;case rel=>first|exact⟨k+1,z,bG,b⟩|((repeat apply Exists.intro);refine⟨?_,rfl⟩;exact⟨k+1,z,bG,b⟩)
     case measure=>simp[RowKit.intOf];omega
    ·have aj:(x !=y)=true:=by simpa using r
     repeat still_step
     refine rB ?_
     go_wp2;have J:=b.drew;have S:a.drew.cell? ⟨m,B+k,none⟩=_:=ca;have N:a.drew.cell? ⟨j,l'+k,none⟩=_:=i;refine uH av av ?_;change wpStill _ _ a.drew (fun a'=>Exit.then _ _ Exit.normal a' a.drew) _ _;clear ca i;generalize a.drew=P at*;repeat still_step
     refine rB ?_
     go_wp2;go_ret;exact⟨⟨_,rfl⟩,J⟩
   ·have D:¬(k:Int)<p.length:=z
    go_wp2;go_ret;exact⟨⟨_,rfl⟩,A⟩
 ·have dC:((p.length:Int) !=(q.length:Int))=true:=bz;clear ag f;go_enter func288,ntmps288
  go_wp2;go_ret;exact⟨⟨_,rfl⟩,br _ _⟩
def ya(w w':World):Prop:=∀(b:Nat) (arr:Array Value) (bb:Nat×Nat),w.heap[b]? =some (Obj.cells arr 3 bb)->w'.heap[b]? =some (Obj.cells arr 3 bb)
def pC(w:World)(a:Option Addr)(q:List Int):Prop:=0<q.length->∃b o arr bb,a=some ⟨b,o,none⟩/\w.heap[b]? =some (.cells arr 3 bb)/\∀i (hi:i<q.length),arr[o+i]? =some (.int .i64 q[i])
variable{w:World}{c:Option Addr}{q:List Int}
theorem pC.kC(h:pC w c q):lu w c q:=fun ae=>by
 obtain⟨b,o,arr,bb,e,a,d⟩:=h ae
 exact⟨b,o,e,c8 a,fun i hi=>by simp only[World.cell?,a];exact d i hi⟩
variable{w':World}
theorem pC.kept{a:Option Addr}(h:pC w a q)(c:ya w w'):pC w' a q:=fun ae=>by
 obtain⟨b,o,arr,bb,e,f,d⟩:=h ae
 exact⟨b,o,arr,bb,e,c _ _ _ f,d⟩
theorem pC.K(h:pC w c q)(A:β w w'):pC w' c q:=
 h.kept fun b arr bb a=>by rw[A.block b (c8 a)];exact a
def mz(T:List Int->Prop)(w:World)(v:Value):Prop:=∃a b q,v=.slice a (q:List Int).length b/\pC w a q/\T q
variable{v:Value}
theorem mz.K{T:List Int->Prop}(h:mz T w v)(A:β w w'):mz T w' v:=by
 obtain⟨a,b,q,e,H,I⟩:=h;exact⟨a,b,q,e,H.K A,I⟩
def yh(T:List Int->Prop)(w:World)(va:Option Addr)(n:Nat):Prop:=0<n->∃b o,va=some ⟨b,o,none⟩/\b<w.heap.size/\∀i,i<n->∃v,w.cell? ⟨b,o+i,none⟩=some v/\mz T w v
variable{n:Nat}
theorem yh.K{T:List Int->Prop}{va:Option Addr}(h:yh T w va n)(A:β w w'):yh T w' va n:=fun ae=>by
 obtain⟨b,o,e,a,c⟩:=h ae
 refine⟨b,o,e,cS A a,fun i hi=>?_⟩
 obtain⟨v,H,I⟩:=c i hi
 exact⟨v,by rw[A.cell a];exact H,I.K A⟩
theorem Pr:(prog.info? 22).map (fun i=>(i.zero,i.size,i.bytes))=some (some (.slice none 0 0),1,24):=av
def avy(T:List Int->Prop)(n:Nat)(e:Ending)(w':World):Prop:=∃a rc,e=.returned (.slice a n rc)/\n<=rc/\yh T w' a n
theorem aGX{T:List Int->Prop}{base:Nat}{a:List Value}(h:w.ownsRow base 22 1 v n a)(o:0<n)(l:a.length=n)(d:∀y∈a,mz T w y):∃c rc,v=.slice c n rc/\n<=rc/\yh T w c n:=by
 have ae:v≠ .slice none 0 0:=fun e=>by
  rcases h.2 with⟨_,q⟩|⟨g,cap,j,aj,_⟩
  omega;rw[aj]at e;cases e
 obtain⟨g,cap,j,aj,m,b,f,r,k⟩:=ul h ae;refine⟨_,_,aj,f,fun _=>⟨g,0,rfl,c8 b,fun i hi=>?_⟩⟩;have:=k i z;rw[jU z]at this;exact⟨_,by rw[gP];exact ly b this,d _ (fP _)⟩
end Go.bh
namespace Go.bh
open Go.da (bA)
def kG(c:Nat->Nat->List (List Int))(Z:Nat->Nat):List Int->List Nat->Nat->List (List Int)
 |b,[],m=>if m=0 then [b]else []
 |b,a::d,m=>(List.range' 1 (min (m-d.length) (Z a-1))).flatMap fun n=>(c a n).flatMap fun q=>kG c Z (b++q) d (m-n)
theorem anu{e d:Nat->Nat->List (List Int)}{Z:Nat->Nat}:∀(c:List Nat) (b:List Int) (m:Nat),(∀a∈c,∀i,i<=m->i<Z a->e a i=d a i)->kG e Z b c m=kG d Z b c m
 |[],b,m,h=>rfl
 |a::c,b,m,h=>by
  unfold kG
  simp only[List.flatMap_def]
  congr 1
  apply as4
  intro n j
  obtain⟨H,I⟩:=asI.1 j
  rw[h a (qP ..) n z z]
  congr 1
  apply as4
  intro q _
  exact anu c _ _ fun a' g i hi f=>h a' (jD _ g) i z f
def X3(rs:List bA)(M:Nat->Nat)(a:Nat->Nat->List (List Int)):Prop:=∀s n,∀p∈a s n,pF rs M s n p
theorem anv{rs:List bA}{M:Nat->Nat}{e:Nat->Nat->List (List Int)}{Z:Nat->Nat}(f:X3 rs M e):∀(c:List Nat) (b:List Int) (m:Nat),∀x∈kG e Z b c m,∃q,x=b++q/\q.length=m/\gm rs c q=some m/\u' rs M q
 |[],b,m,x,h=>by
  unfold kG at h
  split at h
  ·rename_i d
   simp at h
   exact⟨[],by simp[h],by simp[d],by rw[DE,d],u'.nil _ _⟩
  ·cases h
 |a::c,b,m,x,h=>by
  unfold kG at h
  obtain⟨n,j,h⟩:=Ro.1 h
  obtain⟨q,i,h⟩:=Ro.1 h
  obtain⟨H,I⟩:=asI.1 j
  obtain⟨g,rfl,bZ,cp,ix⟩:=anv f c _ _ x h
  have P:=f a n q i
  have k:n<=m:=z
  refine⟨q++g,by rw[Ix],by rw[ia,P.len,bZ];omega,?_,P.sub.Jp ix⟩
  rw[show a::c=[a]++c from rfl,NV,NW rs q _ _ g P.gm]
  simp only[C1]
  rw[←P.len,List.drop_left,cp]
  simp only[n6,cq]
  rw[P.len];omega
theorem aDW{c:Nat->Nat->List (List Int)}{Z:Nat->Nat}{b:List Int}{a:Nat}(h:c a 1≠[])(f:1<Z a):kG c Z b [a] 1≠[]:=by
 have e:min (1-([]:List Nat).length) (Z a-1)=1:=bz;unfold kG;rw[e];cases d:c a 1 with
 |nil=>exact absurd d h
 |cons q l=>simp[d,kG]
def So(b:Nat)(a:Nat->Nat->List (List Int)):Prop:=∀s n,(a s n).length<=b^n
theorem ZD{b d:Type}(f:b->List d)(c:Nat):∀l:List b,(∀a∈l,(f a).length<=c)->(l.flatMap f).length<=l.length*c
 |[],_=>by simp
 |a::l,h=>by
  rw[Bo,ia,l7,x0]
  have:=ZD f c l fun a' e=>h a' (jD _ e)
  have:=h a (qP ..)
  omega
theorem acb{d:Nat}{e:Nat->Nat->List (List Int)}{Z:Nat->Nat}(j:1<=d)(g:So d e):∀(f:List Nat) (b:List Int) (m:Nat),(kG e Z b f m).length<=2^m*d^m
 |[],b,m=>by
  unfold kG
  split
  ·rename_i h;subst h;simp
  ·simp
 |a::f,b,m=>by
  unfold kG
  have step:∀c,c<=m->((List.range' 1 c).flatMap fun n=>(e a n).flatMap fun q=>kG e Z (b++q) f (m-n)).length<=(2^m-2^(m-c))*d^m:=by
   intro c
   induction c with
   |zero=>intro _;simp
   |succ c l=>
    intro o
    rw[aeN,Iz,ia,Bo,Rm,sf]
    have H:=l z
    have I:=ZD (fun q=>kG e Z (b++q) f (m-(1+c))) (2^(m-(1+c))*d^(m-(1+c))) (e a (1+c)) fun q _=>acb j g f _ _
    have i:=g a (1+c)
    have r:(e a (1+c)).length*(2^(m-(1+c))*d^(m-(1+c)))<=2^(m-(1+c))*d^m:=by
     calc (e a (1+c)).length*(2^(m-(1+c))*d^(m-(1+c)))<=d^(1+c)*(2^(m-(1+c))*d^(m-(1+c))):=qR _ i
      _=2^(m-(1+c))*(d^(1+c)*d^(m-(1+c))):=by rw[←Fx,II (d^(1+c)),Fx]
      _=2^(m-(1+c))*d^m:=by rw[←afl,show 1+c+(m-(1+c))=m by omega]
    have s:2^(m-c)=2^(m-(1+c))+2^(m-(1+c)):=by rw[show m-c=(m-(1+c))+1 by omega,zw];omega
    have t:2^(m-c)<=2^m:=kO z z
    have k:2^m-2^(m-(c+1))=(2^m-2^(m-c))+2^(m-(1+c)):=by
     rw[show m-(c+1)=m-(1+c) by omega]
     generalize 2^(m-(1+c))=x at*
     generalize 2^(m-c)=y at*
     generalize 2^m=af at*
     omega
    rw[k,x0]
    omega
  have:=step (min (m-f.length) (Z a-1)) z
  refine cO this ?_
  exact qR _ (afm _ _)
def xw(a:Nat->Nat->List (List Int))(Z need:Nat->Nat)(n s:Nat)(e:bA×Nat):List (List Int):=
 if e.1.h=s/\n+1<Z s/\n+1<=need s then kG a Z [(e.2:Int)] e.1.args n else []
def fY(rs:List bA)(Z need:Nat->Nat):Nat->Nat->Nat->List (List Int)
 |0,_,_=>[]
 |n+1,s,m=>if m=n+1 then rs.zipIdx.flatMap (xw (fY rs Z need n) Z need n s)else fY rs Z need n s m
def part(rs:List bA)(Z need:Nat->Nat)(n k:Nat)(s m:Nat):List (List Int):=
 if m=n+1 then(rs.zipIdx.take k).flatMap (xw (fY rs Z need n) Z need n s)else fY rs Z need n s m
theorem asb(rs:List bA)(Z need:Nat->Nat):∀n s m,n<m->fY rs Z need n s m=[]
 |0,s,m,h=>rfl
 |n+1,s,m,h=>by
  unfold fY
  rw[bs z,asb rs Z need n s m z]
theorem aGF(rs:List bA)(Z need:Nat->Nat)(n s m:Nat):part rs Z need n 0 s m=fY rs Z need n s m:=by
 unfold part;split;rename_i h;rw[asb _ _ _ _ _ _ z];simp;rfl
theorem aGC(rs:List bA)(Z need:Nat->Nat)(n s m:Nat):part rs Z need n rs s m=fY rs Z need (n+1) s m:=by
 have e:rs.zipIdx.take rs=rs.zipIdx:=uK ao;unfold part;rw[e];rfl
theorem ap8(rs:List bA)(Z need:Nat->Nat)(n k s m:Nat)(a:k<rs):part rs Z need n (k+1) s m=part rs Z need n k s m++(if m=n+1 then xw (fY rs Z need n) Z need n s (rs[k],k)else []):=by
 unfold part;split
 ·have b:k<rs.zipIdx.length:=by simpa using a
  rw[p9 b,Iz,Bo,Rm,sf,List.getElem_zipIdx,gP]
 rw[sf]
theorem aDX(rs:List bA)(Z need:Nat->Nat)(n k:Nat)(b:List Int)(c:List Nat):kG (part rs Z need n k) Z b c n=kG (fY rs Z need n) Z b c n:=by
 apply anu;intro a _ i hi _;unfold part;rw[bs z]
theorem QH{rs:List bA}{M Z need:Nat->Nat}(b:∀s,Z s<=M s+1):∀n,X3 rs M (fY rs Z need n)
 |0=>fun s m p h=>by cases h
 |n+1=>fun s m p h=>by
  unfold fY at h
  split at h
  ·rename_i g
   subst g
   obtain⟨⟨r,k⟩,f,h⟩:=Ro.1 h
   have d:=Ww.1 f
   obtain⟨a,e⟩:=k2.1 d
   simp only at e a
   subst e
   unfold xw at h
   split at h
   ·rename_i c
    obtain⟨H,I,i⟩:=c
    obtain⟨q,rfl,bZ,cp,ix⟩:=anv (QH b n) _ _ _ p h
    have j:=b s
    simp only at H
    refine⟨bz,?_,u'.cons a ix cp (by rw[H];omega),z⟩
    show gm rs [s] ((k:Int)::q)=_
    rw[Gn rs s [] q k a H,sf,cp]
    rfl
   ·cases h
  ·exact QH b n s m p h
theorem QG{rs:List bA}{Z need:Nat->Nat}(a:rs.length<=9):∀n,n<=5->So 144 (fY rs Z need n)
 |0,_=>fun s m=>by simp[fY]
 |n+1,c=>fun s m=>by
  unfold fY
  split
  ·rename_i b
   subst b
   have H:=ZD (xw (fY rs Z need n) Z need n s) (2^n*144^n) rs.zipIdx fun e _=>by
    unfold xw
    split
    ·exact acb z (QG a n z) _ _ _
    ·simp
   rw[List.length_zipIdx]at H
   refine cO H ?_
   have I:(2:Nat)^n<=2^4:=kO z z
   calc rs.length*(2^n*144^n)<=9*(2^4*144^n):=zv a (qR _ I)
    _=144^(n+1):=by rw[zw];omega
  ·exact QG a n z s m
variable{Z need:Nat->Nat}
theorem ap7{rs:List bA}(a:rs.length<=9)(n k:Nat)(c:n<5):So 144 (part rs Z need n k):=fun s m=>by
 unfold part
 split
 ·rename_i b
  subst b
  have H:=QG (Z:=Z) (need:=need) a (n+1) z s (n+1)
  unfold fY at H
  rw[co rfl]at H
  refine cO ?_ H
  have e:rs.zipIdx=rs.zipIdx.take k++rs.zipIdx.drop k:=(CZ ..).symm
  conv=>rhs;rw[e]
  rw[Iz,ia]
  omega
 ·exact QG a n z s m
theorem asc{rs:List bA}{Z need:Nat->Nat}{s k:Nat}(a:k<rs)(b:rs[k].h=s)(aH:rs[k].args=[])(c:1<Z s)(f:1<=need s)(n:Nat)(H:1<=n):fY rs Z need n s 1≠[]:=by
 induction n with
 |zero=>omega
 |succ n i=>
  unfold fY;by_cases e:(1:Nat)=n+1;rw[co e];obtain rfl:n=0:=z;intro g;have d:(rs[k],k)∈rs.zipIdx:=Ww.2 (by simp[a]);have:=asZ.1 g _ d;unfold xw at this;rw[co ⟨b,c,f⟩,aH]at this;simp[kG]at this;rw[bs e];exact i z
theorem aJW{rs:List bA}{s a k j:Nat}(d:k<rs)(f:rs[k].h=s)(aH:rs[k].args=[a])(l:j<rs)(m:rs[j].h=a)(c:rs[j].args=[])(g:2<Z s)(o:2<=need s)(b:1<Z a)(i:1<=need a):fY rs Z need 2 s 2≠[]:=by
 have e:=asc (Z:=Z) (need:=need) l m c b i 1 z;show(if 2=1+1 then rs.zipIdx.flatMap (xw (fY rs Z need 1) Z need 1 s)else fY rs Z need 1 s 2)≠[];rw[co rfl];intro q;have n:(rs[k],k)∈rs.zipIdx:=Ww.2 (by simp[d]);have:=asZ.1 q _ n;unfold xw at this;rw[co ⟨f,g,o⟩,aH]at this;exact aDW e b this
end Go.bh
namespace Go.bh
open Go.da
def s9(rs:List bA)(s:Nat):Bool:=rs.any fun r=>Nat.beq r.h s&&r.args.isEmpty
def K0(rs:List bA)(al:Nat):Bool:=rs.any fun r=>Nat.beq r.h al&&(match r.args with|[a]=>s9 rs a|_=>false)
def unary(df:List bA)(al s:Nat):Bool:=df.any fun r=>Nat.beq r.h al&&(match r.args with|[a]=>Nat.beq a s|_=>false)
def rP(df rs:List bA)(al s i:Nat):Bool:=
 bif Nat.beq s al then(bif Nat.beq i 1 then !s9 rs al else !(s9 rs al||K0 rs al))else unary df al s&& !s9 rs s
def B0(t:List (List Nat))(df rs:List bA)(al a:Nat):List (List Nat):=
 (List.range a).map fun s=>(List.range 6).map fun i=>bif rP df rs al s i then 0 else ou t s i
def Lg(t:List (List Nat))(df:List bA)(al b:Nat):Bool:=
 df.all (fun r=>Nat.blt r.h b&&(bif Nat.beq r.h al then(match r.args with|[]=>true|[a]=> !(Nat.beq a al)|l=>l.contains al)else(bif unary df al r.h then(r.args.isEmpty||r.args.contains r.h)else true)))&&
 Nat.blt al b&&t.all (fun l=>Nat.beq (l.getD 0 0) 0)
variable{a:Nat}
theorem PS{b:Nat}(h:a≠b):Nat.beq a b=false:=by
 cases e:Nat.beq a b;rfl;exact absurd (gx e) h
variable{s:Nat}
theorem UB{rs:List bA}(h:s9 rs s=true):∃(k:Nat) (a:k<rs),rs[k].h=s/\rs[k].args=[]:=by
 obtain⟨r,b,H⟩:=LL.1 h;obtain⟨k,a,rfl⟩:=Wt b;simp only[dQ]at H;exact⟨k,a,gx H.1,List.isEmpty_iff.1 H.2⟩
theorem ab7{rs:List bA}(h:s9 rs s=false){r:bA}(b:r∈rs)(a:r.h=s):r.args≠[]:=fun e=>by
 have:s9 rs s=true:=LL.2 ⟨r,b,by simp[a,e]⟩
 rw[h]at this;cases this
theorem SO(t:List (List Nat))(df rs:List bA)(al a s i:Nat)(b:s<a)(hi:i<6):ou (B0 t df rs al a) s i=bif rP df rs al s i then 0 else ou t s i:=by
 conv=>lhs;unfold ou
 unfold B0;rw[p8,p8,n4,afd b];simp only[n6,LY];rw[n4,afd hi];rfl
theorem SP(t:List (List Nat))(df rs:List bA)(al a s i:Nat)(h:¬(s<a/\i<6)):ou (B0 t df rs al a) s i=0:=by
 unfold ou B0;rw[p8,p8,n4];by_cases b:s<a;rw[afd b];simp only[n6,LY];rw[n4,uI (by rw[afe];omega)];rfl;rw[uI (l:=List.range a) (by rw[afe];omega)];rfl
theorem ai4(t:List (List Nat))(df rs:List bA)(al a s i:Nat):ou (B0 t df rs al a) s i<=ou t s i:=by
 by_cases h:s<a/\i<6;rw[SO t df rs al a s i h.1 h.2];cases rP df rs al s i;exact aZ _;exact dx _;rw[SP _ _ _ _ _ _ _ h];exact dx _
theorem aiU{bI c:Nat->Nat->Nat}(b:∀s i,bI s i<=c s i):∀(l:List Nat) {W W':Nat->Nat},(∀i,i<10->W i<=W' i)->∀i,i<10->pc bI l W i<=pc c l W' i
 |[],W,W',h=>h
 |a::l,W,W',h=>aiU b l fun i _=>QF h (fun i _=>b a i) (aZ _) 10 (aZ _)
theorem aps{bI b:Nat->Nat->Nat}(d:∀s i,bI s i<=b s i):∀(l:List Nat) {W W':Nat->Nat},(∀i,i<10->W i<=W' i)->Hn b l W'->Hn bI l W
 |[],W,W',h,n=>fun i hi=>p_ (h i hi) (n i hi)
 |a::l,W,W',h,n=>by
  have c:∀i,i<10->k1 W (bI a) 6 i 10<=k1 W' (b a) 6 i 10:=fun i _=>QF h (fun i _=>d a i) (aZ _) 10 (aZ _)
  exact⟨fun i hi=>p_ (h i hi) (n.1 i hi),fun i hi=>p_ (c i hi) (n.2.1 i hi),aps d l c n.2.2⟩
theorem ar4{bI b:Nat->Nat->Nat}(a:∀s i,bI s i<=b s i)(s i:Nat)(hi:i<10):∀l:List bA,qJ bI s i l<=qJ b s i l
 |[]=>aZ _
 |r::l=>by
  simp only[qJ]
  have H:=ar4 a s i hi l
  split
  ·have:=aiU a r.args (W:=lk) (W':=lk) (fun _ _=>aZ _) i hi
   omega
  ·omega
theorem ar3{W C:Nat->Nat}(h:∀i,C i=0)(n i:Nat):∀k,k1 W C n i k=0
 |0=>rfl
 |k+1=>by
  have:=ar3 (W:=W) h n i k
  simp only[k1,A8,this,h]
  split<;>simp
theorem ar2{W C:Nat->Nat}(h:∀i,i<10->W i=0)(n i:Nat):∀k,k<=10->k1 W C n i k=0
 |0,_=>rfl
 |k+1,a=>by
  have:=ar2 (C:=C) h n i k z
  simp only[k1,A8,this,h k z]
  split<;>simp
theorem aiX{bI:Nat->Nat->Nat}:∀(l:List Nat) {W:Nat->Nat},(∀i,i<10->W i=0)->∀i,i<10->pc bI l W i=0
 |[],W,h=>h
 |a::l,W,h=>aiX l fun i _=>ar2 h 6 i 10 (aZ _)
theorem SM{bI:Nat->Nat->Nat}{a:Nat}(aH:∀i,bI a i=0):∀(l:List Nat) (W:Nat->Nat),a∈l->∀i,i<10->pc bI l W i=0
 |b::l,W,h=>by
  rcases gl.1 h with e|h
  ·subst e
   exact aiX l fun i _=>ar3 aH 6 i 10
  ·exact SM aH l _ h
theorem aiV{bI:Nat->Nat->Nat}:∀(l:List Nat) {W:Nat->Nat},W 0=0->W 1=0∨l≠[]->pc bI l W 0=0/\pc bI l W 1=0
 |[],W,ae,H=>by
  rcases H with H|H
  ·exact⟨ae,H⟩
  ·exact absurd rfl H
 |a::l,W,ae,_=>by
  have dC:k1 W (bI a) 6 0 10=0:=by simp[k1,A8]
  have aj:k1 W (bI a) 6 1 10=0:=by simp[k1,A8,ae]
  exact aiV l dC (.inl aj)
theorem ar7{bI:Nat->Nat->Nat}{s i:Nat}:∀{rs:List bA},(∀r∈rs,r.h=s->pc bI r.args lk i=0)->qJ bI s i rs=0
 |[],_=>rfl
 |r::l,h=>by
  simp only[qJ]
  rw[ar7 fun q a=>h q (jD _ a)]
  split
  ·rename_i e;rw[h r (qP ..) e]
  ·rfl
variable{t:List (List Nat)}{al:Nat}
theorem axR{df rs:List bA}{c:Nat}(u:zP (ou t) df)(l:Lg t df al c=true)(g:rs.Sublist df):zP (ou (B0 t df rs al c)) rs:=by
 have x:=ai4 t df rs al c;simp only[Lg,dQ]at l;obtain⟨⟨l,y⟩,ae⟩:=l;have y:al<c:=by simpa using y
 have E:∀r∈rs,r.h<c/\(r.h=al->r.args=[]∨(∃a,r.args=[a]/\a≠al)∨al∈r.args)/\(r.h≠al->unary df al r.h=true->r.args=[]∨r.h∈r.args):=fun r b=>by
  have h:=h6.1 l r (g.subset b);simp only[dQ]at h;refine⟨by simpa using h.1,fun e=>?_,fun e hu=>?_⟩;have I:=h.2;rw[e,LW,eP]at I;split at I;rename_i B;exact .inl B;rename_i a B;exact .inr (.inl ⟨a,B,fun O=>by subst O;simp at I⟩);exact .inr (.inr (asW.1 I))
  ·have I:=h.2;have bO:Nat.beq r.h al=false:=PS e;rw[bO,jt,hu,eP]at I;rcases asN.1 I with o|o
   exact .inl (List.isEmpty_iff.1 o);exact .inr (asW.1 o)
 refine⟨fun s i hi=>?_,fun r b=>aps x _ (fun _ _=>aZ _) (u.num r (g.subset b)),fun s i=>p_ (x s i) (u.lt s i)⟩;by_cases m:s<c
 ·cases A:rP df rs al s i with
  |false=>rw[SO t df rs al c s i m hi,A,jt];exact cO (ar4 x s i z rs) (cO (ar6 g) (u.sum s i hi))
  |true=>
   have K:qJ (ou (B0 t df rs al c)) s i rs=0:=ar7 fun r b e=>by
    obtain⟨_,N,M⟩:=E r b;have n:∀a,a<c->(∀j,rP df rs al a j=true)->∀j,ou (B0 t df rs al c) a j=0:=fun a aH h j=>by
     by_cases C:j<6;rw[SO t df rs al c a j aH C,h j,eP];exact SP _ _ _ _ _ _ _ fun q=>C q.2
    subst e;by_cases d:r.h=al
    ·unfold rP at A;rw[d,LW,eP]at A;by_cases aj:i=1
     ·rw[aj,LW,eP]at A;have G:s9 rs al=false:=by simpa using A
      rw[aj];exact(aiV r.args (W:=lk) rfl (.inr (ab7 G b d))).2
     ·have J:Nat.beq i 1=false:=PS aj;rw[J,jt]at A;have k:s9 rs al=false/\K0 rs al=false:=by simpa using A
      rcases N d with aH|⟨a,aH,L⟩|aH;exact absurd aH (ab7 k.1 b d)
      ·have hu:unary df al a=true:=LL.2 ⟨r,g.subset b,by rw[d,aH];simp⟩;have F:s9 rs a=false:=by
        cases H:s9 rs a;rfl;have:K0 rs al=true:=LL.2 ⟨r,b,by rw[d,aH];simp[H]⟩;rw[k.2]at this;cases this
       have f:∀j,rP df rs al a j=true:=fun j=>by unfold rP;have:Nat.beq a al=false:=PS L;rw[this,jt,hu,F];rfl
       refine SM (a:=a) (fun j=>?_) r.args lk (by rw[aH];exact qP ..) i z;by_cases has:a<c;exact n a has f j;exact SP _ _ _ _ _ _ _ fun q=>has q.1
      ·have f:∀j,rP df rs al al j=true:=fun j=>by unfold rP;rw[LW,eP,k.1,k.2];cases Nat.beq j 1<;>rfl
       exact SM (n al y f) r.args lk aH i z
    ·have w:=A;unfold rP at w;have D:Nat.beq r.h al=false:=PS d;rw[D,jt]at w;have hu:unary df al r.h=true/\s9 rs r.h=false:=by simpa using w
     rcases M d hu.1 with aH|aH;exact absurd aH (ab7 hu.2 b rfl)
     ·have f:∀j,rP df rs al r.h j=true:=fun j=>by unfold rP;rw[D,jt,hu.1,hu.2];rfl
      exact SM (n r.h m f) r.args lk aH i z
   rw[K];exact dx _
 rw[ad7 fun r b e=>m (by have:=(E r b).1;omega)];exact dx _
def yj(rs:List bA)(M:Nat->Nat)(al:Nat):Prop:=
 (∃(k:Nat) (b:k<rs.length),rs[k].h=al/\rs[k].args=[])∨
 (2<=M al/\∃(a k j:Nat) (b:k<rs.length) (c:j<rs.length),rs[k].h=al/\rs[k].args=[a]/\rs[j].h=a/\rs[j].args=[])
theorem apN{rs:List bA}(h:K0 rs al=true):∃(a k j:Nat) (b:k<rs) (c:j<rs),rs[k].h=al/\rs[k].args=[a]/\rs[j].h=a/\rs[j].args=[]:=by
 obtain⟨r,e,H⟩:=LL.1 h;obtain⟨k,b,rfl⟩:=Wt e;simp only[dQ]at H;obtain⟨H,I⟩:=H;split at I;rename_i a f;obtain⟨j,c,aj,d⟩:=UB I;exact⟨a,k,j,b,c,gx H,f,aj,d⟩;cases I
theorem aJw{df rs:List bA}{M:Nat->Nat}(d:Lg t df al a=true){i:Nat}(hi:i<=M al)(h:ou (B0 t df rs al a) al i≠0):yj rs M al:=by
 simp only[Lg,dQ]at d;obtain⟨⟨_,b⟩,ae⟩:=d;have b:al<a:=by simpa using b
 have j:i<6:=by
  by_cases c:i<6;exact c;exact absurd (SP _ _ _ _ _ _ _ fun q=>c q.2) h
 have n:i≠0:=fun e=>by
  subst e;apply h;have:=ai4 t df rs al a al 0;have m:ou t al 0=0:=by
   unfold ou;rw[p8 (l:=t)];cases f:t[al]? with
   |none=>rfl
   |some l=>exact gx (h6.1 ae l (CY f))
  omega
 rw[SO t df rs al a al i b j]at h;have A:rP df rs al al i=false:=by
  cases A:rP df rs al al i;rfl;rw[A]at h;exact absurd rfl h
 unfold rP at A;rw[LW,eP]at A;by_cases aj:i=1;rw[aj,LW,eP]at A;exact .inl (UB (by simpa using A))
 ·have g:Nat.beq i 1=false:=PS aj;rw[g,jt]at A;have k:s9 rs al=true∨K0 rs al=true:=by
   cases H:s9 rs al;right;rw[H]at A;simpa using A;exact .inl rfl
  rcases k with H|H;exact .inl (UB H);exact .inr ⟨z,apN H⟩
end Go.bh
namespace Go.bh
open Go Go.Proofs.Tryz Go.Proofs Go.RowKit Go.da
structure m0 (w:World) (b n:Nat) (f:Nat->Nat):Prop where
 lt:b<w.heap.size
 kC:∃arr,w.heap[b]? =some (.cells arr 3 (0,0))/\arr.size=n/\∀i,i<n->arr[i]? =some (.int .i64 (f i))
variable{w:World}{b n i:Nat}{f:Nat->Nat}
theorem m0.cell(h:m0 w b n f)(hi:i<n):w.cell? ⟨b,i,none⟩=some (.int .i64 (f i)):=by
 obtain⟨arr,H,_,a⟩:=h.kC;exact ly H (a i hi)
theorem m0.free(h:m0 w b n f)(i:Nat):w.frozen? ⟨b,i,none⟩=false:=by
 obtain⟨arr,H,_⟩:=h.kC;simp[World.frozen?,H]
theorem m0.K{w':World}{B:Nat}(h:m0 w b n f)(c:b<B)(A:Below B w w'):m0 w' b n f:=by
 obtain⟨arr,H,I,a⟩:=h.kC;exact⟨cS A h.lt,arr,by rw[A.block b c];exact H,I,a⟩
variable{m:Nat}
theorem m0.set(h:m0 w b n f){j:Nat}(c:j<n):m0 (w.setCell ⟨b,j,none⟩ m) b n (fun i=>if i=j then m else f i):=by
 obtain⟨arr,H,I,a⟩:=h.kC;refine⟨by simpa using h.lt,arr.setIfInBounds j m,hT H _,by simpa using I,fun i hi=>?_⟩;by_cases e:i=j;subst e;simp[I,hi];simp only[bs e];rw[Bl (h8 e)];exact a i hi
theorem aEN(n:Nat)(H:1<=n)(a:n<=12):∀(w:World),(Instr.makeSlice 22 n n).run prog w=.ok (.slice (some ⟨w,0,none⟩) n n) (w.alloc (.cells (Array.replicate n (.int .i64 0)) 3)):=by
 exact aod
theorem m0.zero(w:World)(n:Nat):m0 (w.alloc (.cells (Array.replicate n (.int .i64 0)) 3)) w n (fun _=>0):=
 ⟨ao,_,cW w _,ao,fun i hi=>by simp[hi]⟩
theorem hX.set{wr:World}{a:Array Value}(h:hX w a wr){v:Value}(A:w.heap.size<b):hX w a (wr.setCell ⟨b,i,none⟩ v):=
 ⟨h.b.setCell (Br A) _,by unfold kz;rw[g_ _ _ _ _ (show w.heap.size≠b by omega)];exact h.g⟩
structure tw (M:Nat->Nat) (rs:List bA) (al d:Nat) (f:Nat->Nat):Prop where
 le:∀i,f i<=5
 eh:M al<=f al
 CK:∀j (aa:j<rs.length),j<d->rs[j].h=al->2<=M al->∀a,rs[j].args=[a]->1<=f a
variable{M:Nat->Nat}{al d:Nat}
theorem tw.Ib{rs:List bA}(h:tw M rs al d f){a:Nat}(H:f a<=m)(k:m<=5):tw M rs al d (fun i=>if i=a then m else f i):=by
 refine⟨fun i=>?_,?_,fun j g hd c I b A=>?_⟩;split;exact k;exact h.le i;split;rename_i e;have:=h.eh;rw[e]at this⊢;omega;exact h.eh;have:=h.CK j g hd c I b A;split;rename_i e;subst e;omega;exact this
theorem tw.step{rs:List bA}{k:Nat}(h:tw M rs al d f)(l:k<rs)(hd:k<=d)(hu:rs[k].h=al->2<=M al->∀a,rs[k].args=[a]->1<=f a):∃c,k+1<=c/\tw M rs al c f:=by
 by_cases dC:k+1<=d;exact⟨d,dC,h⟩
 obtain rfl:d=k:=z;refine⟨d+1,z,h.le,h.eh,fun j g i b I a aH=>?_⟩;by_cases e:j<d;exact h.CK j g e b I a aH;obtain rfl:j=d:=z;exact hu b I a aH
section
variable {S:cU} {M:Nat->Nat} {rs:List bA} {ca bd:Option Addr} {cc aW rb aE rc:Nat} {w:World}
def avt(S:cU)(M:Nat->Nat)(rs:List bA)(e:Ending)(w':World):Prop:=∃b f,e=.returned (.slice (some ⟨b,0,none⟩) S.aD.length S.aD.length)/\m0 w' b S.aD.length f/\tw M rs S.al rs.length f
attribute [local irreducible] wpStill wpAnyH in
theorem aE2(h:pB S M rs ca bd cc aW rb aE rc w): χ 286 #[.agg (eg S rs ca bd cc aW rb aE rc)] w (avt S M rs):=by
 have I1:=G h;have Z:=hX.ee w (eg S rs ca bd cc aW rb aE rc);have ub:=h.ok.xI;have r4:=h.ok.aD;have e2:=h.ok.al;have vE:=h.rq;have mX:=G h.yS;have GD:=h.yS S.al;have Xu:=G (fun r (ab:r∈rs)=>h.ok.CC r (h.sub.subset ab));obtain⟨bL,s,s3,ke,kF⟩:=h.y;have o7:=G (fun W (ar:β w W) i (hi:i<S.aD.length)=>az ar ke (kF i hi).2.2);subst s3;have ls:=G h.r;have pR:=aEN S.aD.length ub r4;have u:=aK 3 Z.g;clear h;go_enter func286,ntmps286;go_upto_region 2 with fail
 have ae:=G pR;clear pR u;have Q:hX w (eg S rs ca (some ⟨bL,s,none⟩) cc aW rb aE rc) ((w.alloc (.cells (eg S rs ca (some ⟨bL,s,none⟩) cc aW rb aE rc) 29)).alloc (.cells (Array.replicate S.aD.length (.int .i64 0)) 3)):=Z.K ((br _ _).alloc (aZ _) _);have D:=m0.zero (w.alloc (.cells (eg S rs ca (some ⟨bL,s,none⟩) cc aW rb aE rc) 29)) S.aD.length;rw[i_]at D;clear Z ae;generalize (w.alloc (.cells (eg S rs ca (some ⟨bL,s,none⟩) cc aW rb aE rc) 29)).alloc (.cells (Array.replicate S.aD.length (.int .i64 0)) 3)=am at*;have nd:=D.lt;have fr:=D.free S.al;have bo:=D.cell e2;obtain⟨-,-,-,u,-,dS⟩:=f_ Q.g;have hx:=o7.out _ Q.b S.al e2;have U2:w.heap.size≠w.heap.size+1:=z;have ax:bL≠w.heap.size+1:=z;have hA:(0:Int)<=(S.al:Int):=z;have gU:(S.al:Int)<S.aD.length:=z;clear kF
 go_region_held3 (fun X=>X.cell? ⟨w.heap.size,3,none⟩=some (.slice (some ⟨bL,s,none⟩) S.aD.length aW)/\X.cell? ⟨w.heap.size,5,none⟩=some (.int .i64 S.al)/\X.cell? ⟨bL,s+S.al*3+2,none⟩=some (.int .i64 (M S.al))) (first|exact⟨u,dS,hx⟩|exact⟨(nt (g_ _ _ _ _ U2)).trans u,(nt (g_ _ _ _ _ U2)).trans dS,(nt (g_ _ _ _ _ ax)).trans hx⟩|go_keep) (fail);have lO:hX w (eg S rs ca (some ⟨bL,s,none⟩) cc aW rb aE rc) (am.setCell ⟨w.heap.size+1,S.al,none⟩ (.int .i64 (M S.al))).drew:=(Q.set z).JK;have Cb:=(D.set (m:=M S.al) e2).K (B:=w.heap.size+2) z ((br _ _).drew);have ag:tw M rs S.al 0 (fun i=>if i=S.al then M S.al else 0):=⟨fun i=>by
  split
  ·exact GD.2
  ·omega,ao,fun j aa hd=>z⟩
 clear Q D nd fr bo u dS hx;generalize (am.setCell ⟨w.heap.size+1,S.al,none⟩ (.int .i64 (M S.al))).drew=aq at*;generalize pP:(fun i=>if i=S.al then M S.al else 0)=k6 at*;clear pP
 go_wp2;go_loopw [4] (fun v wr=>∃(t d:Nat) (f:Nat->Nat),t<=S.aD.length+1/\v=.int .i64 t/\(1<=t->rs.length<=d)/\hX w (eg S rs ca (some ⟨bL,s,none⟩) cc aW rb aE rc) wr/\m0 wr (w.heap.size+1) S.aD.length f/\tw M rs S.al d f) (fun v _=>S.aD.length+1-(RowKit.intOf v).toNat);case atStart=>exact⟨0,0,_,dx _,rfl,z,lO,Cb,ag⟩
 case round=>
  clear lO Cb ag;obtain⟨t,d,f,ai,rfl,hd,l,n,g⟩:=hrel;have u:=aK 3 l.g;have qD:=c8 l.g;by_cases au:t<S.aD.length+1
  ·have jq:(t:Int)<(S.aD.length:Int)+1:=z;have aD:(S.aD.length:Int)<=12:=z
   go_wp2;go_loopw [5] (fun v wr=>∃(k d:Nat) (f:Nat->Nat),k<=rs.length/\v=.int .i64 k/\k<=d/\hX w (eg S rs ca (some ⟨bL,s,none⟩) cc aW rb aE rc) wr/\m0 wr (w.heap.size+1) S.aD.length f/\tw M rs S.al d f) (fun v _=>rs.length-(RowKit.intOf v).toNat);case atStart=>exact⟨0,d,f,dx _,rfl,dx _,l,n,g⟩
   case round=>
    clear l n g u qD hd;obtain⟨k,d,f,ae,rfl,AE,l,n,g⟩:=hrel;have dt:=aK 4 l.g;have qD:=c8 l.g;by_cases t':k<rs.length
    ·obtain⟨ur,Lb,cg,L,kE⟩:=ls.out;cases cg;obtain⟨y,ac,ab⟩:=kE k t';have fo:=(l.b.cell L).trans ab.bo;have b8:=(l.b.cell L).trans ab.c1;have cr:=(l.b.cell L).trans ab.c2;have ej:=(l.b.cell L).trans ab.c3;have jx:=G ab.args;obtain⟨b9,oK,AA,_,_⟩:=Xu.out _ (fP t');have mP:(0:Int)<=(k:Int):=z;have lF:(k:Int)<rs.length:=z;clear kE ab;go_upto_region 10 with fail
     have zH:hX w (eg S rs ca (some ⟨bL,s,none⟩) cc aW rb aE rc) (wr.alloc (.cells #[.int .i64 rs[k].h,.string rs[k].op,.string rs[k].aG,.slice y rs[k].args.length ac] 96)).drew:=(l.K ((br _ _).alloc (aZ _) _)).JK;have O:kz (wr.alloc (.cells #[.int .i64 rs[k].h,.string rs[k].op,.string rs[k].aG,.slice y rs[k].args.length ac] 96)).drew wr.heap.size 96 #[.int .i64 rs[k].h,.string rs[k].op,.string rs[k].aG,.slice y rs[k].args.length ac]:=(kz.ee wr _ _).K ((br _ _).drew);have ad:m0 (wr.alloc (.cells #[.int .i64 rs[k].h,.string rs[k].op,.string rs[k].aG,.slice y rs[k].args.length ac] 96)).drew (w.heap.size+1) S.aD.length f:=n.K n.lt ((e4 wr _).drew);have aC:w.heap.size+1<wr.heap.size:=n.lt;have Cx:=c8 O;refine uH av av ?_;change wpStill _ _ (wr.alloc (.cells #[.int .i64 rs[k].h,.string rs[k].op,.string rs[k].aG,.slice y rs[k].args.length ac] 96)).drew (fun a'=>Exit.then _ _ Exit.normal a' (wr.alloc (.cells #[.int .i64 rs[k].h,.string rs[k].op,.string rs[k].aG,.slice y rs[k].args.length ac] 96)).drew) _ _;clear l n fo b8 cr ej dt;generalize (wr.alloc (.cells #[.int .i64 rs[k].h,.string rs[k].op,.string rs[k].aG,.slice y rs[k].args.length ac] 96)).drew=bX at*;generalize wr.heap.size=A at*;obtain⟨fI,-,-,C⟩:=Gf O;have SI:=ad.cell b9;have aA:=g.le rs[k].h;have oS:(0:Int)<=(rs[k].h:Int):=z;have Cu:(rs[k].h:Int)<(S.aD.length:Int):=z;have AT:(f rs[k].h:Int)<=5:=z;have Ha:(rs[k].args.length:Int)<=3:=z;repeat still_step
     refine rB ?_;have aj:IntKind.i64.wrap ((f rs[k].h:Int)-(rs[k].args.length:Int))=(f rs[k].h:Int)-(rs[k].args.length:Int):=pw _ ⟨z,z⟩;rw[aj];obtain⟨R,H⟩:∃R:Int,(f rs[k].h:Int)-(rs[k].args.length:Int)=R:=⟨_,rfl⟩;rw[H];clear aj SI;have lC:R<=5:=z;have ay:=G g.eh;have H:=G H;have jf:=G (show Go.bh.tw M rs S.al d f from g)
     go_wp2;go_loopw [8] (fun v wr=>∃(j:Nat) (x:Nat->Nat),j<=rs[k].args.length/\v=.int .i64 j/\hX w (eg S rs ca (some ⟨bL,s,none⟩) cc aW rb aE rc) wr/\kz wr A 96 #[.int .i64 rs[k].h,.string rs[k].op,.string rs[k].aG,.slice y rs[k].args.length ac]/\m0 wr (w.heap.size+1) S.aD.length x/\tw M rs S.al d x/\Hid (1<=j->rs[k].h=S.al->2<=M S.al->∀a,rs[k].args=[a]->1<=x a)) (fun v _=>rs[k].args.length-(RowKit.intOf v).toNat);case atStart=>exact⟨0,f,dx _,rfl,zH,O,ad,g,G fun h=>z⟩
     case round=>
      clear zH O ad g fI C Cx aA AT;obtain⟨j,x,aa,rfl,l,F,n,g,x8⟩:=hrel;have C:=aK 3 F;have u:=aK 3 l.g;have Cx:=c8 F;by_cases ak:j<rs[k].args.length
      ·have b4:(0:Int)<=(j:Int):=z;have dF:(j:Int)<(rs[k].args.length:Int):=z;obtain⟨E,eM,rfl,jl,oL⟩:=jx.out z;have K:=(l.b.cell jl).trans (oL j ak);have V:=AA _ (fP ak);have N:=o7.out _ l.b _ V;have fL:=n.cell V;have gC:=n.free rs[k].args[j];have cb:=n.lt;have O2:=mX.out rs[k].args[j];have OQ:=g.le rs[k].args[j];have gL:(0:Int)<=(rs[k].args[j]:Int):=z;have s8:(rs[k].args[j]:Int)<(S.aD.length:Int):=z;clear oL
       go_wp2;refine CV (S:=(fun W=>W.cell? ⟨w.heap.size,3,none⟩=some (.slice (some ⟨bL,s,none⟩) S.aD.length aW)/\W.cell? ⟨A,3,none⟩=some (.slice (some ⟨E,eM,none⟩) rs[k].args.length ac)/\W.cell? ⟨E,eM+j,none⟩=some (.int .i64 rs[k].args[j])/\W.cell? ⟨bL,s+rs[k].args[j]*3+2,none⟩=some (.int .i64 (M rs[k].args[j])))) av ⟨u,C,K,N⟩ (fun j_=>?_);refine ci 0 60 ?_;refine ci 1 61 ?_;refine ci 2 62 ?_;refine ci 3 63 ?_;refine ci 4 64 ?_;refine ci 5 65 ?_;refine ci 6 66 ?_;refine ci 7 67 ?_;refine ci 8 68 ?_;refine ci 9 69 ?_;refine ci 10 70 ?_;refine ci 11 71 ?_;refine ci 12 72 ?_;refine ci 14 74 ?_;refine ci 15 75 ?_;refine ci 16 76 ?_;refine ci 17 77 ?_;refine ci 18 78 ?_;refine ci 19 79 ?_;refine ci 20 80 ?_;refine ci 21 81 ?_;refine ci 22 82 ?_;refine ci 23 83 ?_;refine ci 24 84 ?_;refine ci 25 85 ?_;refine oU 13 (fun bE g=>?_);go_simp;refine g.out _ _ ⟨u,C,K,N⟩ (fun j_=>?_);clear g bE;refine h_ ?_;refine ci 26 86 ?_;refine ci 27 87 ?_;try simp only[show ∀a b:Int,max a b=if a<b then b else a from fun a b=>by split<;>omega,show ∀a b:Int,min a b=if b<a then b else a from fun a b=>by split<;>omega]
       generalize T:(if(x rs[k].args[j]:Int)<if(M rs[k].args[j]:Int)<R then(M rs[k].args[j]:Int)else R then if(M rs[k].args[j]:Int)<R then(M rs[k].args[j]:Int)else R else(x rs[k].args[j]:Int))=al;obtain⟨m,rfl,an,aw,l0⟩:∃m:Nat,al=(m:Int)/\x rs[k].args[j]<=m/\m<=5/\(1<=R->1<=m):=by refine⟨al.toNat,?_,?_,?_,?_⟩;all_goals(split at T<;>(try split at T)<;>omega)
       clear T;refine oU 28 (fun bE g=>?_);go_simp;refine g.out _ _ ⟨(nt (g_ _ _ _ _ (show w.heap.size≠w.heap.size+1 by omega))).trans u,(nt (g_ _ _ _ _ (show A≠w.heap.size+1 by omega))).trans C,(nt (g_ _ _ _ _ (show E≠w.heap.size+1 by omega))).trans K,(nt (g_ _ _ _ _ (show bL≠w.heap.size+1 by omega))).trans N⟩ (fun j_=>?_);clear g bE;refine h_ ?_;refine Fp av ?_ _;have I0:=(l.set (b:=w.heap.size+1) (i:=rs[k].args[j]) (v:=.int .i64 m) z).JK;have qf:kz (wr.setCell ⟨w.heap.size+1,rs[k].args[j],none⟩ (.int .i64 m)).drew A 96 #[.int .i64 rs[k].h,.string rs[k].op,.string rs[k].aG,.slice (some ⟨E,eM,none⟩) rs[k].args.length ac]:=by show(wr.setCell ⟨w.heap.size+1,rs[k].args[j],none⟩ (.int .i64 m)).heap[A]? =_;rw[g_ _ _ _ _ (show A≠w.heap.size+1 by omega)];exact F
       have sK:=(n.set (m:=m) V).K (B:=w.heap.size+2) z ((br _ _).drew);have ah:=g.Ib an aw;have af:Hid (1<=j+1->rs[k].h=S.al->2<=M S.al->∀a,rs[k].args=[a]->1<=(fun i=>if i=rs[k].args[j]then m else x i) a):=G fun _ Y I a aH=>by
        have U:rs[k].args.length=1:=by rw[aH];rfl
        have J7:=H.out;have kb:=ay.out;rw[←Y]at kb I;have e:rs[k].args[j]=a:=by have:j=0:=z;subst this;simp[aH]
        simp only[e,ox];exact l0 (by rw[U]at J7;omega)
       clear l F n g x8 K N fL gC u C j_;generalize (wr.setCell ⟨w.heap.size+1,rs[k].args[j],none⟩ (.int .i64 m)).drew=a_ at*;generalize (fun i=>if i=rs[k].args[j]then m else x i)=f5 at*
       go_wp2;go_roundw;case rel=>first|exact⟨j+1,f5,z,bG,I0,qf,sK,ah,af⟩|((repeat apply Exists.intro);refine⟨?_,rfl⟩;exact⟨j+1,f5,z,bG,I0,qf,sK,ah,af⟩)
       case measure=>simp[RowKit.intOf];omega
      ·obtain rfl:j=rs[k].args.length:=z;obtain⟨dJ,mh,ap⟩:=g.step t' AE (fun Y I a aH=>x8.out (by rw[aH];simp) Y I a aH)
       go_wp2;exact⟨⟨k+1,dJ,x,z,bG,mh,l,n,ap⟩,by simp[RowKit.intOf];omega⟩
    ·obtain rfl:k=rs.length:=z;have lF:¬(rs.length:Int)<rs.length:=z
     go_wp2;exact⟨⟨t+1,d,f,z,bG,fun _=>AE,l,n,g⟩,by simp[RowKit.intOf];omega⟩
  ·have jq:¬(t:Int)<(S.aD.length:Int)+1:=z;obtain rfl:t=S.aD.length+1:=z
   go_wp2;go_ret;exact⟨⟨_,f,rfl,n,⟨g.le,g.eh,fun j aa _=>g.CK j aa (by have:=hd z;omega)⟩⟩,l.b⟩
end
end Go.bh
