/- ItemLatest, one part of the proof. -/
import Derived.Test.YtdioggbficfibaaGreatDoorP08
set_option linter.all false
set_option maxRecDepth 100000
set_option maxHeartbeats 16000000
namespace Go.bS
open Go Go.Proofs.Tryz Go.Proofs Go.RowKit Go.Lib Go.aJ
theorem aFq(x:Option Addr)(F y:Nat)(E fn dB ds:Int)(B:Option Addr)(f' D:Nat)(aG:ByteArray)(m:Nat)(c:Int)(g:Nat)(P:hn c g)(T:g<=3)(U:c.natAbs<=1000000000000)(M:∀(N:Int) (S:Nat),hn N S->N.natAbs<=c.natAbs->S<=1->e0 m (gD N S))(w:World)(H:Option Addr)(ac:Nat)(h:cz aV (aU aV 1) w H [gD c g]): χ 476 #[.string ⟨#[114,111,117,110,100]⟩,aG,.agg (eV x F y E 1 dB ds B f' D),.slice H 1 ac] w (e7 w m):=by
 have NU:((⟨#[114,111,117,110,100]⟩:ByteArray).toList==(⟨#[112,114,105,110,116]⟩:ByteArray).toList)=false:=fS ak;have S1:((⟨#[114,111,117,110,100]⟩:ByteArray).toList==(⟨#[97,100,100]⟩:ByteArray).toList)=false:=fS ak;have S2:((⟨#[114,111,117,110,100]⟩:ByteArray).toList==(⟨#[115,117,98]⟩:ByteArray).toList)=false:=fS ak;have Zh:((⟨#[114,111,117,110,100]⟩:ByteArray).toList==(⟨#[109,117,108]⟩:ByteArray).toList)=false:=fS ak;have w8:((⟨#[114,111,117,110,100]⟩:ByteArray).toList==(⟨#[114,111,117,110,100]⟩:ByteArray).toList)=true:=q0 _;have R:=G fun W=>aHX c g W P T U;have Q:=G fun N S W=>adk N S W;have cm:=G M;clear M;have d:=G (k4.start w (eV x F y E 1 dB ds B f' D) 249);obtain⟨b,o,rfl,A,ca,cc,ra,rc,ae⟩:=M8 h;clear h;go_enter LB,LC
 go_wp2;generalize ((w.alloc (.cells (eV x F y E 1 dB ds B f' D) 249)).alloc (.cells fh 42))=f at d⊢;have j:=d.out.b;have Z:=cS j A;have V:=bF d.out.g;have bo:=az j A ae.c2;have c1:=az j A ae.c3;have c2:=(show f.cell? ⟨w,2,none⟩=some (.int .i64 1)from aK 2 d.out.g);have rQ:f.drew.cell? ⟨b,o+2,none⟩=_:=bo;have ve:f.drew.cell? ⟨b,o+3,none⟩=_:=c1;have q1:f.drew.cell? ⟨w,2,none⟩=_:=c2;have I:w.heap.size+1≠b:=z;have yV:w.heap.size+1≠w.heap.size:=z;have C:=G Z;have K:=G V;have sn:=G (d.out.K (lh f));clear j A
 go_region_held3 (fun aT=>aT.cell? ⟨b,o+2,none⟩=some (.int .i64 c)/\aT.cell? ⟨b,o+3,none⟩=some (.int .i64 g)/\aT.cell? ⟨w,2,none⟩=some (.int .i64 1)) (first|with_reducible exact⟨bo,c1,c2⟩|with_reducible exact⟨rQ,ve,q1⟩|with_reducible exact⟨s,u,n⟩|with_reducible exact⟨(e_ I).trans s,(e_ I).trans u,(e_ yV).trans n⟩|go_keep) (first|(go_at_call 529;refine(R.out _).mono ?_;rintro e bX ⟨⟨N,S,rfl,ka,tU,tV,xh⟩,a⟩;have Y:=G (sn.out.K a);have s:=az a C.out bo;have u:=az a C.out c1;have n:=az a K.out c2;have L:=cS a C.out;have O:=cS a K.out;clear a)|(go_at_call 525;refine(Q.out _ _ _).mono ?_;rintro e bn ⟨rfl,l⟩;have em:=Y.out.K l;have s:=az l L s;have u:=az l L u;have n:=az l O n;obtain⟨g3,di,dL,fN,gt,g4,g9⟩:=eX em.o;obtain⟨z0,cy,dz,z3,z4,z5,eO⟩:=he em.o))
 exact acr
theorem aFm(j:Option Addr)(x n:Nat)(u fn dB ds:Int)(s:Option Addr)(f' t:Nat)(aG:ByteArray)(m:Nat)(a c:Int)(T:0<=a/\a<=3652058)(ba:0<=c/\c<=3652058)(F:e0 m (gD (c-a) 0))(w:World)(y:Option Addr)(ac:Nat)(h:cz aV (aU aV 1) w y [kq a,kq c]): χ 476 #[.string ⟨#[98,101,116,119,101,101,110]⟩,aG,.agg (eV j x n u fn dB ds s f' t),.slice y 2 ac] w (e7 w m):=by
 have P:((⟨#[98,101,116,119,101,101,110]⟩:ByteArray).toList==(⟨#[112,114,105,110,116]⟩:ByteArray).toList)=false:=fS ak;have Q:((⟨#[98,101,116,119,101,101,110]⟩:ByteArray).toList==(⟨#[97,100,100]⟩:ByteArray).toList)=false:=fS ak;have R:((⟨#[98,101,116,119,101,101,110]⟩:ByteArray).toList==(⟨#[115,117,98]⟩:ByteArray).toList)=false:=fS ak;have S:((⟨#[98,101,116,119,101,101,110]⟩:ByteArray).toList==(⟨#[109,117,108]⟩:ByteArray).toList)=false:=fS ak;have U:((⟨#[98,101,116,119,101,101,110]⟩:ByteArray).toList==(⟨#[114,111,117,110,100]⟩:ByteArray).toList)=false:=fS ak;have V:((⟨#[98,101,116,119,101,101,110]⟩:ByteArray).toList==(⟨#[115,104,111,119]⟩:ByteArray).toList)=false:=fS ak;have Y:((⟨#[98,101,116,119,101,101,110]⟩:ByteArray).toList==(⟨#[100,97,121,115]⟩:ByteArray).toList)=false:=fS ak;have w8:((⟨#[98,101,116,119,101,101,110]⟩:ByteArray).toList==(⟨#[98,101,116,119,101,101,110]⟩:ByteArray).toList)=true:=q0 _;have I:=G fun W=>U1 (c-a) 0 W;have J:=G F;have gS:IntKind.i64.wrap (c-a)=c-a:=pw _ ⟨z,z⟩;clear F;have d:=G (k4.start w (eV j x n u fn dB ds s f' t) 249);obtain⟨b,o,rfl,A,⟨ca,cc,ra,rc,ae⟩,iE,iS,kJ,kh,H⟩:=Jr h;clear h;go_enter LB,LC
 go_wp2;generalize ((w.alloc (.cells (eV j x n u fn dB ds s f' t) 249)).alloc (.cells fh 42))=i at d⊢;have f:=d.out.b;have L:=cS f A;have K:=bF d.out.g;have bo:=az f A H.c4;have c1:=az f A ae.c4;have M:i.drew.cell? ⟨b,o+7+4,none⟩=_:=bo;have O:i.drew.cell? ⟨b,o+4,none⟩=_:=c1;have E:w.heap.size+1≠b:=z;have yV:w.heap.size+1≠w.heap.size:=z;have D:=G L;have hb:=G K;have N:=G (d.out.K (lh i));clear f A
 go_region_held3 (fun aT=>aT.cell? ⟨b,o+7+4,none⟩=some (.int .i64 c)/\aT.cell? ⟨b,o+4,none⟩=some (.int .i64 a)) (first|with_reducible exact⟨bo,c1⟩|with_reducible exact⟨M,O⟩|with_reducible exact⟨B,C⟩|with_reducible exact⟨(e_ E).trans B,(e_ E).trans C⟩|go_keep) (first|(go_at_call 470;refine(I.out _).mono ?_;rintro e Z ⟨rfl,l⟩;have g:=N.out.K l;have B:=az l D.out bo;have C:=az l D.out c1;obtain⟨g3,di,dL,fN,gt,g4,g9⟩:=eX g.o;obtain⟨z0,cy,dz,z3,z4,z5,eO⟩:=he g.o))
 go_wp2;refine ki g.o ?_;exact⟨e7.some _ _ _ (aU.iW _ 1 _ 2 bO (c-a) 0 0 none 0 none 0) J.out,iJ g.b z _ _ _ _ _ _ _⟩
theorem aFo(D:Option Addr)(K E:Nat)(J fn dB ds:Int)(F:Option Addr)(f' I:Nat)(aG:ByteArray)(m:Nat)(n s:Int)(d f:Nat)(M:hn n d)(O:hn s f)(Q:max d f<=3)(w:World)(L:Option Addr)(ac:Nat)(h:cz aV (aU aV 1) w L [gD n d,gD s f]): χ 476 #[.string ⟨#[108,101,115,115]⟩,aG,.agg (eV D K E J fn dB ds F f' I),.slice L 2 ac] w (e7 w m):=by
 have NU:((⟨#[108,101,115,115]⟩:ByteArray).toList==(⟨#[112,114,105,110,116]⟩:ByteArray).toList)=false:=fS ak;have S1:((⟨#[108,101,115,115]⟩:ByteArray).toList==(⟨#[97,100,100]⟩:ByteArray).toList)=false:=fS ak;have S2:((⟨#[108,101,115,115]⟩:ByteArray).toList==(⟨#[115,117,98]⟩:ByteArray).toList)=false:=fS ak;have Zh:((⟨#[108,101,115,115]⟩:ByteArray).toList==(⟨#[109,117,108]⟩:ByteArray).toList)=false:=fS ak;have af:((⟨#[108,101,115,115]⟩:ByteArray).toList==(⟨#[114,111,117,110,100]⟩:ByteArray).toList)=false:=fS ak;have ag:((⟨#[108,101,115,115]⟩:ByteArray).toList==(⟨#[115,104,111,119]⟩:ByteArray).toList)=false:=fS ak;have ah:((⟨#[108,101,115,115]⟩:ByteArray).toList==(⟨#[100,97,121,115]⟩:ByteArray).toList)=false:=fS ak;have ab:((⟨#[108,101,115,115]⟩:ByteArray).toList==(⟨#[98,101,116,119,101,101,110]⟩:ByteArray).toList)=false:=fS ak;have ad:((⟨#[108,101,115,115]⟩:ByteArray).toList==(⟨#[101,113,117,97,108]⟩:ByteArray).toList)=false:=fS ak;have aa:((⟨#[108,101,115,115]⟩:ByteArray).toList==(⟨#[98,101,102,111,114,101]⟩:ByteArray).toList)=false:=fS ak;have w8:((⟨#[108,101,115,115]⟩:ByteArray).toList==(⟨#[108,101,115,115]⟩:ByteArray).toList)=true:=q0 _;have P:=G fun W=>aiD n s d f (max d f) W M O rfl Q _ rfl;have N:=G fun b W=>asg b W;have l:=G (k4.start w (eV D K E J fn dB ds F f' I) 249);obtain⟨b,o,rfl,A,⟨ca,cc,ra,rc,ae⟩,iE,iS,kJ,kh,H⟩:=Jr h;clear h;go_enter LB,LC
 go_wp2;generalize ((w.alloc (.cells (eV D K E J fn dB ds F f' I) 249)).alloc (.cells fh 42))=g at l⊢;have c:=l.out.b;have T:=cS c A;have R:=bF l.out.g;have bo:=az c A ae.c2;have c1:=az c A ae.c3;have c2:=az c A H.c2;have c3:=az c A H.c3;have V:g.drew.cell? ⟨b,o+2,none⟩=_:=bo;have Z:g.drew.cell? ⟨b,o+3,none⟩=_:=c1;have U:g.drew.cell? ⟨b,o+7+2,none⟩=_:=c2;have w0:g.drew.cell? ⟨b,o+7+3,none⟩=_:=c3;have B:w.heap.size+1≠b:=z;have yV:w.heap.size+1≠w.heap.size:=z;have j:=G T;have hb:=G R;have Y:=G (l.out.K (lh g));clear c A
 go_region_held3 (fun aT=>aT.cell? ⟨b,o+2,none⟩=some (.int .i64 n)/\aT.cell? ⟨b,o+3,none⟩=some (.int .i64 d)/\aT.cell? ⟨b,o+7+2,none⟩=some (.int .i64 s)/\aT.cell? ⟨b,o+7+3,none⟩=some (.int .i64 f)) (first|with_reducible exact⟨bo,c1,c2,c3⟩|with_reducible exact⟨V,Z,U,w0⟩|with_reducible exact⟨x,y,u,t⟩|with_reducible exact⟨(e_ B).trans x,(e_ B).trans y,(e_ B).trans u,(e_ B).trans t⟩|go_keep) (first|(go_at_call 532;refine(P.out _).mono ?_;rintro e bX ⟨rfl,a⟩;have S:=G (Y.out.K a);have x:=az a j.out bo;have y:=az a j.out c1;have u:=az a j.out c2;have t:=az a j.out c3;have C:=cS a j.out;clear a;generalize EI _=ew)|(go_at_call 472;refine(N.out _ _).mono ?_;rintro e bn ⟨⟨q,aC,rfl⟩,i⟩;have em:=S.out.K i;have x:=az i C x;have y:=az i C y;have u:=az i C u;have t:=az i C t;obtain⟨g3,di,dL,fN,gt,g4,g9⟩:=eX em.o;obtain⟨z0,cy,dz,z3,z4,z5,eO⟩:=he em.o))
 go_wp2;exact an8
theorem oy.acO(w:World)(n j:Nat):oy (w.alloc (.cells ((Array.replicate n (.bool false)).setIfInBounds j (.bool true)) 4)) w n:=
 ⟨ao,fun i hi=>by
  by_cases e:i=j
  ·subst e;exact⟨true,ly (cW w _) (by simp[hi])⟩
  ·exact⟨false,ly (cW w _) (by rw[Bl (h8 e)];simp[hi])⟩,fun i=>cJ (cW w _)⟩
theorem aiv{w:World}{b o:Nat}{v:Value}(h:w.cell? ⟨b,o,none⟩=some v):b<w.heap.size:=by
 unfold World.cell? at h;cases A:w.heap[b]? with
 |none=>simp[A]at h
 |some x=>exact(g6.1 A).1
def ahs(n:Nat)(e:Ending)(w':World):Prop:=∃g,e=.returned (.slice (some ⟨g,0,none⟩) n n)/\oy w' g n
theorem ajA(s:ByteArray)(ae:s.size<=200)(aG:Option Addr)(bB:Nat)(cl:Int)(ga:cl=1∨cl=2)(fr:Nat)(lZ:fr<=s.size)(w:World)(ag:pE w aG cl): Calls prog 555 #[.slice aG 1 bB,s,fr] w fun e w'=>ahs (s.size+1) e w'/\Below w w w':=by
 have pR:∀W,(Instr.makeSlice 104 (.int .i64 ((s.size:Int)+1)) (.int .i64 ((s.size:Int)+1))).run prog W=.ok (.slice (some ⟨W,0,none⟩) (s.size+1) (s.size+1)) (W.alloc (.cells (Array.replicate (s.size+1) (.bool false)) 4)):=fun W=>by have:=aEM (s.size+1) z z W;rw[show((s.size+1:Nat):Int)=(s.size:Int)+1 by omega]at this;exact this
 have dh:=G fun c aa w=>aih c aa cl z w;have bo:(cl==0)=false:=by rcases ga with rfl|rfl<;>rfl
 have gU:(s.size:Int)<=200:=z;have kf:(fr:Int)<=(s.size:Int):=z;have mn:(fr:Int)<(s.size:Int)+1:=z;have N:=oy.ee w (s.size+1);obtain⟨fI,hk⟩:=N.2.1 fr z;have z0:=N.2.2 fr;have A:=G (oy.acO w (s.size+1) fr);clear N;go_enter func555,ntmps555
 go_wp2;have u:=G (e4 w (.cells ((Array.replicate (s.size+1) (.bool false)).setIfInBounds fr (.bool true)) 4));clear hk z0 kf mn;generalize K:w.heap.size=q at*;generalize (w.alloc (.cells ((Array.replicate (s.size+1) (.bool false)).setIfInBounds fr (.bool true)) 4))=j at*;have hE:=ag.K (K▸u.out);obtain⟨pb,po,rfl,B,f,d,m,gj⟩:=hE.cells;refine Bn 2 ?_;rw[py]
 go_wp2;have a:=oy.ee j (s.size+1);have b:=A.out.K (e4 j (.cells (Array.replicate (s.size+1) (.bool false)) 4));have g:=u.out.alloc (K▸u.out.size) (.cells (Array.replicate (s.size+1) (.bool false)) 4);have bT:q≠j.heap.size:=by have:=A.out.1;omega
 have st:=G ((e4 j (.cells (Array.replicate (s.size+1) (.bool false)) 4)).cell B |>.trans f);have uX:=G ((e4 j (.cells (Array.replicate (s.size+1) (.bool false)) 4)).cell B |>.trans d);have wU:=G ((e4 j (.cells (Array.replicate (s.size+1) (.bool false)) 4)).cell B |>.trans m);clear A f d m gj ag;have L:pb≠j.heap.size:=z;have TQ:q<=j.heap.size:=by have:=u.out.size;omega
 clear u;generalize j.heap.size=l at*;generalize (j.alloc (.cells (Array.replicate (s.size+1) (.bool false)) 4))=aq at*;go_loopw [10] (fun i wr=>∃k:Nat,k<=s.size+1/\i=.int .i64 k/\oy wr q (s.size+1)/\oy wr l (s.size+1)/\Below q w wr/\wr.cell? ⟨pb,po,none⟩=some (.int .i64 cl)/\wr.cell? ⟨pb,po+1,none⟩=some (.int .i64 1)/\wr.cell? ⟨pb,po+2,none⟩=some (.int .i64 200)) (fun i _=>s.size+1-(RowKit.intOf i).toNat);case atStart=>exact⟨0,dx _,rfl,b,a,g,st.out,uX.out,wU.out⟩
 case round=>
  clear b a g st uX wU;obtain⟨k,ad,rfl,b,a,g,f,d,m⟩:=hrel;by_cases au:k<s.size+1
  ·have mP:(0:Int)<=(k:Int):=z;have lF:(k:Int)<=(s.size:Int):=z;have oS:(k:Int)<(s.size:Int)+1:=z;obtain⟨x,ab⟩:=b.2.1 k au;have nd:=b.1;have iC:=G b;have jG:=G a;have lN:=G g;have st:=G f;have uX:=G d;have wU:=G m;have t:pb<wr.heap.size:=aiv f;cases x;clear f d m b a g;exact acD
   ·clear d m b a g
    go_wp2;clear ab nd f;go_loopw [12] (fun i r=>∃n:Nat,n<=201/\i=.int .i64 n/\oy r q (s.size+1)/\oy r l (s.size+1)/\Below q w r/\r.cell? ⟨pb,po,none⟩=some (.int .i64 cl)/\r.cell? ⟨pb,po+1,none⟩=some (.int .i64 1)/\r.cell? ⟨pb,po+2,none⟩=some (.int .i64 200)) (fun i _=>201-(RowKit.intOf i).toNat);case atStart=>exact⟨0,dx _,rfl,iC.out,jG.out,lN.out,st.out,uX.out,wU.out⟩
    case round=>
     clear iC jG lN st uX wU t;obtain⟨n,ax,rfl,b,a,g,f,d,m⟩:=hrel;have t:pb<wr.heap.size:=aiv f;have iC:=G b;have jG:=G a;have lN:=G g;have st:=G f;have uX:=G d;have wU:=G m;have gp:(0:Int)<=(n:Int):=z;have iI:(n:Int)<=201:=z;by_cases aC:n<=200
     ·have nU:(n:Int)<=200:=z;by_cases nQ:k+n<=s.size
      ·have PL:(k:Int)+(n:Int)<=(s.size:Int):=z;rcases Ru n with rfl|pj
       ·clear d b a g
        go_wp2;go_quiet (fail);have o:Below wr wr (wr.drewN nq):=LI (br _ _) _;have M:(wr.drewN nq).cell? ⟨pb,po+1,none⟩=some (.int .i64 1):=uX.out;have rp:pb<(wr.drewN nq).heap.size:=t
        go_wp2;go_roundw;case rel=>first|exact⟨1,z,bG,iC.out.K o,jG.out.K o,LI lN.out _,st.out,uX.out,wU.out⟩|((repeat apply Exists.intro);refine⟨?_,rfl⟩;exact⟨1,z,bG,iC.out.K o,jG.out.K o,below_drewN lN.out _,st.out,uX.out,wU.out⟩)
        case measure=>simp[RowKit.intOf]
       ·have ap:0<(n:Int):=z;have ah:(0:Int)<=(k:Int)+(n:Int)-1:=z;have ai:(1:Int)<=(k:Int)+(n:Int):=z;have aj:(k:Int)+(n:Int)-1<(s.size:Int):=z;have ak:(1:Int)<=(n:Int):=z;have al:(k:Int)+(n:Int)<(s.size:Int)+1:=z;have an:((k:Int)+(n:Int)-1).toNat=k+n-1:=z;have ge:((k:Int)+(n:Int)).toNat=k+n:=z;have af:k+n-1<s.size:=z;have s6:IntKind.i64.wrap ((k:Int)+(n:Int))=(k:Int)+(n:Int):=pw _ ⟨z,z⟩;have ao:IntKind.i64.wrap ((k:Int)+(n:Int)-1)=(k:Int)+(n:Int)-1:=pw _ ⟨z,z⟩;have oM:=(s[k+n-1]).toNat_lt;have oA:=G (dh.out _ oM);obtain⟨y,R⟩:=a.2.1 (k+n) z;have Q:=a.2.2 (k+n);have V:=G R;have X:=G Q;have Z:=a.1;clear d b a g R Q
        go_wp2;go_quiet (first|(go_at_call 456;exact Calls.quiet_of_same (oA.out _)));generalize F9 _ _=Vd;have o:Below wr wr (wr.drewN nq):=LI (br _ _) _;have M:(wr.drewN nq).cell? ⟨pb,po+1,none⟩=some (.int .i64 1):=uX.out;have rp:pb<(wr.drewN nq).heap.size:=t;have nN:l<(wr.drewN nq).heap.size:=Z;have I:=G (iC.out.K o);have C:=G (jG.out.K o);have D:=G (LI lN.out nq);have E:Hid ((wr.drewN nq).cell? ⟨pb,po,none⟩=some (.int .i64 cl)):=G st.out;have F:Hid ((wr.drewN nq).cell? ⟨pb,po+2,none⟩=some (.int .i64 200)):=G wU.out;have dl:(wr.drewN nq).cell? ⟨l,k+n,none⟩=some (.bool y):=V.out;have cy:(wr.drewN nq).frozen? ⟨l,k+n,none⟩=false:=X.out;clear iC jG lN st uX wU o V X t Z;generalize wr.drewN nq=J at*;have H:=G M;cases Vd
        ·go_wp2;go_roundw;case rel=>first|exact⟨k+1,z,bG,I.out,C.out,D.out,E.out,H.out,F.out⟩|((repeat apply Exists.intro);refine⟨?_,rfl⟩;exact⟨k+1,z,bG,I.out,C.out,D.out,E.out,H.out,F.out⟩)
         case measure=>simp[RowKit.intOf];omega
        ·have O:=G (I.out.aIp l (k+n) (h8 bT) (.bool true));have P:=G (C.out.set (k+n) z true);have Y:=G (D.out.setCell (p:=⟨l,k+n,none⟩) TQ (.bool true));have S:=G ((uG J ⟨l,k+n,none⟩ ⟨pb,po,none⟩ (.bool true) (h8 L)).trans E.out);have T:=G ((uG J ⟨l,k+n,none⟩ ⟨pb,po+1,none⟩ (.bool true) (h8 L)).trans H.out);have U:=G ((uG J ⟨l,k+n,none⟩ ⟨pb,po+2,none⟩ (.bool true) (h8 L)).trans F.out)
         go_wp2;clear dl cy M;go_roundw;case rel=>first|exact⟨n+1,z,bG,O.out,P.out,Y.out,S.out,T.out,U.out⟩|((repeat apply Exists.intro);refine⟨?_,rfl⟩;exact⟨n+1,z,bG,O.out,P.out,Y.out,S.out,T.out,U.out⟩)
         case measure=>simp[RowKit.intOf];omega
      have PL:¬(k:Int)+(n:Int)<=(s.size:Int):=z;clear f d b a g;exact acD
     have nU:¬(n:Int)<=200:=z;clear f d b a g;exact acD
  ·have oS:¬(k:Int)<=(s.size:Int):=z;clear f d m
   go_wp2;rw[py]
   go_wp2;go_ret;exact⟨⟨_,rfl,a⟩,K▸g⟩
end Go.bS
namespace Go.bh.N
open Go Go.Proofs.Tryz Go.cv Go.Proofs Go.da Go.aJ
def BU:O:=.slice 20 0 1 3 none
def nF:l8:=[(13,.aE 9 [.str [99,111,100,101],.str [112,114,105,99,101],.str [110,97,109,101]]),(16,.aE 42 [.int .i64 (.ofNat 1),.str [65],.int .i64 (.ofNat 0),.int .i64 (.ofNat 0),.int .i64 (.ofNat 0),.dH,.dH,.int .i64 (.ofNat 2),.str [],.int .i64 (.ofNat 25),.int .i64 (.ofNat 1),.int .i64 (.ofNat 0),.dH,.dH,.int .i64 (.ofNat 1),.str [97,112,112,108,101],.int .i64 (.ofNat 0),.int .i64 (.ofNat 0),.int .i64 (.ofNat 0),.dH,.dH]),(17,.aE 42 [.int .i64 (.ofNat 1),.str [66],.int .i64 (.ofNat 0),.int .i64 (.ofNat 0),.int .i64 (.ofNat 0),.dH,.dH,.int .i64 (.ofNat 2),.str [],.int .i64 (.ofNat 3),.int .i64 (.ofNat 0),.int .i64 (.ofNat 0),.dH,.dH,.int .i64 (.ofNat 1),.str [98,114,101,97,100],.int .i64 (.ofNat 0),.int .i64 (.ofNat 0),.int .i64 (.ofNat 0),.dH,.dH]),(18,.aE 36 [.slice 16 0 3 7 none,.slice 17 0 3 7 none]),(20,.aE 106 [.str [112,114,105,99,101,115],.slice 13 0 3 1 none,.slice 18 0 2 1 none])]
def mp:cU:=⟨⟨#[116,101,120,116,115]⟩,1,[(⟨#[97]⟩,1),(⟨#[98]⟩,1)],[(⟨#[84]⟩,1),(⟨#[85]⟩,1)],[⟨0,⟨#[99,111,108]⟩,⟨#[97]⟩,[]⟩,⟨0,⟨#[99,111,108]⟩,⟨#[98]⟩,[]⟩,⟨0,⟨#[99,111,110,99,97,116]⟩,⟨#[]⟩,[1,0]⟩,⟨0,⟨#[117,112,112,101,114]⟩,⟨#[]⟩,[1]⟩,⟨1,⟨#[99,111,108]⟩,⟨#[97]⟩,[]⟩,⟨1,⟨#[116,101,120,116]⟩,⟨#[45]⟩,[]⟩,⟨1,⟨#[101,120,116,114,97,99,116]⟩,⟨#[92,100,43,35,49]⟩,[1]⟩],0,[[0,2,2,6,10,22],[0,2,2,2,2,2]]⟩
def mq:cU:=⟨⟨#[110,117,109,98,101,114,115]⟩,1,[(⟨#[110]⟩,2),(⟨#[109]⟩,2)],[(⟨#[78]⟩,2),(⟨#[77]⟩,2)],[⟨0,⟨#[99,111,108]⟩,⟨#[110]⟩,[]⟩,⟨0,⟨#[99,111,108]⟩,⟨#[109]⟩,[]⟩,⟨0,⟨#[97,100,100]⟩,⟨#[]⟩,[1,0]⟩,⟨0,⟨#[109,117,108]⟩,⟨#[]⟩,[0,1]⟩,⟨1,⟨#[110,117,109,98,101,114]⟩,⟨#[50]⟩,[]⟩,⟨1,⟨#[99,111,108]⟩,⟨#[109]⟩,[]⟩,⟨1,⟨#[114,111,117,110,100]⟩,⟨#[49]⟩,[1]⟩],0,[[0,2,0,8,8,40],[0,2,2,2,2,2]]⟩
def l3:cU:=⟨⟨#[100,97,116,101,115]⟩,1,[(⟨#[100]⟩,3),(⟨#[101]⟩,3),(⟨#[110]⟩,2)],[(⟨#[68]⟩,3),(⟨#[78]⟩,2),(⟨#[69]⟩,3)],[⟨0,⟨#[99,111,108]⟩,⟨#[100]⟩,[]⟩,⟨0,⟨#[100,97,121,115]⟩,⟨#[]⟩,[0,1]⟩,⟨1,⟨#[99,111,108]⟩,⟨#[110]⟩,[]⟩,⟨1,⟨#[110,117,109,98,101,114]⟩,⟨#[55]⟩,[]⟩,⟨1,⟨#[98,101,116,119,101,101,110]⟩,⟨#[]⟩,[2,2]⟩,⟨2,⟨#[99,111,108]⟩,⟨#[100]⟩,[]⟩,⟨2,⟨#[99,111,108]⟩,⟨#[101]⟩,[]⟩],0,[[0,1,0,2,0,8],[0,2,0,4,0,0],[0,2,0,0,0,0]]⟩
def n0:cU:=⟨⟨#[108,111,111,107,117,112,115]⟩,1,[(⟨#[99,111,100,101]⟩,1),(⟨#[110]⟩,2)],[(⟨#[78]⟩,2),(⟨#[84]⟩,1)],[⟨0,⟨#[108,111,111,107,117,112]⟩,⟨#[112,114,105,99,101,115,46,99,111,100,101,46,112,114,105,99,101,58,110,117,109,98,101,114]⟩,[1]⟩,⟨0,⟨#[99,111,108]⟩,⟨#[110]⟩,[]⟩,⟨0,⟨#[109,117,108]⟩,⟨#[]⟩,[0,0]⟩,⟨1,⟨#[99,111,108]⟩,⟨#[99,111,100,101]⟩,[]⟩,⟨1,⟨#[117,112,112,101,114]⟩,⟨#[]⟩,[1]⟩,⟨1,⟨#[116,101,120,116]⟩,⟨#[65]⟩,[]⟩],0,[[0,1,2,3,6,12],[0,2,2,2,2,2]]⟩
def k0:cU:=⟨⟨#[99,104,111,105,99,101,115]⟩,1,[(⟨#[115]⟩,1),(⟨#[110]⟩,2)],[(⟨#[84]⟩,1),(⟨#[66]⟩,4),(⟨#[78]⟩,2),(⟨#[67]⟩,1)],[⟨0,⟨#[99,111,108]⟩,⟨#[115]⟩,[]⟩,⟨0,⟨#[116,101,120,116]⟩,⟨#[108,111,119]⟩,[]⟩,⟨0,⟨#[105,102]⟩,⟨#[116,101,120,116]⟩,[1,3,0]⟩,⟨1,⟨#[108,101,115,115]⟩,⟨#[]⟩,[2,2]⟩,⟨1,⟨#[109,97,116,99,104]⟩,⟨#[92,117,43]⟩,[3]⟩,⟨2,⟨#[99,111,108]⟩,⟨#[110]⟩,[]⟩,⟨2,⟨#[110,117,109,98,101,114]⟩,⟨#[49,48]⟩,[]⟩,⟨3,⟨#[99,111,108]⟩,⟨#[115]⟩,[]⟩,⟨3,⟨#[116,101,120,116]⟩,⟨#[104,105,103,104]⟩,[]⟩],0,[[0,2,0,0,0,8],[0,0,2,4,0,0],[0,2,0,0,0,0],[0,2,0,0,0,0]]⟩
def mR:cU:=⟨⟨#[116,97,98,108,101,115]⟩,1,[(⟨#[105,116,101,109,115]⟩,5),(⟨#[107]⟩,1)],[(⟨#[78]⟩,2),(⟨#[88]⟩,5),(⟨#[84]⟩,1)],[⟨0,⟨#[115,117,109]⟩,⟨#[97,109,111,117,110,116,62,61,48]⟩,[1]⟩,⟨0,⟨#[99,111,117,110,116]⟩,⟨#[]⟩,[1]⟩,⟨0,⟨#[97,100,100]⟩,⟨#[]⟩,[0,0]⟩,⟨1,⟨#[99,111,108]⟩,⟨#[105,116,101,109,115]⟩,[]⟩,⟨1,⟨#[119,104,101,114,101]⟩,⟨#[107,105,110,100]⟩,[1,2]⟩,⟨2,⟨#[99,111,108]⟩,⟨#[107]⟩,[]⟩,⟨2,⟨#[116,101,120,116]⟩,⟨#[97]⟩,[]⟩],0,[[0,0,2,0,4,4],[0,1,0,2,0,4],[0,2,0,0,0,0]]⟩
def aq4(b:Nat)(r:bA):Bool:=Nat.blt r.h b&&Nat.ble r.args.length 3&&r.args.all (fun a=>Nat.blt a b)&&Nat.ble r.op.size 60&&Nat.ble r.aG.size 60
def arH(S:cU):Bool:=Nat.ble S.nm.size 60&&Nat.ble S.db 1000000000&&Nat.blt 0 S.bw.length&&Nat.ble S.bw.length 8&&S.bw.all (fun c=>Nat.ble c.1.size 60)&&Nat.blt 0 S.aD.length&&Nat.ble S.aD.length 12&&S.aD.all (fun c=>Nat.ble c.1.size 60)&&Nat.ble S.df.length 40&&Nat.blt S.al S.aD.length&&acN S.bI S.df&&S.df.all (aq4 S.aD.length)
theorem Lj{S:cU}(h:arH S=true):qZ S:=by
 simp only[arH,dQ]at h;obtain⟨⟨⟨⟨⟨⟨⟨⟨⟨⟨⟨H,I⟩,l⟩,g⟩,o⟩,x⟩,w⟩,y⟩,e⟩,d⟩,f⟩,z⟩:=h;have k:∀n,n<=60->n<=maxLen:=fun n m=>cO m ak;refine⟨k _ (by simpa using H),by simpa using I,by simpa using l,by simpa using g,fun c b=>k _ (by simpa using h6.1 o c b),by simpa using x,by simpa using w,fun c b=>k _ (by simpa using h6.1 y c b),by simpa using e,by simpa using d,aE1 f,fun r j=>?_⟩;have:=h6.1 z r j;simp only[aq4,dQ]at this;obtain⟨⟨⟨⟨i,q⟩,s⟩,u⟩,t⟩:=this;exact⟨by simpa using i,by simpa using q,fun a aH=>by simpa using h6.1 s a aH,k _ (by simpa using u),k _ (by simpa using t)⟩
def cA(n:Nat):cU:=if n=0 then mp else if n=1 then mq else if n=2 then l3 else if n=3 then n0 else if n=4 then k0 else mR
theorem aIT:qZ mp:=Lj av
theorem aIU:qZ mq:=Lj av
theorem aIV:qZ l3:=Lj av
theorem aIW:qZ n0:=Lj av
theorem aIX:qZ k0:=Lj av
theorem aIY:qZ mR:=Lj av
theorem Qz(n:Nat):qZ (cA n):=by
 unfold cA;split;exact aIT
 split;exact aIU
 split;exact aIV
 split;exact aIW
 split;exact aIX;exact aIY
def pa(s:ByteArray):O:=.str (s.data.toList.map UInt8.toNat)
def rV:List (ByteArray×Nat)->List O
 |[]=>[]
 |c::l=>pa c.1::.int .i64 (.ofNat c.2)::rV l
def amW:O->Bool
 |.int .i64 _=>true
 |_=>false
def abT(h:aw):O->Bool
 |.dH=>true
 |.slice b 0 l 1 _=>Nat.ble l 100&&(match h.cR b with|some (.cells _ vs _ _)=>Nat.ble l vs.length&&(vs.take l).all amW|_=>false)
 |_=>false
def asi(l:l8)(x:Option (O×aw)):Bool:=match x with
 |some (.tup [a,.int .i64 _,.int .i64 _],h)=>rY h l&&abT h a
 |_=>false
def wJ(S:cU):l8:=nF++[(21,.aE 136 (rV S.bw))]
noncomputable def ael(S:cU)(r:bA):Option (O×aw):=(iF prog j8 jO.find 300).call 107 [pa r.op,pa r.aG,BU,.slice 21 0 S.bw.length 2 none] (hl ⟨.e,22⟩ (wJ S))
noncomputable def Be(S:cU):Bool:=S.df.all fun r=>asi (wJ S) (ael S r)
def aid(x:Option (O×aw)):Bool:=match x with
 |some (v,h)=>O.beq v BU&&Nat.beq h.nx 21&&Lc h nF
 |none=>false
theorem aKw:Be mp=true:=av
theorem awF:aid ((iF prog j8 jO.find 300).call 18 [.dH] (hl ⟨.e,13⟩ []))=true:=av
end Go.bh.N
namespace Go.bh.N
open Go Go.cv Go.Proofs Go.da Go.aJ
theorem aKx:Be mq=true:=av
theorem aKy:Be l3=true:=av
theorem aKz:Be n0=true:=av
theorem aKA:Be k0=true:=av
theorem aKB:Be mR=true:=av
end Go.bh.N
namespace Go.bh.N
open Go Go.Proofs.Tryz Go.cv Go.Proofs Go.RowKit Go.da Go.aJ
def nZ:b6:=fun g=>if g<13 then some ⟨g,0,0⟩else none
theorem HC(l:Nat->Option Loop)(af:Nat->Nat×Nat)(t:Nat->Array Value):∃ρ:cd,ρ.pY=l/\ρ.bb=af/\ρ.Bc=t:=⟨⟨fun _=>undef,l,af,t⟩,rfl,rfl,rfl⟩
theorem aLh(n:Nat):Be (cA n)=true:=by
 unfold cA;split;exact aKw
 split;exact aKx
 split;exact aKy
 split;exact aKz
 split;exact aKA;exact aKB
def lM(w:World)(v:Value):Prop:=∃(ρ:cd) (σ:b6) (h:aw),ρ.pY=ni prog/\kA prog σ/\cZ ρ σ h w/\h.nx=21/\Lc h nF=true/\aN ρ σ BU=some v
variable{w:World}
theorem lM.K{w':World}{v:Value}(h:lM w v)(A:β w w'):lM w' v:=by
 obtain⟨ρ,σ,h,H,I,b,a⟩:=h;exact⟨ρ,σ,h,H,I,b.K A,a⟩
theorem BY(ρ:cd)(σ:b6)(s:ByteArray):aN ρ σ (pa s)=some (.string s):=by
 have H:(s.data.toList.map UInt8.toNat).all (fun n=>decide (n<256))=true:=by simp only[h6,nv,decide_eq_true_eq];rintro x ⟨c,_,rfl⟩;exact Rw c
 have I:eU (s.data.toList.map UInt8.toNat)=s:=by
  cases s with
  |mk d=>
   simp only[eU,LU];have:(UInt8.ofNat∘UInt8.toNat)=id:=by funext x;simp
   simp[this]
 simp only[pa,aN];rw[co H,I]
def w1:List (ByteArray×Nat)->List Value
 |[]=>[]
 |c::l=>.string c.1::.int .i64 c.2::w1 l
theorem aiN(ρ:cd)(σ:b6):∀cs,bY ρ σ (rV cs)=some (w1 cs)
 |[]=>by simp[rV,w1,bY]
 |c::l=>by simp[rV,w1,bY,BY,aN,aiN ρ σ l]
theorem aiK{arr:Array Value}:∀(cs:List (ByteArray×Nat)) (o:Nat),(∀i (hi:i<cs.length),arr[o+i*2]? =some (.string cs[i].1)/\arr[o+i*2+1]? =some (.int .i64 cs[i].2))->∀i,i<(w1 cs).length->arr[o+i]? =(w1 cs)[i]?
 |[],o,h,i,hi=>by simp[w1]at hi
 |c::l,o,h,i,hi=>by
  match i with
  |0=>have ae:=(h 0 (C0 _)).1;simp only[uL,h7]at ae⊢;exact ae
  |1=>have ae:=(h 0 (C0 _)).2;simp only[uL,h7]at ae⊢;exact ae
  |i+2=>
   have b:=aiK l (o+2) (fun j a=>by
    have:=h (j+1) (by simpa using a)
    simp only[IA]at this
    rw[show o+2+j*2=o+(j+1)*2 by omega]
    exact this) i (by simp[w1]at hi;omega)
   rw[show o+(i+2)=o+2+i by omega,b]
   simp[w1]
theorem aiJ:∀cs,(rV cs).length=(w1 cs).length
 |[]=>rfl
 |c::l=>by simp[rV,w1,aiJ l]
def avI(e:Ending)(w':World):Prop:=∃a iD ac k b,e=.returned (.tuple #[.slice a iD ac,.int .i64 k,.int .i64 b])/\Di w' a iD
theorem aCV{ρ:cd}{σ:b6}{h:aw}{a:O}{c:Value}(hi:abT h a=true)(y:cZ ρ σ h w)(d:aN ρ σ a=some c):∃g iD ac,c=.slice g iD ac/\Di w g iD:=by
 unfold abT at hi;split at hi;simp only[aN,cq]at d;subst d;exact⟨none,0,0,rfl,z,fun h=>z⟩
 ·rename_i b l cap;simp only[aN,iz]at d;obtain⟨p,ag,rfl⟩:=d;simp only[dQ]at hi;obtain⟨H,I⟩:=hi;have H:l<=100:=by simpa using H
  split at I
  ·rename_i e vs t wr A;simp only[dQ]at I;obtain⟨I,s⟩:=I;have I:l<=vs.length:=by simpa using I
   obtain⟨q,arr,bb,cs,o,r,D,E,F,B,C,_⟩:=y.cells A;obtain rfl:p=q:=gQ (ag.symm.trans o);refine⟨_,_,_,rfl,z,fun _=>⟨p.aY,p.del+0,rfl,(g6.1 r).1,fun i hi=>?_⟩⟩;have au:i<vs.length:=z;have J:amW vs[i]=true:=h6.1 s _ (by
    rw[Ft]
    exact⟨i,by rw[oZ,co hi];simp[au]⟩)
   obtain⟨x,m,f⟩:=Ac B (i:=i) (v:=vs[i]) (by simp[au]);have j:=C i au;rw[m]at j;generalize vs[i]=u at J f;cases u with
   |int k n=>
    cases k with
    |i64=>simp only[aN,cq]at f;subst f;exact⟨n,by rw[h7];exact j⟩
    |_=>cases J
   |_=>cases J
  cases I
 cases hi
theorem ajN:j8 107=none:=av
theorem ayV:j8 18=none:=av
theorem ayT:j8 13=none:=av
theorem HH:pu nF=true:=av
def aFe(l:l8):Bool:=l.all fun p=>match p.2 with|.aE e _=> !(Nat.beq e 136)|_=>false
theorem aFf:aFe nF=true:=av
theorem arC{a b:l8}(H:pu a=true)(I:pu b=true):pu (a++b)=true:=by
 simp only[pu,List.all_append,dQ];exact⟨H,I⟩
theorem aLi(S:cU)(L:Be S=true)(r:bA)(B:r∈S.df)(w:World)(bv:Value)(ca:Option Addr)(cc:Nat)(E:lM w bv)(G:jd w ca S.bw): χ 107 #[.string r.op,.string r.aG,bv,.slice ca S.bw.length cc] w avI:=by
 obtain⟨ρ,σ,h,M,an,bK,W,q',Kf⟩:=E;obtain⟨dr,o,arr,bb,rfl,mg,Q⟩:=G;have lZ:∀b,21<=b->σ b=none:=fun b A=>bK.j9 b z;have D:∀b p,σ b=some p->b≠21:=fun b p A e=>by rw[e,lZ 21 z]at A;cases A
 obtain⟨kk,AS⟩:∃kk:b6,kk=fun b=>if b=21 then some ⟨dr,o,2*cc⟩else σ b:=⟨_,rfl⟩
 have V:mw σ kk:=fun b p A=>by rw[AS];simp only;rw[bs (D b p A)];exact A
 have Oa:kk 21=some ⟨dr,o,2*cc⟩:=by rw[AS];simp
 have kv:pu (wJ S)=true:=arC HH (by simp[pu,eB]);have m:Dw (wJ S)=true:=by exact aoV
 have base:∀b x,(b,x)∈nF->∃p e vs,x=.aE e vs/\σ b=some p/\e≠136/\(∃arr bb,w.heap[p.aY]? =some (.cells arr e bb))/\kn (ρ.at w) σ p w.heap[p.aY]? (.aE e vs):=fun b x ap=>by exact aoG
 have mo:∀b x,(hl ⟨.e,22⟩ (wJ S)).cR b=some x->(b,x)∈nF∨(b=21/\x=.aE 136 (rV S.bw)):=fun b x A=>by exact aoz
 have aaE:m7 w dr=arr:=by simp[m7,mg]
 have vx:qq w dr=bb:=by simp[qq,mg]
 have s:cZ (ρ.at w) kk (hl ⟨.e,22⟩ (wJ S)) w:=by exact aoC
 have T:kA prog kk:=fun g R=>by obtain⟨n,C⟩:=an g R;exact⟨n,V _ _ C⟩
 have N:bY (ρ.at w) kk [pa r.op,pa r.aG,BU,.slice 21 0 S.bw.length 2 none]=some [.string r.op,.string r.aG,bv,.slice (some ⟨dr,o,none⟩) S.bw.length cc]:=by exact anO
 have d:=h6.1 L r B;unfold asi at d;split at d
 ·rename_i a k P U O;simp only[dQ]at d;refine(A7 follows (ρ:=ρ.at w) M (kP.q4 td) tO ajN T N kv m s O d.1).mono ?_;rintro e w' ⟨c,F,rfl,j⟩;refine⟨?_,j.b⟩;have J:=j.v;simp only[aN,iz]at J;obtain⟨x,f,rfl⟩:=J;simp only[bY]at f;cases l:aN (ρ.at w) F a with
  |none=>rw[l]at f;simp at f
  |some y=>rw[l]at f;simp only[aN,cq]at f;subst f;obtain⟨u,iD,ac,rfl,K⟩:=aCV d.2 j.h l;exact⟨u,iD,ac,k,P,rfl,K⟩
 ·cases d
theorem aie(w:World)(s:13<=w.heap.size):χ 18 #[.slice none 0 0] w fun e w'=>(∃v,e=.returned v/\lM w' v):=by
 obtain⟨ρ,f,_⟩:=HC (ni prog) (fun _=>(0,0)) (fun _=>#[]);have an:kA prog nZ:=fun g an=>⟨0,by
  have:prog.globals.size=13:=av
  rw[this]at an
  simp[nZ,an]⟩
 have m:cZ ρ nZ (hl ⟨.e,13⟩ []) w:=by exact acm
 have a:=awF;unfold aid at a;split at a;rename_i v o i;simp only[dQ]at a;obtain⟨⟨H,I⟩,j⟩:=a;have H:=O.beq_eq H;subst H;refine(A7 follows (ρ:=ρ) f (kP.q4 td) tO ayV an (args:=[.dH]) (cs:=[.slice none 0 0]) rfl (l:=[]) rfl rfl m i rfl).mono ?_;rintro e w' ⟨c,q,rfl,d⟩;exact⟨⟨c,rfl,ρ,q,o,f,fun g r=>by obtain⟨n,k⟩:=an g r;exact⟨n,d.ext _ _ k⟩,d.h,gx I,j,d.v⟩,d.b⟩;cases a
end Go.bh.N
namespace Go.bS
open Go Go.Proofs.Tryz Go.cv Go.Proofs Go.RowKit Go.aJ
open Go.bh.N (nZ HC)
theorem aka:prog.globals.size=13:=av
theorem aHK(w:World)(b o tot t:Nat)(arr:Array Value)(bb:Nat×Nat)(j:w.heap[b]? =some (.cells arr t bb))(vs:List O)(e:List Value)(l:∀ρ σ,bY ρ σ vs=some e)(s:pu [(13,eC.aE t vs)]=true)(B:∀i,i<vs.length->arr[o+i]? =e[i]?):∃(ρ:cd) (σ:b6),ρ.pY=ni prog/\kA prog σ/\cZ ρ σ (hl ⟨.e,14⟩ [(13,eC.aE t vs)]) w/\σ 13=some ⟨b,o,tot⟩:=by
 obtain⟨m,r,_⟩:=HC (ni prog) (fun _=>(0,0)) (fun _=>#[]);obtain⟨c,d⟩:∃c:b6,c=fun x=>if x=13 then some ⟨b,o,tot⟩else nZ x:=⟨_,rfl⟩
 have f:c 13=some ⟨b,o,tot⟩:=by rw[d];simp
 have mo:∀x y,(hl ⟨.e,14⟩ [(13,eC.aE t vs)]).cR x=some y->x=13/\y=.aE t vs:=fun x y a=>by have H:=A2 s a;simp only[o0,iA]at H;exact H
 refine⟨m.at w,c,r,fun g k=>⟨0,by rw[aka]at k;rw[d];simp only;rw[bs z];simp[nZ,k]⟩,⟨fun x y a=>?_,fun x q y A p C a u ag D n=>?_,fun x a=>?_⟩,f⟩;obtain⟨rfl,rfl⟩:=mo x y a;refine⟨_,f,e,l _ _,?_,fun i hi=>?_⟩;show w.heap[b]? =some (Obj.cells (m7 w b) t (qq w b));simp[m7,qq,j];show(m7 w b)[o+i]? =_;simp only[m7,j];exact B i hi;obtain⟨rfl,_⟩:=mo x y a;obtain⟨rfl,_⟩:=mo q A u;exact absurd rfl n;rw[HA]at a;have a:14<=x:=a;rw[d];simp only;rw[bs z];unfold nZ;rw[bs z]
def ED(cl:Nat):List O:=[.int .i64 (.ofNat cl),.int .i64 (.ofNat 1),.int .i64 (.ofNat 200),.str []]
def Sz(l:l8)(x:Option (O×aw)):Bool:=match x with
 |some (.bool _,h)=>rY h l
 |_=>false
theorem ayY:j8 463=none:=av
theorem aHh:Sz [(13,.aE 298 (ED 1))] ((iF prog j8 jO.find 300).call 463 [.slice 13 0 1 4 none] (hl ⟨.e,14⟩ [(13,.aE 298 (ED 1))]))=true:=av
theorem aHi:Sz [(13,.aE 298 (ED 2))] ((iF prog j8 jO.find 300).call 463 [.slice 13 0 1 4 none] (hl ⟨.e,14⟩ [(13,.aE 298 (ED 2))]))=true:=av
theorem aqT(n:Nat)(a:Sz [(13,.aE 298 (ED n))] ((iF prog j8 jO.find 300).call 463 [.slice 13 0 1 4 none] (hl ⟨.e,14⟩ [(13,.aE 298 (ED n))]))=true)(w:World)(aG:Option Addr)(d:Nat)(ag:pE w aG (n:Int)): χ 463 #[.slice aG 1 d] w fun e w'=>Mf e:=by
 obtain⟨b,o,arr,bb,rfl,p,ae,H,I,h⟩:=ag;obtain⟨ρ,σ,k,an,j,g⟩:=aHK w b o (4*d) 298 arr bb p (ED n) [n,.int .i64 1,.int .i64 200,.string ⟨#[]⟩] (fun ρ σ=>by simp[ED,bY,aN,eU]) (by simp[pu,eB]) (fun i hi=>by
  have hi:i<4:=hi
  match i with
  |0=>exact ae
  |1=>exact H
  |2=>exact I
  |3=>exact h)
 have l:bY ρ σ [.slice 13 0 1 4 none]=some [.slice (some ⟨b,o,none⟩) 1 d]:=by simp only[bY,aN,g,n6,jv];simp
 unfold Sz at a;split at a;rename_i r q m;refine(A7 follows (ρ:=ρ) k (kP.q4 td) tO ayY an l (by simp[pu,eB]) (by simp[Dw,eC.Us]) j m a).mono ?_;rintro e w' ⟨c,s,rfl,f⟩;have J:=f.v;simp only[aN,cq]at J;exact⟨⟨_,by rw[←J]⟩,f.b⟩;cases a
theorem aqS(cl:Int)(b:cl=1∨cl=2)(w:World)(aG:Option Addr)(a:Nat)(ag:pE w aG cl): χ 463 #[.slice aG 1 a] w fun e w'=>Mf e:=by
 rcases b with rfl|rfl;exact aqT 1 aHh w aG a ag;exact aqT 2 aHi w aG a ag
end Go.bS
namespace Go.bS
open Go Go.Proofs.Tryz Go.Proofs Go.RowKit Go.Lib Go.aJ
def Md(m:Nat)(aP:List Value):Prop:=0<aP.length->∃(x y:Nat) (l:List Value),aP=.int .i64 x::.int .i64 y::l/\x<=y/\y<=m
theorem Md.push{m x y:Nat}{aP:List Value}(h:Md m aP)(c:x<=y)(d:y<=m):Md m (aP++[.int .i64 x,.int .i64 y]):=fun _=>by
 by_cases ae:0<aP.length
 ·obtain⟨a,b,l,rfl,H,I⟩:=h ae
  exact⟨a,b,l++[.int .i64 x,.int .i64 y],rfl,H,I⟩
 ·have:aP=[]:=CW z
  subst this
  exact⟨x,y,[],rfl,c,d⟩
def avl(base m:Nat)(e:Ending)(w':World):Prop:=∃v n aP,e=.returned v/\w'.ownsRow base 3 1 v n aP/\Md m aP/\n<=1000
variable{w:World}{e:TypeId}{v:Value}{n:Nat}{aP:List Value}
theorem apP{base:Nat}{size:Nat}(h:w.ownsRow base e size v n aP):∃a c,v=.slice a n c:=by
 rcases h.2 with⟨b,d⟩|⟨i,cap,g,aj,f,_⟩
 rw[d];exact⟨_,_,b⟩;exact⟨_,_,aj⟩
theorem aGg{base:Nat}{size:Nat}(h:w.ownsRow base e size v n aP):∀b,v.ownBlock=some b->base<=b:=fun b A=>by
 rcases h.2 with⟨c,_⟩|⟨i,cap,g,aj,a,d,f⟩
 ·subst c;simp[Value.ownBlock]at A
 ·subst aj;simp[Value.ownBlock]at A;subst A;exact a
theorem aza(s:ByteArray)(E:s.size<=200)(aG:Option Addr)(j:Nat)(cl:Int)(u:cl=1∨cl=2)(w:World)(ag:pE w aG cl): χ 554 #[.slice aG 1 j,s] w (avl w s.size):=by
 obtain⟨kf,Q,O,P,N⟩:=im Uo;have U:=G (aqS cl u w aG j ag);have T:=G fun W=>amY s E W;have hV:=G fun W (S:β w W) fr (lZ:fr<=s.size)=>ajA s E aG j cl u fr lZ W (ag.K S);have gU:(s.size:Int)<=200:=z;clear ag u;go_enter func554,ntmps554
 go_wp2_with (first
  |(go_at_call 463;refine(U.out).mono ?_;rintro e am ⟨⟨Y,rfl⟩,F⟩;have y:=G F;clear F;cases Y)
  |(go_at_call 273;refine(T.out _).mono ?_;rintro e aq ⟨⟨dw,rfl⟩,rfl⟩;cases dw))
 all_goals first
  |(go_ret;exact⟨⟨_,0,[],rfl,mT _ _ _ _,fun h=>absurd h ao,z⟩,y.out⟩)
  |skip
 go_loopw [5,6,7,8] (fun out kC l d wr=>∃(k n:Nat) (aP:List Value),k<=s.size/\kC=.int .i64 k/\n<=2*k/\wr.ownsRow w 3 1 out n aP/\Md s.size aP/\β w wr) (fun _ i _ _ _=>s.size-(RowKit.intOf i).toNat);case atStart=>exact⟨0,0,[],dx _,rfl,z,mT _ _ _ _,fun h=>absurd h ao,y.out⟩
 case round=>
  clear y;obtain⟨k,n,aP,aa,rfl,ax,r,o,A⟩:=hrel;by_cases au:k<s.size
  ·have mP:(k:Int)<s.size:=z;have lF:(0:Int)<=(k:Int):=z;have J:=G r;have c:=G o;have t:=G A;clear r o A
   go_wp2_with (go_at_call 555;refine(hV.out _ t.out k z).mono ?_;rintro e V ⟨⟨g,rfl,I⟩,q⟩);have f:=G (cj t.out q);have a:=G (xA J.out (.hP q));have K:=G I;clear q t J I;go_loopw [8] (fun d X=>∃m:Nat,k<=m/\m<=s.size/\d=.int .i64 m/\X=V) (fun d _=>(RowKit.intOf d).toNat);case atStart=>exact⟨s.size,z,aZ _,rfl,rfl⟩
   case round=>
    obtain⟨m,ae,H,rfl,rfl⟩:=hrel;have gp:(0:Int)<=(m:Int):=z;have iI:(m:Int)<(s.size:Int)+1:=z;have PL:(m:Int)<=200:=z;by_cases q7:k<m
    ·have nU:(k:Int)<m:=z;obtain⟨x,ad⟩:=K.out.2.1 m z;have ab:=K.out.1;have C:(m:Int)-1=((m-1:Nat):Int):=z;cases x
     ·go_wp2;go_roundw;case rel=>first|exact⟨m-1,z,z,by first|rfl|rw[C],by trivial⟩|((repeat apply Exists.intro);refine⟨?_,rfl⟩;exact⟨m-1,z,z,by first|rfl|rw[C],by trivial⟩)
      case measure=>simp[RowKit.intOf];omega
     ·obtain⟨va,Z,rfl⟩:=apP a.out;have ph:=f.out.size
      go_wp2_with (at_builtin;refine ln _ rfl _ _ 22 rfl w 3 kf _ 1 8 oY Q O P N rfl ak (.slice va n Z) n aP rfl (a.out.alloc _) ⟨wr,0,none⟩ 2 2 [.int .i64 k,.int .i64 m] rfl rfl (rA (px wr _)) (by simp[Value.oneCell']) (by unfold maxLen;omega) z bz ?_;intro v5 R M B _;have D:=G M;have L:Hid (β w R):=G ((f.out.alloc ph _).grown B bz (fun b A=>aGg a.out b A));clear M B);go_roundw;case rel=>first|exact⟨m,n+2,_,z,rfl,z,D.out,c.out.push z H,L.out⟩|((repeat apply Exists.intro);refine⟨?_,rfl⟩;exact⟨m,n+2,_,z,rfl,z,D.out,c.out.push z H,L.out⟩)
      case measure=>simp[RowKit.intOf];omega
    ·have nU:¬(k:Int)<m:=z
     go_wp2;go_roundw;case rel=>first|exact⟨k+1,n,aP,z,bG,z,a.out,c.out,f.out⟩|((repeat apply Exists.intro);refine⟨?_,rfl⟩;exact⟨k+1,n,aP,z,bG,z,a.out,c.out,f.out⟩)
     case measure=>simp[RowKit.intOf];omega
  ·have mP:¬(k:Int)<s.size:=z
   go_wp2;go_ret;exact⟨⟨_,n,aP,rfl,r,o,z⟩,A⟩
def avk(m:Nat)(e:Ending):Prop:=∃(x y:Nat) (ok:Bool),e=.returned (.tuple #[.int .i64 x,.int .i64 y,.bool ok])/\(ok=true->x<=y/\y<=m)
theorem ay9(s:ByteArray)(m:s.size<=200)(aG:Option Addr)(c:Nat)(cl:Int)(j:cl=1∨cl=2)(w:World)(ag:pE w aG cl): χ 517 #[.slice aG 1 c,s,.int .i64 1] w fun e w'=>avk s.size e:=by
 have f:=G (aza s m aG c cl j w ag);clear ag j;go_enter func517,ntmps517;go_upto_region 2 with(go_at_call 554;refine(f.out).mono ?_;rintro e E ⟨⟨v,n,aP,rfl,a,d,F⟩,b⟩)
 obtain⟨va,L,rfl⟩:=apP a;have O:(n:Int)<=1000:=z;by_cases I:2<=n
 ·have hd:¬((n/2:Nat):Int)<1:=z;have k:¬(n:Int)/2<1:=z;have J:0<(n:Int):=z;have M:1<(n:Int):=z;rcases a.2 with⟨q,H⟩|⟨g,cap,K,aj,D,i,t⟩
  exfalso;injection q with _ N;omega
  ·injection aj with A _ _
   subst A;have r:0<aP.length:=by have:=a.1;omega
   obtain⟨x,y,l,rfl,B,o⟩:=d r;have bo:=a.cells (g:=g) rfl 0 x rfl;have c1:=a.cells (g:=g) rfl 1 y rfl;rw[Fl]at bo c1;have C:=bF i;have u:=G b;clear a d b i t f;simp only[h7,gP]at bo c1
   go_wp2;go_quiet (fail)
   go_wp2;refine jT (by simp[results,results517,go_sem];rfl) rfl ?_;exact⟨⟨x,y,true,rfl,fun _=>⟨B,o⟩⟩,LI u.out _⟩
 ·have hd:((n/2:Nat):Int)<1:=z;have k:(n:Int)/2<1:=z
  go_wp2;refine jT (by simp[results,results517,go_sem];rfl) rfl ?_;exact⟨⟨0,0,false,rfl,fun h=>by simp at h⟩,b⟩
theorem aEc(s:ByteArray)(j:s.size<=200)(aG:Option Addr)(d:Nat)(cl:Int)(i:cl=1∨cl=2)(w:World)(ag:pE w aG cl): χ 519 #[.slice aG 1 d,s] w fun e w'=>Mf e:=by
 have u:=G (aqS cl i w aG d ag);have l:=G fun W=>amY s j W;have m:Hid (∀W,β w W->χ 555 #[.slice aG 1 d,s,.int .i64 0] W (ahs (s.size+1))):=G fun W t=>ajA s j aG d cl i 0 (dx _) W (ag.K t);have C:(s.size:Int)<(s.size:Int)+1:=z;clear ag i;go_enter func519,ntmps519
 go_wp2_with (first|(go_at_call 463;refine(u.out).mono ?_;rintro e B ⟨⟨A,rfl⟩,k⟩;have b:=G k;clear k;cases A)|(go_at_call 273;refine(l.out _).mono ?_;rintro e r ⟨⟨f,rfl⟩,rfl⟩;cases f)|(go_at_call 555;refine(m.out _ b.out).mono ?_;rintro e y ⟨⟨g,rfl,a⟩,c⟩;obtain⟨x,q⟩:=a.2.1 s.size z;have o:=a.1;have n:=G (cj b.out c);clear c b a))
 all_goals(try go_wp2_with (first|(go_at_call 273;refine(l.out _).mono ?_;rintro e r ⟨⟨f,rfl⟩,rfl⟩;cases f)|(go_at_call 555;refine(m.out _ b.out).mono ?_;rintro e y ⟨⟨g,rfl,a⟩,c⟩;obtain⟨x,q⟩:=a.2.1 s.size z;have o:=a.1;have n:=Lib.hid (cj b.out c);clear c b a)))
 all_goals first
  |(go_ret;exact⟨⟨_,rfl⟩,b.out⟩)
  |(go_ret;exact⟨⟨_,rfl⟩,n.out⟩)
variable{s:ByteArray}
theorem kp.append{t:ByteArray}(b:kp s)(ai:kp t)(h:s.size+t.size<=200):kp (s++t):=by
 have:(s++t)=⟨(s.data.toList++t.data.toList).toArray⟩:=by apply Ly;apply xT;simp
 rw[this];refine rN.CJ (fun c a=>?_) (by rw[ia];show s.data.toList.length+t.data.toList.length<=200;rw[jC,jC];exact h);rcases lo.1 a with H|H
 exact rN.hP b c H;exact rN.hP ai c H
theorem kp.extract(a:kp s)(x y:Nat):kp (s.extract x y):=by
 have:(s.extract x y)=⟨((s.data.toList.drop x).take (y-x)).toArray⟩:=by apply Ly;apply xT;simp[asO]
 rw[this];have d:s.data.toList.length=s.size:=jC;refine rN.CJ (fun c b=>rN.hP a c (as5 (Rq b))) ?_;rw[nu,qN];have:=a.1;omega
theorem aKh(f:Option Addr)(n g:Nat)(l fn dB ds:Int)(i:Option Addr)(f' j:Nat)(aG:ByteArray)(m:Nat)(bP a:ByteArray)(x:kp bP)(u:kp a)(w:World)(t:Option Addr)(ac:Nat)(h:cz aV (aU aV 1) w t [hG bP,hG a]): χ 474 #[.string ⟨#[99,111,110,99,97,116]⟩,aG,.agg (eV f n g l fn dB ds i f' j),.slice t 2 ac] w (e7 w m):=by
 have P:((⟨#[99,111,110,99,97,116]⟩:ByteArray).toList==(⟨#[99,111,110,99,97,116]⟩:ByteArray).toList)=true:=q0 _;have B:=G fun s W=>VL s W;have J:=x.1;have b4:=u.1;have c:=G (k4.start w (eV f n g l fn dB ds i f' j) 249);obtain⟨b,o,rfl,A,⟨ca,cc,ra,rc,ae⟩,K,L,N,O,H⟩:=Jr h;clear h;go_enter Wa,Wg;go_upto_region 1 with fail
 generalize ((w.alloc (.cells (eV f n g l fn dB ds i f' j) 249)).alloc (.cells fh 42))=E at c⊢;have d:=c.out.b;have M:=cS d A;have c1:=az d A ae.c1;have I:=az d A H.c1;clear ae H;by_cases y:bP.size+a.size<=200
 ·have D:¬200<(bP.size:Int)+(a.size:Int):=z;have cm:=G (x.append u y)
  go_wp2_with (first|(go_at_call 469;refine(B.out _ _).mono ?_;rintro e F ⟨rfl,C⟩;have em:=c.out.K C;obtain⟨g3,di,dL,fN,gt,g4,g9⟩:=eX em.o;obtain⟨z0,cy,dz,z3,z4,z5,eO⟩:=he em.o))
  exact acA
 have D:200<(bP.size:Int)+(a.size:Int):=z;have em:=c.out;exact aoU
theorem aKk(c:Option Addr)(j d:Nat)(i fn dB ds:Int)(f:Option Addr)(f' g:Nat)(aG:ByteArray)(m:Nat)(bP:ByteArray)(C:kp bP)(w:World)(l:Option Addr)(ac:Nat)(h:cz aV (aU aV 1) w l [hG bP]): χ 474 #[.string ⟨#[117,112,112,101,114]⟩,aG,.agg (eV c j d i fn dB ds f f' g),.slice l 1 ac] w (e7 w m):=by
 have E:((⟨#[117,112,112,101,114]⟩:ByteArray).toList==(⟨#[99,111,110,99,97,116]⟩:ByteArray).toList)=false:=fS ak;have V:((⟨#[117,112,112,101,114]⟩:ByteArray).toList==(⟨#[117,112,112,101,114]⟩:ByteArray).toList)=true:=q0 _;have y:=G fun W=>aLo bP C W;have u:=G fun s W=>VL s W;have a:=G (k4.start w (eV c j d i fn dB ds f f' g) 249);obtain⟨b,o,rfl,A,ca,cc,ra,rc,ae⟩:=M8 h;clear h;go_enter Wa,Wg;go_upto_region 1 with fail
 generalize ((w.alloc (.cells (eV c j d i fn dB ds f f' g) 249)).alloc (.cells fh 42))=F at a⊢;have n:=a.out.b;have T:=cS n A;have c1:=az n A ae.c1;clear ae
 go_wp2_with (first|(go_at_call 514;refine(y.out _).mono ?_;rintro e H ⟨⟨U,rfl,t⟩,x⟩;have D:=G (a.out.K x);have cm:=G t;clear t)|(go_at_call 469;refine(u.out _ _).mono ?_;rintro e I ⟨rfl,B⟩;have em:=D.out.K B;obtain⟨P,L,K,O,S,Q,R⟩:=eX em.o;obtain⟨z0,J,M,z3,z4,z5,N⟩:=he em.o))
 exact acA
theorem aKi(g:Option Addr)(n j:Nat)(l fn dB ds:Int)(c:Option Addr)(f' d:Nat)(aG:ByteArray)(m:Nat)(bP:ByteArray)(i:kp bP)(cl:Int)(Q:cl=1∨cl=2)(w:World)(t:Option Addr)(ac:Nat)(h:cz aV (aU aV 1) w t [hG bP])(S:pE w c cl): χ 474 #[.string ⟨#[101,120,116,114,97,99,116]⟩,aG,.agg (eV g n j l 1 dB ds c 1 d),.slice t 1 ac] w (e7 w m):=by
 have V:((⟨#[101,120,116,114,97,99,116]⟩:ByteArray).toList==(⟨#[99,111,110,99,97,116]⟩:ByteArray).toList)=false:=fS ak;have ab:((⟨#[101,120,116,114,97,99,116]⟩:ByteArray).toList==(⟨#[117,112,112,101,114]⟩:ByteArray).toList)=false:=fS ak;have Z:((⟨#[101,120,116,114,97,99,116]⟩:ByteArray).toList==(⟨#[108,111,119,101,114]⟩:ByteArray).toList)=false:=fS ak;have aa:((⟨#[101,120,116,114,97,99,116]⟩:ByteArray).toList==(⟨#[116,114,105,109]⟩:ByteArray).toList)=false:=fS ak;have w8:((⟨#[101,120,116,114,97,99,116]⟩:ByteArray).toList==(⟨#[101,120,116,114,97,99,116]⟩:ByteArray).toList)=true:=q0 _;have E:=G fun W (B:β w W)=>ay9 bP i.1 c d cl Q W (S.K B);have C:=G fun s W=>VL s W;have en:=i.1;have a:=G (k4.start w (eV g n j l 1 dB ds c 1 d) 249);obtain⟨b,o,rfl,A,ca,cc,ra,rc,ae⟩:=M8 h;clear h;go_enter Wa,Wg;go_upto_region 1 with fail
 generalize ((w.alloc (.cells (eV g n j l 1 dB ds c 1 d) 249)).alloc (.cells fh 42))=Y at a⊢;have f:=a.out.b;have iX:=cS f A;have c1:=az f A ae.c1;obtain⟨-,-,hx,-,-,f5⟩:=f_ a.out.g;have U:=bF a.out.g;clear ae;go_upto_region 15 with(first|(go_at_call 517;refine(E.out _ f).mono ?_;rintro e bX ⟨⟨x,y,ok,rfl,T⟩,D⟩;have u:=G (a.out.K D)))
 cases ok
 ·have em:=u.out;obtain⟨N,J,I,M,R,O,P⟩:=eX em.o;obtain⟨z0,H,K,z3,z4,z5,L⟩:=he em.o
  go_wp2;refine ki em.o ?_;exact⟨e7.none _ _ _ 18 ak ak,iJ em.b z _ _ _ _ _ _ _⟩
 ·obtain⟨l1,ud⟩:=T rfl;have hA:(x:Int)<=(y:Int):=z;have gU:(y:Int)<=(bP.size:Int):=z;have kf:(0:Int)<=(x:Int):=z;have cm:=G (i.extract x y)
  go_wp2_with (first|(go_at_call 469;refine(C.out _ _).mono ?_;rintro e bn ⟨rfl,F⟩;have em:=u.out.K F;obtain⟨N,J,I,M,R,O,P⟩:=eX em.o;obtain⟨z0,H,K,z3,z4,z5,L⟩:=he em.o))
  exact acA
theorem aKj(g:Option Addr)(n j:Nat)(l fn dB ds:Int)(c:Option Addr)(f' d:Nat)(aG:ByteArray)(m:Nat)(bP:ByteArray)(D:kp bP)(cl:Int)(E:cl=1∨cl=2)(w:World)(s:Option Addr)(ac:Nat)(h:cz aV (aU aV 1) w s [hG bP])(H:pE w c cl): χ 474 #[.string ⟨#[109,97,116,99,104]⟩,aG,.agg (eV g n j l fn dB ds c 1 d),.slice s 1 ac] w (e7 w m):=by
 have O:((⟨#[109,97,116,99,104]⟩:ByteArray).toList==(⟨#[99,111,110,99,97,116]⟩:ByteArray).toList)=false:=fS ak;have S:((⟨#[109,97,116,99,104]⟩:ByteArray).toList==(⟨#[117,112,112,101,114]⟩:ByteArray).toList)=false:=fS ak;have Q:((⟨#[109,97,116,99,104]⟩:ByteArray).toList==(⟨#[108,111,119,101,114]⟩:ByteArray).toList)=false:=fS ak;have R:((⟨#[109,97,116,99,104]⟩:ByteArray).toList==(⟨#[116,114,105,109]⟩:ByteArray).toList)=false:=fS ak;have K:((⟨#[109,97,116,99,104]⟩:ByteArray).toList==(⟨#[101,120,116,114,97,99,116]⟩:ByteArray).toList)=false:=fS ak;have L:((⟨#[109,97,116,99,104]⟩:ByteArray).toList==(⟨#[108,101,110,103,116,104]⟩:ByteArray).toList)=false:=fS ak;have M:((⟨#[109,97,116,99,104]⟩:ByteArray).toList==(⟨#[112,97,114,115,101]⟩:ByteArray).toList)=false:=fS ak;have N:((⟨#[109,97,116,99,104]⟩:ByteArray).toList==(⟨#[114,101,97,100]⟩:ByteArray).toList)=false:=fS ak;have B:=G fun W (u:β w W)=>aEc bP D.1 c d cl E W (H.K u);have x:=G fun b W=>asg b W;have a:=G (k4.start w (eV g n j l fn dB ds c 1 d) 249);obtain⟨b,o,rfl,A,ca,cc,ra,rc,ae⟩:=M8 h;clear h;go_enter Wa,Wg;go_upto_region 1 with fail
 generalize ((w.alloc (.cells (eV g n j l fn dB ds c 1 d) 249)).alloc (.cells fh 42))=P at a⊢;have f:=a.out.b;have iX:=cS f A;have c1:=az f A ae.c1;have f5:=aK 5 a.out.g;have I:=bF a.out.g;clear ae
 go_wp2_with (first|(go_at_call 519;refine(B.out _ f).mono ?_;rintro e T ⟨⟨er,rfl⟩,y⟩;have F:=G (a.out.K y))|(go_at_call 472;refine(x.out _ _).mono ?_;rintro e U ⟨⟨q,aC,rfl⟩,C⟩;have em:=F.out.K C;obtain⟨g3,Z,Y,fN,gt,g4,g9⟩:=eX em.o;obtain⟨z0,V,dz,z3,z4,z5,eO⟩:=he em.o))
 exact an8
theorem aFn(j:Option Addr)(y l:Nat)(x fn dB ds:Int)(t:Option Addr)(f' u:Nat)(aG:ByteArray)(m:Nat)(d i:Int)(f:Nat)(D:0<=d/\d<=3652058)(F:hn i f)(w:World)(C:Option Addr)(ac:Nat)(h:cz aV (aU aV 1) w C [kq d,gD i f]): χ 476 #[.string ⟨#[100,97,121,115]⟩,aG,.agg (eV j y l x fn dB ds t f' u),.slice C 2 ac] w (e7 w m):=by
 have R:((⟨#[100,97,121,115]⟩:ByteArray).toList==(⟨#[112,114,105,110,116]⟩:ByteArray).toList)=false:=fS ak;have S:((⟨#[100,97,121,115]⟩:ByteArray).toList==(⟨#[97,100,100]⟩:ByteArray).toList)=false:=fS ak;have T:((⟨#[100,97,121,115]⟩:ByteArray).toList==(⟨#[115,117,98]⟩:ByteArray).toList)=false:=fS ak;have V:((⟨#[100,97,121,115]⟩:ByteArray).toList==(⟨#[109,117,108]⟩:ByteArray).toList)=false:=fS ak;have Y:((⟨#[100,97,121,115]⟩:ByteArray).toList==(⟨#[114,111,117,110,100]⟩:ByteArray).toList)=false:=fS ak;have Z:((⟨#[100,97,121,115]⟩:ByteArray).toList==(⟨#[115,104,111,119]⟩:ByteArray).toList)=false:=fS ak;have w8:((⟨#[100,97,121,115]⟩:ByteArray).toList==(⟨#[100,97,121,115]⟩:ByteArray).toList)=true:=q0 _;have K:=G fun W=>awd d i D.1 D.2 F.2.2.1 F.2.2.2.1 W;have J:=G fun n W=>axY n W;obtain⟨b,o,rfl,A,⟨ca,cc,ra,rc,ae⟩,iE,iS,kJ,kh,H⟩:=Jr h;have a:=G (k4.start w (eV j y l x fn dB ds t f' u) 249);clear h;go_enter LB,LC;go_upto_region 16 with fail
 generalize ((w.alloc (.cells (eV j y l x fn dB ds t f' u) 249)).alloc (.cells fh 42))=g at a⊢;have c:=a.out.b;have P:=cS c A;have bo:=az c A ae.c4;have s:=az c A H.c2;have O:=az c A H.c3;clear ae H;by_cases U:0<f
 ·have N:0<(f:Int):=z;have em:=a.out;obtain⟨g3,di,dL,fN,gt,g4,g9⟩:=eX em.o;obtain⟨z0,cy,dz,z3,z4,z5,eO⟩:=he em.o
  go_wp2;refine ki em.o ?_;exact⟨e7.none _ _ _ 15 ak ak,iJ em.b z _ _ _ _ _ _ _⟩
 ·have N:¬0<(f:Int):=z;go_upto_region 18 with fail
  have E:=G (a.out.K (lh g));have I:g.drew.cell? ⟨b,o+4,none⟩=_:=bo;have B:g.drew.cell? ⟨b,o+7+2,none⟩=_:=s
  go_region_held3 (fun aT=>aT.cell? ⟨b,o+4,none⟩=some (.int .i64 d)/\aT.cell? ⟨b,o+7+2,none⟩=some (.int .i64 i)) (first|with_reducible exact⟨bo,s⟩|with_reducible exact⟨I,B⟩|go_keep) (first|(go_at_call 531;refine(K.out _).mono ?_;rintro e bX ⟨⟨n,ok,rfl,Q⟩,rfl⟩))
  clear bo s I B O a c P;generalize g.drew=aq at*;cases ok;have em:=E.out;exact aoU
  ·obtain⟨M,b4⟩:=Q rfl
   go_wp2_with (first|(go_at_call 471;refine(J.out _ _).mono ?_;rintro e bn ⟨rfl,L⟩;have em:=E.out.K L;obtain⟨g3,di,dL,fN,gt,g4,g9⟩:=eX em.o;obtain⟨z0,cy,dz,z3,z4,z5,eO⟩:=he em.o))
   refine ki em.o ?_;exact⟨e7.some _ _ _ (aU.iW _ 1 _ 3 bO 0 0 n none 0 none 0) (.kq n M b4),iJ em.b z _ _ _ _ _ _ _⟩
theorem e7.put{base r B:Nat}{c:World}{k N S n':Int}{ca ra:Option Addr}{cl cc rl rc:Nat}{err:Int}(h:e7 base n (.returned (.tuple #[.agg (bM k s N S n' ca cl cc ra rl rc),err])) c)(i:r<base)(l:B<=base): e7 B n (.returned (.tuple #[.agg (bM k s N S n' ca cl cc ra rl rc),err])) (A1 c r k (.string s) N S n' (.slice ca cl cc) (.slice ra rl rc)):=by
 obtain⟨dF,t,m,q,o,u,f,y,w,g,x,j,e,ae,H,I⟩:=h;injection e with e
 injection e with e
 injection e with e
 injection e with d a
 injection a with a _
 injection a with _ a
 subst a;refine⟨_,_,_,_,_,_,_,_,_,_,_,_,rfl,ae,H,fun aO=>?_⟩;obtain⟨v,J,an⟩:=I aO;injection d with d
 rw[←d]at J;exact⟨v,(J.ex (K6 (eQ.refl _ c) (fun(A:base<=r)=>z) _ _ _ _ _ _ _)).low fun b (A:base<=b)=>(show B<=b by omega),an⟩
theorem Yk{a:Option Addr}{aQ:List (List bC)}{l:List bC}(h:cz aV (aU aV 1) w a (hS aQ::l)):∃b o,a=some ⟨b,o,none⟩/\b<w.heap.size/\∃ca cc ra rc,aU aV 1 w (bM 5 bO 0 0 0 ca 2 cc ra aQ rc) (hS aQ)/\u_ w b o (.int .i64 5) (.string bO) (.int .i64 0) (.int .i64 0) (.int .i64 0) (.slice ca 2 cc) (.slice ra aQ rc):=by
 obtain⟨e,d,rfl,_,f,i⟩:=h.2 ao;obtain⟨x,s,t,u,C,z,m,A,y,r,B,g,c⟩:=i 0 ao;obtain⟨j,k,n,q,dC,H,I⟩:=g;injection dC with dC
 simp only[p7,Iv,Iw,Fm,Fy,Bt]at dC;obtain⟨rfl,rfl,rfl,rfl,rfl,⟨rfl,rfl,rfl⟩,rfl,rfl,rfl⟩:=dC;simp only[uL,h7]at c;exact⟨e,d,rfl,f,_,_,_,_,⟨_,_,_,_,rfl,H,I⟩,c⟩
theorem awv{b o:Nat}{v:bC}{b4 a f c:Int}{d:ByteArray}(h:cz aV (aU aV 1) w (some ⟨b,o,none⟩) [v,.mk b4 d a f c [] []]):∃ca cc ra rc,u_ w b (o+7) b4 (.string d) a f c (.slice ca 0 cc) (.slice ra 0 rc):=by
 obtain⟨C,x,e,_,D,k⟩:=h.2 ao;injection e with e
 injection e with aj i
 subst aj;subst i;obtain⟨t,u,s,r,E,y,F,z,A,G,B,j,g⟩:=k 1 ao;obtain⟨l,m,n,q,aj,_⟩:=j;injection aj with aj
 simp only[p7,Iv,Iw,Fm,Fy,Bt]at aj;obtain⟨rfl,rfl,rfl,rfl,rfl,⟨rfl,rfl,rfl⟩,rfl,rfl,rfl⟩:=aj;simp only[Rv,uJ]at g;exact⟨_,_,_,_,g⟩
theorem aJ0(l:Nat)(L fn:Int)(I:Option Addr)(f' K:Nat)(m:Nat)(aQ:List (List bC))(J:e0 n (hS aQ))(b4 s y u:Int)(x:ByteArray)(aG:ByteArray)(w:World)(b7 aR:Option Addr)(ac:Nat)(bv:Value)(ax:hc aV w b7 [li])(h:cz aV (aU aV 1) w aR [hS aQ,.mk b4 x s y u [] []]): χ 475 #[.string ⟨#[119,104,101,114,101]⟩,.agg (eV b7 1 l L fn 0 0 I f' K),bv,.slice aR 2 ac] w (e7 w m):=by
 have ah:((⟨#[119,104,101,114,101]⟩:ByteArray).toList==(⟨#[108,111,111,107,117,112]⟩:ByteArray).toList)=false:=fS ak;have ai:((⟨#[119,104,101,114,101]⟩:ByteArray).toList==(⟨#[116,97,98,108,101]⟩:ByteArray).toList)=false:=fS ak;have w8:((⟨#[119,104,101,114,101]⟩:ByteArray).toList==(⟨#[119,104,101,114,101]⟩:ByteArray).toList)=true:=q0 _;obtain⟨b,o,rfl,A,ca,cc,ra,rc,eu,ae⟩:=Yk h;obtain⟨O,P,Q,R,H⟩:=awv h;have bl:=G fun W (ar:β w W)=>aLy (m:=m) aQ J W _ (eu.K ar) (bM b4 x s y u O 0 P Q 0 R) _ (aU.iW aV 1 W b4 x s y u O P Q R);obtain⟨g,gM,rfl,_,N,q_⟩:=ax.2 ao;have M:=q_ 0 ao;simp only[Bp,h7]at M;have j:=G (k4.start w (eV (some ⟨g,gM,none⟩) 1 l L fn 0 0 I f' K) 249);clear h q_ ax eu;go_enter Wb,Wh
 go_wp2;generalize ((w.alloc (.cells (eV (some ⟨g,gM,none⟩) 1 l L fn 0 0 I f' K) 249)).alloc (.cells fh 42))=am at j⊢;have a:=j.out.b;have iX:=cS a A;have Ck:=cS a N;have hC:=bF j.out.g;have bo:=az a A ae.bo;have c1:=az a A ae.c1;have c2:=az a A ae.c2;have c3:=az a A ae.c3;have c4:=az a A ae.c4;have c5:=az a A ae.c5;have fe:=az a A ae.fe;have T:=(show am.cell? ⟨w,0,none⟩=some (.slice (some ⟨g,gM,none⟩) 1 l)from aK 0 j.out.g);have S:=az a N M;have U:=az a A H.bo;have V:=az a A H.c1;have B:=az a A H.c2;have C:=az a A H.c3;have D:=az a A H.c4;have E:=az a A H.c5;have F:=az a A H.fe;have rQ:am.drew.cell? ⟨b,o,none⟩=_:=bo;have ve:am.drew.cell? ⟨b,o+1,none⟩=_:=c1;have q1:am.drew.cell? ⟨b,o+2,none⟩=_:=c2;have w0:am.drew.cell? ⟨b,o+3,none⟩=_:=c3;have Nj:am.drew.cell? ⟨b,o+4,none⟩=_:=c4;have Nk:am.drew.cell? ⟨b,o+5,none⟩=_:=c5;have Nl:am.drew.cell? ⟨b,o+6,none⟩=_:=fe;have No:am.drew.cell? ⟨w,0,none⟩=_:=T;have Np:am.drew.cell? ⟨g,gM,none⟩=_:=S;have Nq:am.drew.cell? ⟨b,o+7,none⟩=_:=U;have Nh:am.drew.cell? ⟨b,o+7+1,none⟩=_:=V;have YB:am.drew.cell? ⟨b,o+7+2,none⟩=_:=B;have YC:am.drew.cell? ⟨b,o+7+3,none⟩=_:=C;have aa:am.drew.cell? ⟨b,o+7+4,none⟩=_:=D;have ab:am.drew.cell? ⟨b,o+7+5,none⟩=_:=E;have ad:am.drew.cell? ⟨b,o+7+6,none⟩=_:=F;have f:w.heap.size+1≠b:=z;have yV:w.heap.size+1≠w.heap.size:=z;have KU:w.heap.size+1≠g:=z;have d:=G iX;have IV:=G Ck;have hb:=G hC;have iM:=G a.drew;have sn:=G (j.out.K (lh am));have dT:w.heap.size+1<am.heap.size:=bF j.out.o;clear a A N M
 go_region_held3 (fun aT=>aT.cell? ⟨b,o,none⟩=some (.int .i64 5)/\aT.cell? ⟨b,o+1,none⟩=some (.string bO)/\aT.cell? ⟨b,o+2,none⟩=some (.int .i64 0)/\aT.cell? ⟨b,o+3,none⟩=some (.int .i64 0)/\aT.cell? ⟨b,o+4,none⟩=some (.int .i64 0)/\aT.cell? ⟨b,o+5,none⟩=some (.slice ca 2 cc)/\aT.cell? ⟨b,o+6,none⟩=some (.slice ra aQ rc)/\aT.cell? ⟨w,0,none⟩=some (.slice (some ⟨g,gM,none⟩) 1 l)/\aT.cell? ⟨g,gM,none⟩=some (.string li)/\aT.cell? ⟨b,o+7,none⟩=some (.int .i64 b4)/\aT.cell? ⟨b,o+7+1,none⟩=some (.string x)/\aT.cell? ⟨b,o+7+2,none⟩=some (.int .i64 s)/\aT.cell? ⟨b,o+7+3,none⟩=some (.int .i64 y)/\aT.cell? ⟨b,o+7+4,none⟩=some (.int .i64 u)/\aT.cell? ⟨b,o+7+5,none⟩=some (.slice O 0 P)/\aT.cell? ⟨b,o+7+6,none⟩=some (.slice Q 0 R)) (first|with_reducible exact⟨bo,c1,c2,c3,c4,c5,fe,T,S,U,V,B,C,D,E,F⟩|with_reducible exact⟨rQ,ve,q1,w0,Nj,Nk,Nl,No,Np,Nq,Nh,YB,YC,aa,ab,ad⟩|with_reducible exact⟨dX,dl,dE,cH,ja,jS,lK,ti,xQ,xR,xP,Y,Z,Ls,Lt,Lu⟩|with_reducible exact⟨(e_ f).trans dX,(e_ f).trans dl,(e_ f).trans dE,(e_ f).trans cH,(e_ f).trans ja,(e_ f).trans jS,(e_ f).trans lK,(e_ yV).trans ti,(e_ KU).trans xQ,(e_ f).trans xR,(e_ f).trans xP,(e_ f).trans Y,(e_ f).trans Z,(e_ f).trans Ls,(e_ f).trans Lt,(e_ f).trans Lu⟩|go_keep) (first|(go_at_call 521;refine(bl.out _ iM.out).mono ?_;rintro e bX ⟨⟨gL,nX,wT,Dq,nU,Jv,af,Jx,K9,aj,K_,ag,rfl,ol,la,lE⟩,c⟩;have em:=sn.out.K c;have dX:=az c d.out bo;have dl:=az c d.out c1;have dE:=az c d.out c2;have cH:=az c d.out c3;have ja:=az c d.out c4;have jS:=az c d.out c5;have lK:=az c d.out fe;have ti:=az c hb.out T;have xQ:=az c IV.out S;have xR:=az c d.out U;have xP:=az c d.out V;have Y:=az c d.out B;have Z:=az c d.out C;have Ls:=az c d.out D;have Lt:=az c d.out E;have Lu:=az c d.out F;obtain⟨g3,di,dL,fN,gt,g4,g9⟩:=eX em.o;obtain⟨z0,cy,dz,z3,z4,z5,eO⟩:=he em.o))
 exact aoW
theorem aJZ(l:Nat)(x fn:Int)(s:Option Addr)(f' u:Nat)(m:Nat)(ap:1<=m)(aQ:List (List bC))(J:e0 n (hS aQ))(aG:ByteArray)(w:World)(M K:Option Addr)(ac:Nat)(bv:Value)(L:hc aV w M [k5])(h:cz aV (aU aV 1) w K [hS aQ]): χ 475 #[.string ⟨#[115,117,109]⟩,.agg (eV M 1 l x fn 0 0 s f' u),bv,.slice K 1 ac] w (e7 w m):=by
 have ad:((⟨#[115,117,109]⟩:ByteArray).toList==(⟨#[108,111,111,107,117,112]⟩:ByteArray).toList)=false:=fS ak;have af:((⟨#[115,117,109]⟩:ByteArray).toList==(⟨#[116,97,98,108,101]⟩:ByteArray).toList)=false:=fS ak;have aj:((⟨#[115,117,109]⟩:ByteArray).toList==(⟨#[119,104,101,114,101]⟩:ByteArray).toList)=false:=fS ak;have ah:((⟨#[115,117,109]⟩:ByteArray).toList==(⟨#[106,111,105,110]⟩:ByteArray).toList)=false:=fS ak;have ai:((⟨#[115,117,109]⟩:ByteArray).toList==(⟨#[112,105,99,107]⟩:ByteArray).toList)=false:=fS ak;have w8:((⟨#[115,117,109]⟩:ByteArray).toList==(⟨#[115,117,109]⟩:ByteArray).toList)=true:=q0 _;obtain⟨b,o,rfl,A,ca,cc,ra,rc,R,ae⟩:=Yk h;have bl:=G fun W (ar:β w W)=>aJK (m:=m) ap aQ J W _ (R.K ar);obtain⟨f,gM,rfl,_,C,V⟩:=L.2 ao;have B:=V 0 ao;simp only[Bp,h7]at B;have d:=G (k4.start w (eV (some ⟨f,gM,none⟩) 1 l x fn 0 0 s f' u) 249);clear h V L R;go_enter Wb,Wh
 go_wp2;generalize ((w.alloc (.cells (eV (some ⟨f,gM,none⟩) 1 l x fn 0 0 s f' u) 249)).alloc (.cells fh 42))=am at d⊢;have a:=d.out.b;have iX:=cS a A;have Ck:=cS a C;have hC:=bF d.out.g;have bo:=az a A ae.bo;have c1:=az a A ae.c1;have c2:=az a A ae.c2;have c3:=az a A ae.c3;have c4:=az a A ae.c4;have c5:=az a A ae.c5;have fe:=az a A ae.fe;have E:=(show am.cell? ⟨w,0,none⟩=some (.slice (some ⟨f,gM,none⟩) 1 l)from aK 0 d.out.g);have D:=az a C B;have F:=(show am.cell? ⟨w,3,none⟩=some (.int .i64 0)from aK 3 d.out.g);have I:=(show am.cell? ⟨w,4,none⟩=some (.int .i64 0)from aK 4 d.out.g);have rQ:am.drew.cell? ⟨b,o,none⟩=_:=bo;have ve:am.drew.cell? ⟨b,o+1,none⟩=_:=c1;have q1:am.drew.cell? ⟨b,o+2,none⟩=_:=c2;have w0:am.drew.cell? ⟨b,o+3,none⟩=_:=c3;have Nj:am.drew.cell? ⟨b,o+4,none⟩=_:=c4;have Nk:am.drew.cell? ⟨b,o+5,none⟩=_:=c5;have Nl:am.drew.cell? ⟨b,o+6,none⟩=_:=fe;have No:am.drew.cell? ⟨w,0,none⟩=_:=E;have Np:am.drew.cell? ⟨f,gM,none⟩=_:=D;have Nq:am.drew.cell? ⟨w,3,none⟩=_:=F;have Nh:am.drew.cell? ⟨w,4,none⟩=_:=I;have j:w.heap.size+1≠b:=z;have H:w.heap.size+1≠w.heap.size:=z;have KU:w.heap.size+1≠f:=z;have g:=G iX;have IV:=G Ck;have y:=G hC;have iM:=G a.drew;have sn:=G (d.out.K (lh am));have dT:w.heap.size+1<am.heap.size:=bF d.out.o;clear a A C B
 go_region_held3 (fun aT=>aT.cell? ⟨b,o,none⟩=some (.int .i64 5)/\aT.cell? ⟨b,o+1,none⟩=some (.string bO)/\aT.cell? ⟨b,o+2,none⟩=some (.int .i64 0)/\aT.cell? ⟨b,o+3,none⟩=some (.int .i64 0)/\aT.cell? ⟨b,o+4,none⟩=some (.int .i64 0)/\aT.cell? ⟨b,o+5,none⟩=some (.slice ca 2 cc)/\aT.cell? ⟨b,o+6,none⟩=some (.slice ra aQ rc)/\aT.cell? ⟨w,0,none⟩=some (.slice (some ⟨f,gM,none⟩) 1 l)/\aT.cell? ⟨f,gM,none⟩=some (.string k5)/\aT.cell? ⟨w,3,none⟩=some (.int .i64 0)/\aT.cell? ⟨w,4,none⟩=some (.int .i64 0)) (first|with_reducible exact⟨bo,c1,c2,c3,c4,c5,fe,E,D,F,I⟩|with_reducible exact⟨rQ,ve,q1,w0,Nj,Nk,Nl,No,Np,Nq,Nh⟩|with_reducible exact⟨P,Q,O,N,T,S,U,Y,xQ,xR,Z⟩|with_reducible exact⟨(e_ j).trans P,(e_ j).trans Q,(e_ j).trans O,(e_ j).trans N,(e_ j).trans T,(e_ j).trans S,(e_ j).trans U,(e_ H).trans Y,(e_ KU).trans xQ,(e_ H).trans xR,(e_ H).trans Z⟩|go_keep) (first|(go_at_call 524;refine(bl.out _ iM.out).mono ?_;rintro e bX ⟨⟨gL,nX,wT,Dq,nU,Jv,aa,Jx,K9,ag,K_,ab,rfl,ol,la,lE⟩,c⟩;have em:=sn.out.K c;have P:=az c g.out bo;have Q:=az c g.out c1;have O:=az c g.out c2;have N:=az c g.out c3;have T:=az c g.out c4;have S:=az c g.out c5;have U:=az c g.out fe;have Y:=az c y.out E;have xQ:=az c IV.out D;have xR:=az c y.out F;have Z:=az c y.out I;obtain⟨g3,di,dL,fN,gt,g4,g9⟩:=eX em.o;obtain⟨z0,cy,dz,z3,z4,z5,eO⟩:=he em.o))
 exact aoW
theorem aJX(d:Option Addr)(l f:Nat)(j fn dB ds:Int)(g:Option Addr)(f' i:Nat)(m:Nat)(H:1<=m)(aQ:List (List bC))(C:aQ.length<=3)(w:World)(n:Option Addr)(ac:Nat)(x:Value)(h:cz aV (aU aV 1) w n [hS aQ]): χ 475 #[.string ⟨#[99,111,117,110,116]⟩,.agg (eV d l f j fn dB ds g f' i),x,.slice n 1 ac] w (e7 w m):=by
 have D:((⟨#[99,111,117,110,116]⟩:ByteArray).toList==(⟨#[108,111,111,107,117,112]⟩:ByteArray).toList)=false:=fS ak;have E:((⟨#[99,111,117,110,116]⟩:ByteArray).toList==(⟨#[116,97,98,108,101]⟩:ByteArray).toList)=false:=fS ak;have K:((⟨#[99,111,117,110,116]⟩:ByteArray).toList==(⟨#[119,104,101,114,101]⟩:ByteArray).toList)=false:=fS ak;have I:((⟨#[99,111,117,110,116]⟩:ByteArray).toList==(⟨#[106,111,105,110]⟩:ByteArray).toList)=false:=fS ak;have J:((⟨#[99,111,117,110,116]⟩:ByteArray).toList==(⟨#[112,105,99,107]⟩:ByteArray).toList)=false:=fS ak;have B:((⟨#[99,111,117,110,116]⟩:ByteArray).toList==(⟨#[115,117,109]⟩:ByteArray).toList)=false:=fS ak;have Z:((⟨#[99,111,117,110,116]⟩:ByteArray).toList==(⟨#[99,111,117,110,116]⟩:ByteArray).toList)=true:=q0 _;obtain⟨b,o,rfl,A,ca,cc,ra,rc,y,ae⟩:=Yk h;have t:=G fun W=>U1 (aQ.length:Int) 0 W;have c:=G (k4.start w (eV d l f j fn dB ds g f' i) 249);clear h y;go_enter Wb,Wh;go_upto_region 1 with fail
 generalize ((w.alloc (.cells (eV d l f j fn dB ds g f' i) 249)).alloc (.cells fh 42))=F at c⊢;have s:=c.out.b;have Y:=cS s A;have fe:=az s A ae.fe;clear ae
 go_wp2_with (go_at_call 470;refine(t.out _).mono ?_;rintro e L ⟨rfl,u⟩;have a:=c.out.K u;obtain⟨S,O,N,R,V,T,U⟩:=eX a.o;obtain⟨z0,M,P,z3,z4,z5,Q⟩:=he a.o);refine ki a.o ?_;exact⟨e7.some _ _ _ (aU.iW _ 1 _ 2 bO (aQ.length:Int) 0 0 none 0 none 0) (.gD _ 0 ⟨ao,ao,z,z,.inl rfl⟩ (by
  have:10^3<=10^(2*m+1):=kO z z
  omega) z),iJ a.b z _ _ _ _ _ _ _⟩
end Go.bS
namespace Go.bS
open Go Go.Proofs.Tryz Go.cv Go.Proofs Go.RowKit Go.aJ
open Go.bh.N (nZ HC pa BY lM)
open Go.da (cU bA jd)
def MJ(w:World)(a:Option Addr)(l:List Nat):Prop:=l.length<=8/\(0<l.length->∃b o,a=some ⟨b,o,none⟩/\b<w.heap.size/\∀i (hi:i<l.length),w.cell? ⟨b,o+i,none⟩=some (.int .i64 (l[i]:Int)))
variable{w:World}{l:List Nat}
theorem MJ.K{w':World}{a:Option Addr}(h:MJ w a l)(A:β w w'):MJ w' a l:=
 ⟨h.1,fun ae=>by
  obtain⟨b,o,e,c,d⟩:=h.2 ae
  exact⟨b,o,e,cS A c,fun i hi=>(A.cell c).trans (d i hi)⟩⟩
def amO(l:List Nat):List O:=l.map fun n=>.int .i64 (.ofNat n)
def arV(l:List ByteArray):List O:=l.map pa
def aqc(n:Nat):List O:=[.int .i64 (.ofNat n),.int .i64 (.ofNat 1),.int .i64 (.ofNat 200),.str []]
def M9(h:aw)(b e:Nat)(l:List O):Bool:=match h.cR b with
 |some (.cells a vs _ _)=>Nat.beq e a&&O.pI (vs.take l.length) l
 |_=>false
def Ur(h:aw)(a:O)(l:List Nat):Bool:=Nat.ble l.length 8&&(match a with
 |.dH=>l.isEmpty
 |.slice b 0 n 1 _=>Nat.beq n l.length&&M9 h b 3 (amO l)
 |_=>false)
def VH(h:aw)(a:O)(l:List ByteArray):Bool:=Nat.ble l.length 8&&(match a with
 |.dH=>l.isEmpty
 |.slice b 0 n 1 _=>Nat.beq n l.length&&M9 h b 9 (arV l)
 |_=>false)
def K2(h:aw)(a:O)(o:Option Nat):Bool:=match a,o with
 |.dH,none=>true
 |.slice b 0 1 4 _,some n=>M9 h b 298 (aqc n)
 |_,_=>false
theorem Yn{ρ:cd}{σ:b6}{h:aw}{w:World}(d:cZ ρ σ h w){b e:Nat}{l:List O}(A:M9 h b e l=true):∃p arr bb,σ b=some p/\w.heap[p.aY]? =some (.cells arr e bb)/\∀i v,l[i]? =some v->∃x,aN ρ σ v=some x/\arr[p.del+i]? =some x/\w.cell? ⟨p.aY,p.del+i,none⟩=some x:=by
 unfold M9 at A;split at A
 ·rename_i q vs t wr an;simp only[dQ]at A;obtain⟨H,I⟩:=A;obtain rfl:=gx H;have I:=O.tE I;obtain⟨p,arr,bb,cs,ag,c,n,o,_,f,g,k,_⟩:=d.cells an;refine⟨p,arr,bb,ag,c,fun i v J=>?_⟩;have hi:i<l.length:=(k2.1 J).1;have r:l.length<=vs.length:=by have:=hU List.length I;rw[nu]at this;omega
  have m:vs[i]? =some v:=by rw[←I]at J;rw[oZ,co z]at J;exact J
  obtain⟨x,a,j⟩:=Ac f m;exact⟨x,j,by rw[k i z,a],by rw[g i z,a]⟩
 ·cases A
variable{c:Value}
theorem aCT{ρ:cd}{σ:b6}{h:aw}(k:cZ ρ σ h w){a:O}(hi:Ur h a l=true)(Q:aN ρ σ a=some c):∃f ac,c=.slice f l ac/\MJ w f l:=by
 simp only[Ur,dQ]at hi;obtain⟨d,hi⟩:=hi;have d:l.length<=8:=by simpa using d
 split at hi;exact ao3;rename_i b n cap;simp only[aN,iz]at Q;obtain⟨p,ag,rfl⟩:=Q;simp only[dQ]at hi;obtain⟨H,I⟩:=hi;obtain rfl:=gx H;obtain⟨q,arr,bb,g,j,m⟩:=Yn k I;obtain rfl:p=q:=gQ (ag.symm.trans g);refine⟨_,_,rfl,d,fun _=>⟨p.aY,p.del+0,rfl,(g6.1 j).1,fun i hi=>?_⟩⟩;obtain⟨x,e,_,o⟩:=m i (.int .i64 (.ofNat l[i])) (by simp[amO,hi]);simp only[aN,cq]at e;rw[h7,o,←e];rfl;cases hi
theorem aJI{ρ:cd}{σ:b6}{h:aw}(k:cZ ρ σ h w){a:O}{l:List ByteArray}(hi:VH h a l=true)(Q:aN ρ σ a=some c):∃e ac,c=.slice e l ac/\hc aV w e l:=by
 simp only[VH,dQ]at hi;obtain⟨f,hi⟩:=hi;have f:l.length<=8:=by simpa using f
 split at hi;exact ao3;rename_i b n cap;simp only[aN,iz]at Q;obtain⟨p,ag,rfl⟩:=Q;simp only[dQ]at hi;obtain⟨H,I⟩:=hi;obtain rfl:=gx H;obtain⟨q,arr,bb,g,j,m⟩:=Yn k I;obtain rfl:p=q:=gQ (ag.symm.trans g);refine⟨_,_,rfl,z,fun _=>⟨p.aY,p.del+0,rfl,g',(g6.1 j).1,fun i hi=>?_⟩⟩;obtain⟨x,d,_,o⟩:=m i (pa l[i]) (by simp[arV,hi]);rw[BY]at d;rw[h7,o,←d];cases hi
theorem aGM{ρ:cd}{σ:b6}{h:aw}(l:cZ ρ σ h w){a:O}{n:Nat}(hi:K2 h a (some n)=true)(e:aN ρ σ a=some c):∃f ac,c=.slice f 1 ac/\pE w f (n:Int):=by
 unfold K2 at hi;split at hi;rename_i H I;cases I
 ·rename_i b cap m H;injection H with H
  subst H;simp only[aN,iz]at e;obtain⟨p,ag,rfl⟩:=e;obtain⟨q,arr,bb,j,k,o⟩:=Yn l hi;obtain rfl:p=q:=gQ (ag.symm.trans j);have d:∀i v,(aqc n)[i]? =some v->arr[p.del+i]? =aN ρ σ v:=fun i v J=>by obtain⟨x,g,aH,_⟩:=o i v J;rw[aH,g]
  exact⟨_,_,rfl,p.aY,p.del+0,arr,bb,rfl,k,by rw[h7];exact d 0 _ rfl,by rw[h7];exact d 1 _ rfl,by rw[h7];exact d 2 _ rfl,by rw[h7];exact(d 3 _ rfl).trans (by simp[aN,eU])⟩
 cases hi
theorem aFb{ρ:cd}{σ:b6}{h:aw}{a:O}(hi:K2 h a none=true)(b:aN ρ σ a=some c):c=.slice none 0 0:=by
 unfold K2 at hi;split at hi;simp only[aN,cq]at b;exact b.symm;rename_i H;cases H;cases hi
structure zD where
 nm:List ByteArray
 k:Nat
 n:Nat
 dB:Nat
 ds:Nat
 p:Option Nat
theorem ay0:j8 184=none:=av
noncomputable def gW(op aG:ByteArray):Option (O×aw):=(iF prog j8 jO.find 300).call 184 [pa op,pa aG] (hl ⟨.e,13⟩ [])
def gV(f:zD)(x:Option (O×aw)):Bool:=match x with
 |some (.tup [.agg [a,.int .i64 k,.int .i64 n,.int .i64 dB,.int .i64 ds,p],.bool true],h)=>VH h a f.nm&&O.pI [.int .i64 k,.int .i64 n,.int .i64 dB,.int .i64 ds] [.int .i64 (.ofNat f.k),.int .i64 (.ofNat f.n),.int .i64 (.ofNat f.dB),.int .i64 (.ofNat f.ds)]&&K2 h p f.p
 |_=>false
def o_(w:World)(a:Option Addr)(l:Nat)(o:Option Nat):Prop:=match o with
 |none=>a=none/\l=0
 |some n=>l=1/\pE w a (n:Int)
def Do(f:zD)(e:Ending)(w':World):Prop:=∃a d aG b c,e=.returned (.tuple #[.agg #[.slice a f.nm.length d,.int .i64 (f.k:Int),.int .i64 (f.n:Int),.int .i64 (f.dB:Int),.int .i64 (f.ds:Int),.slice aG b c],.bool true])/\hc aV w' a f.nm/\o_ w' aG b f.p
theorem qH(op aG:ByteArray)(f:zD)(i:gV f (gW op aG)=true)(w:World):χ 184 #[op,aG] w (Do f):=by
 obtain⟨ρ,F,_⟩:=HC (ni prog) (fun _=>(0,0)) (fun _=>#[]);have an:kA prog nZ:=fun g an=>⟨0,by
  rw[aka]at an
  simp[nZ,an]⟩
 have D:cZ ρ nZ (hl ⟨.e,13⟩ []) w:=by exact acm
 have E:∃a k n dB ds p h,gW op aG=some (.tup [.agg [a,.int .i64 k,.int .i64 n,.int .i64 dB,.int .i64 ds,p],.bool true],h)/\VH h a f.nm=true/\O.pI [.int .i64 k,.int .i64 n,.int .i64 dB,.int .i64 ds] [.int .i64 (.ofNat f.k),.int .i64 (.ofNat f.n),.int .i64 (.ofNat f.dB),.int .i64 (.ofNat f.ds)]=true/\K2 h p f.p=true:=by
  unfold gV at i;split at i
  ·rename_i K;simp only[dQ]at i;exact⟨_,_,_,_,_,_,_,K,i.1.1,i.1.2,i.2⟩
  ·cases i
 obtain⟨a,k,n,dB,ds,p,N,J,H,I,o⟩:=E;have I:=O.tE I;simp only[p7,O.int.injEq,Fy,Bt]at I;obtain⟨rfl,rfl,rfl,rfl⟩:=I;refine(A7 follows (ρ:=ρ) F (kP.q4 td) tO ay0 an (args:=[pa op,pa aG]) (cs:=[op,aG]) (by simp[bY,BY]) (l:=[]) rfl rfl D J rfl).mono ?_;rintro e w' ⟨c,u,rfl,q⟩;refine⟨?_,q.b⟩;have d:=q.v;simp only[aN,bY]at d;cases r:aN ρ u a with
 |none=>rw[r]at d;simp at d
 |some L=>
  cases j:aN ρ u p with
  |none=>rw[r,j]at d;simp at d
  |some M=>
   rw[r,j]at d;simp at d;subst d;obtain⟨t,y,rfl,s⟩:=aJI q.h H r;cases ag:f.p with
   |none=>rw[ag]at o;obtain rfl:=aFb o j;exact⟨t,y,none,0,0,rfl,s,by simp[o_,ag]⟩
   |some m=>rw[ag]at o;obtain⟨B,C,rfl,G⟩:=aGM q.h o j;exact⟨t,y,B,1,C,rfl,s,by simp only[o_,ag];exact⟨g',G⟩⟩
end Go.bS
namespace Go.bS
open Go Go.Proofs.Tryz Go.cv Go.Proofs Go.RowKit Go.aJ Go.bh.N
open Go.da (cU bA jd)
noncomputable def fO(S:cU)(r:bA)(b:List Nat):Bool:=match ael S r with
 |some (.tup [a,.int .i64 _,.int .i64 (.ofNat 0)],h)=>rY h (wJ S)&&Ur h a b
 |_=>false
def Dp(b:List Nat)(e:Ending)(w':World):Prop:=∃a ac k,e=.returned (.tuple #[.slice a b.length ac,.int .i64 k,.int .i64 0])/\MJ w' a b
theorem qL(S:cU)(r:bA)(l:List Nat)(d:fO S r l=true)(w:World)(bv:Value)(ca:Option Addr)(cc:Nat)(E:lM w bv)(K:jd w ca S.bw): χ 107 #[.string r.op,.string r.aG,bv,.slice ca S.bw.length cc] w (Dp l):=by
 obtain⟨ρ,σ,h,M,an,bK,Y,q',Kf⟩:=E;obtain⟨dr,o,arr,bb,rfl,mg,Q⟩:=K;have lZ:∀b,21<=b->σ b=none:=fun b A=>bK.j9 b z;have D:∀b p,σ b=some p->b≠21:=fun b p A e=>by rw[e,lZ 21 z]at A;cases A
 obtain⟨kk,AS⟩:∃kk:b6,kk=fun b=>if b=21 then some ⟨dr,o,2*cc⟩else σ b:=⟨_,rfl⟩
 have V:mw σ kk:=fun b p A=>by rw[AS];simp only;rw[bs (D b p A)];exact A
 have Oa:kk 21=some ⟨dr,o,2*cc⟩:=by rw[AS];simp
 have kv:pu (wJ S)=true:=arC HH (by simp[pu,eB]);have s:Dw (wJ S)=true:=by exact aoV
 have base:∀b x,(b,x)∈nF->∃p e vs,x=.aE e vs/\σ b=some p/\e≠136/\(∃arr bb,w.heap[p.aY]? =some (.cells arr e bb))/\kn (ρ.at w) σ p w.heap[p.aY]? (.aE e vs):=fun b x ap=>by exact aoG
 have mo:∀b x,(hl ⟨.e,22⟩ (wJ S)).cR b=some x->(b,x)∈nF∨(b=21/\x=.aE 136 (rV S.bw)):=fun b x A=>by exact aoz
 have aaE:m7 w dr=arr:=by simp[m7,mg]
 have vx:qq w dr=bb:=by simp[qq,mg]
 have u:cZ (ρ.at w) kk (hl ⟨.e,22⟩ (wJ S)) w:=by exact aoC
 have W:kA prog kk:=fun g T=>by obtain⟨n,C⟩:=an g T;exact⟨n,V _ _ C⟩
 have O:bY (ρ.at w) kk [pa r.op,pa r.aG,BU,.slice 21 0 S.bw.length 2 none]=some [.string r.op,.string r.aG,bv,.slice (some ⟨dr,o,none⟩) S.bw.length cc]:=by exact anO
 have G:∃a k h,ael S r=some (.tup [a,.int .i64 k,.int .i64 (.ofNat 0)],h)/\rY h (wJ S)=true/\Ur h a l=true:=by
  unfold fO at d;split at d
  ·rename_i U;simp only[dQ]at d;exact⟨_,_,_,U,d.1,d.2⟩
  ·cases d
 obtain⟨a,k,X,P,N,R⟩:=G;refine(A7 follows (ρ:=ρ.at w) M (kP.q4 td) tO ajN W O kv s u P N).mono ?_;rintro e w' ⟨c,F,rfl,j⟩;refine⟨?_,j.b⟩;have J:=j.v;simp only[aN,iz]at J;obtain⟨x,f,rfl⟩:=J;simp only[bY]at f;cases m:aN (ρ.at w) F a with
 |none=>rw[m]at f;simp at f
 |some y=>rw[m]at f;simp only[aN,cq]at f;subst f;obtain⟨B,ac,rfl,L⟩:=aCT j.h R m;exact⟨B,ac,k,rfl,L⟩
def pr:ByteArray:=⟨#[112,114,105,99,101,115]⟩
def od:ByteArray:=⟨#[99,111,100,101]⟩
def oq:ByteArray:=⟨#[112,114,105,99,101]⟩
def yU:ByteArray:=⟨#[110,97,109,101]⟩
def Hf:O:=.agg [.str [112,114,105,99,101,115],.slice 13 0 3 1 none,.slice 18 0 2 1 none]
def ajU(x:Option (O×aw)):Bool:=match x with
 |some (.tup [v,.bool true],h)=>O.beq v Hf&&rY h nF
 |_=>false
def asf(x:Option (O×aw)):Bool:=match x with
 |some (.bool true,h)=>rY h nF
 |_=>false
theorem ayX:j8 186=none:=av
theorem ayZ:j8 285=none:=av
theorem ay':ajU ((iF prog j8 jO.find 300).call 186 [BU,.str [112,114,105,99,101,115]] (hl ⟨.e,21⟩ nF))=true:=av
theorem aHP:asf ((iF prog j8 jO.find 300).call 285 [Hf] (hl ⟨.e,21⟩ nF))=true:=av
variable{w:World}
theorem aif{ρ:cd}{σ:b6}{h:aw}(a:cZ ρ σ h w)(y:h.nx=21)(c:Lc h nF=true):cZ (ρ.at w) σ (hl ⟨.e,21⟩ nF) w:=by
 have n:∀b,21<=b->σ b=none:=fun b A=>a.j9 b z;refine⟨fun b x A=>?_,fun b i x r p g A l ag k m=>?_,fun b A=>n b (by rw[HA]at A;exact A)⟩;obtain⟨e,vs,t,wr,rfl,d⟩:=A6 c (A2 HH A);obtain⟨p,ag,j⟩:=a.aY b _ d;exact⟨p,ag,adw j⟩;obtain⟨e,vs,t,wr,rfl,d⟩:=A6 c (A2 HH A);obtain⟨s,o,u,q,rfl,f⟩:=A6 c (A2 HH l);exact a.inj b i _ _ p g d f ag k m
def RJ(w:World)(c:Value):Prop:=∃ca cc ra rc,c=.agg #[.string pr,.slice ca 3 cc,.slice ra 2 rc]/\hc aV w ca [od,oq,yU]/\hK aV (aU aV 0) w ra [[hG ⟨#[65]⟩,gD 25 1,hG ⟨#[97,112,112,108,101]⟩],[hG ⟨#[66]⟩,gD 3 0,hG ⟨#[98,114,101,97,100]⟩]]
theorem RJ.K{w':World}{c:Value}(h:RJ w c)(A:β w w'):RJ w' c:=by
 obtain⟨ca,cc,ra,rc,e,H,I⟩:=h;exact⟨ca,cc,ra,rc,e,H.K A,hK.K (aU.mono aV 0) I A⟩
variable{b:Nat}
theorem Vq{ρ:cd}{σ:b6}{h:aw}(f:cZ ρ σ h w)(k:Lc h nF=true){e:Nat}{vs:List O}(d:(b,eC.aE e vs)∈nF):∃p cs,σ b=some p/\p.aY<w.heap.size/\bY ρ σ vs=some cs/\∀i,i<vs.length->w.cell? ⟨p.aY,p.del+i,none⟩=cs[i]? :=by
 obtain⟨n,m,t,wr,aj,l⟩:=A6 k d;injection aj with aj a
 subst aj;subst a;obtain⟨p,arr,bb,cs,ag,c,_,_,_,g,j,_⟩:=f.cells l;exact⟨p,cs,ag,(g6.1 c).1,g,j⟩
theorem aqm{w:World}{b o:Nat}{cs:List Value}{c1 c3:ByteArray}{N S:Int}(c:b<w.heap.size)(a:∀i,i<21->w.cell? ⟨b,o+i,none⟩=cs[i]?)(e:cs=[.int .i64 1,.string c1,.int .i64 0,.int .i64 0,.int .i64 0,.slice none 0 0,.slice none 0 0,.int .i64 2,.string bO,.int .i64 N,.int .i64 S,.int .i64 0,.slice none 0 0,.slice none 0 0,.int .i64 1,.string c3,.int .i64 0,.int .i64 0,.int .i64 0,.slice none 0 0,.slice none 0 0]):cz aV (aU aV 0) w (some ⟨b,o,none⟩) [hG c1,gD N S,hG c3]:=by
 subst e;refine⟨ao,fun _=>⟨b,o,rfl,g',c,fun j d=>?_⟩⟩
 match j,d with
 |0,_=>exact⟨1,c1,0,0,0,none,0,0,none,0,0,aU.iW aV 0 w 1 c1 0 0 0 none 0 none 0,a 0 z,a 1 z,a 2 z,a 3 z,a 4 z,a 5 z,a 6 z⟩
 |1,_=>exact⟨2,bO,N,S,0,none,0,0,none,0,0,aU.iW aV 0 w 2 bO N S 0 none 0 none 0,a 7 z,a 8 z,a 9 z,a 10 z,a 11 z,a 12 z,a 13 z⟩
 |2,_=>exact⟨1,c3,0,0,0,none,0,0,none,0,0,aU.iW aV 0 w 1 c3 0 0 0 none 0 none 0,a 14 z,a 15 z,a 16 z,a 17 z,a 18 z,a 19 z,a 20 z⟩
theorem awE(w:World)(k:Value)(Y:lM w k):∃c,RJ w c/\(∀W,β w W->χ 186 #[k,.string pr] W fun e w'=>e=.returned (.tuple #[c,.bool true]))/\(∀W,β w W->χ 285 #[c] W fun e w'=>oD e):=by
 obtain⟨ρ,σ,h,A,an,d,C,g,E⟩:=Y;obtain⟨s,Y2,D,M,r,F⟩:=Vq d g (b:=13) (e:=9) (vs:=[.str [99,111,100,101],.str [112,114,105,99,101],.str [110,97,109,101]]) (by simp[nF]);obtain⟨apZ,sD,Z,N,u,S⟩:=Vq d g (b:=16) (e:=42) (vs:=_) (by unfold nF;exact jD _ (qP ..));obtain⟨af,ad,U,P,x,T⟩:=Vq d g (b:=17) (e:=42) (vs:=_) (by unfold nF;exact jD _ (jD _ (qP ..)));obtain⟨y,ae,V,Q,l,t⟩:=Vq d g (b:=18) (e:=36) (vs:=_) (by unfold nF;exact jD _ (jD _ (jD _ (qP ..))));simp[bY,aN,eU]at r;simp[bY,aN,eU]at u;simp[bY,aN,eU]at x;simp[bY,aN,Z,U]at l;have G:∃ca cc ra rc,aN ρ σ Hf=some (.agg #[.string pr,.slice ca 3 cc,.slice ra 2 rc])/\hc aV w ca [od,oq,yU]/\hK aV (aU aV 0) w ra [[hG ⟨#[65]⟩,gD 25 1,hG ⟨#[97,112,112,108,101]⟩],[hG ⟨#[66]⟩,gD 3 0,hG ⟨#[98,114,101,97,100]⟩]]:=by
  refine⟨some ⟨s.aY,s.del,none⟩,_,some ⟨y.aY,y.del,none⟩,_,by simp[Hf,aN,bY,eU,D,V,pr];exact⟨rfl,rfl⟩,⟨ao,fun _=>⟨_,_,rfl,g',M,fun i hi=>?_⟩⟩,⟨ao,fun _=>⟨_,_,rfl,g',Q,fun i hi=>?_⟩⟩⟩
  ·have hi:i<3:=hi;rw[F i (by simpa using hi),←r]
   match i,hi with
   |0,_=>rfl
   |1,_=>rfl
   |2,_=>rfl
  ·have hi:i<2:=hi
   match i,hi with
   |0,_=>exact⟨_,_,by rw[t 0 ao,←l];rfl,aqm N (fun j m=>S j (by simpa using m)) u.symm⟩
   |1,_=>exact⟨_,_,by rw[t 1 ao,←l];rfl,aqm P (fun j m=>T j (by simpa using m)) x.symm⟩
 obtain⟨ca,cc,ra,rc,B,K,R⟩:=G;refine⟨_,⟨ca,cc,ra,rc,rfl,K,R⟩,fun W n=>?_,fun W n=>?_⟩
 ·have hrel:=aif (d.K n) C g;have a:=ay';unfold ajU at a;split at a
  ·rename_i v X q;simp only[dQ]at a;obtain⟨H,I⟩:=a;obtain rfl:=O.beq_eq H;have o:bY (ρ.at W) σ [BU,.str [112,114,105,99,101,115]]=some [k,.string pr]:=by
    have H:aN (ρ.at W) σ BU=some k:=by rw[JB (ρ:=ρ.at W) (ρ':=ρ) rfl];exact E
    simp only[bY,H];simp[aN,eU,pr]
   refine(A7 follows (ρ:=ρ.at W) A (kP.q4 td) tO ayX an o HH av hrel q I).mono ?_;rintro e w' ⟨c,z,rfl,f⟩;refine⟨?_,f.b⟩;have J:=f.v;have L:aN (ρ.at W) z Hf=some (.agg #[.string pr,.slice ca 3 cc,.slice ra 2 rc]):=by rw[JB (ρ:=ρ.at W) (ρ':=ρ) rfl];exact BZ f.ext B
   simp only[aN,bY]at J;rw[L]at J;simp at J;rw[←J]
  ·cases a
 ·have hrel:=aif (d.K n) C g;have a:=aHP;unfold asf at a;split at a
  ·rename_i X q;have o:bY (ρ.at W) σ [Hf]=some [.agg #[.string pr,.slice ca 3 cc,.slice ra 2 rc]]:=by
    have H:aN (ρ.at W) σ Hf=some (.agg #[.string pr,.slice ca 3 cc,.slice ra 2 rc]):=by rw[JB (ρ:=ρ.at W) (ρ':=ρ) rfl];exact B
    simp only[bY,H]
   refine(A7 follows (ρ:=ρ.at W) A (kP.q4 td) tO ayZ an o HH av hrel q a).mono ?_;rintro e w' ⟨c,z,rfl,f⟩;refine⟨?_,f.b⟩;have J:=f.v;simp only[aN,cq]at J;rw[←J];rfl
  ·cases a
end Go.bS
namespace Go.bS
open Go Go.Proofs.Tryz Go.Proofs Go.RowKit Go.Lib Go.aJ
variable{w:World}
theorem aql{c:Option Addr}{c1 c3:ByteArray}{N S:Int}(h:cz aV (aU aV 0) w c [hG c1,gD N S,hG c3]):∃a b l m k n d e f g,c=some ⟨a,b,none⟩/\a<w.heap.size/\u_ w a b (.int .i64 1) (.string c1) (.int .i64 0) (.int .i64 0) (.int .i64 0) (.slice l 0 m) (.slice k 0 n)/\u_ w a (b+7) (.int .i64 2) (.string bO) N S (.int .i64 0) (.slice d 0 e) (.slice f 0 g):=by
 obtain⟨a,b,rfl,_,r,o⟩:=h.2 ao;obtain⟨J,bP,L,M,K,l,x,m,k,A,n,s,i⟩:=o 0 ao;obtain⟨b4,H,F,I,G,d,O,e,f,P,g,q,j⟩:=o 1 ao;obtain⟨_,t,u,y,z,dC,_⟩:=s;obtain⟨_,B,C,D,E,aj,_⟩:=q;injection dC with dC
 injection aj with aj
 simp only[p7,Iv,Iw,Fm,Fy,Bt]at dC aj;obtain⟨rfl,rfl,rfl,rfl,rfl,⟨rfl,rfl,rfl⟩,rfl,rfl,rfl⟩:=dC;obtain⟨rfl,rfl,rfl,rfl,rfl,⟨rfl,rfl,rfl⟩,rfl,rfl,rfl⟩:=aj;simp only[uL,h7,Rv,uJ]at i j;exact⟨a,b,_,_,_,_,_,_,_,_,rfl,r,i,j⟩
variable{x:Int}
theorem axv(h:(∃(k:Nat) (a:k<[od,oq,yU].length),x=k/\[od,oq,yU][k]=od)∨(x= -1/\od∉[od,oq,yU])):x=0:=by
 rcases h with⟨k,a,rfl,aO⟩|⟨_,aO⟩
 ·match k,a with
  |0,_=>rfl
  |1,_=>exact absurd aO (show oq≠od by decide)
  |2,_=>exact absurd aO (show yU≠od by decide)
 exact absurd ao aO
theorem axx(h:(∃(k:Nat) (a:k<[od,oq,yU].length),x=k/\[od,oq,yU][k]=oq)∨(x= -1/\oq∉[od,oq,yU])):x=1:=by
 rcases h with⟨k,a,rfl,aO⟩|⟨_,aO⟩
 ·match k,a with
  |0,_=>exact absurd aO (show od≠oq by decide)
  |1,_=>rfl
  |2,_=>exact absurd aO (show yU≠oq by decide)
 exact absurd ao aO
structure I9 (w:World) (F aI:Array Value) (wr:World):Prop where
 b:β w wr
 g:wr.heap[w.heap.size]? =some (.cells F 106 (0,0))
 l:wr.heap[w.heap.size+1]? =some (.cells aI 42 (0,0))
 o:wr.heap[w.heap.size+1+1]? =some (.cells fh 42 (0,0))
theorem I9.K{wr w':World}{F a:Array Value}(h:I9 w F a wr)(A:β wr w'):I9 w F a w':=
 ⟨cj h.b A,by rw[A.block _ (bF h.g)];exact h.g,by rw[A.block _ (bF h.l)];exact h.l,by rw[A.block _ (bF h.o)];exact h.o⟩
theorem I9.start(w:World)(F a:Array Value):I9 w F a (((w.alloc (.cells F 106)).alloc (.cells a 42)).alloc (.cells fh 42)):=by
 obtain⟨H,I,c,b⟩:=QL w (.cells F 106) (.cells a 42) (.cells fh 42);exact⟨H,I,c,b⟩
theorem ay_{m:Nat}(ap:1<=m)(w:World)(c:Value)(e1:RJ w c)(du:∀W,β w W->χ 285 #[c] W fun e w'=>oD e)(bP:ByteArray)(E D:Option Addr)(F H:Nat): χ 520 #[c,od,.agg (bM 1 bP 0 0 0 E 0 F D 0 H),oq] w (e7 w m):=by
 obtain⟨ca,cc,ra,rc,rfl,gb,qz⟩:=e1;have L:=G (I9.start w #[pr,.slice ca 3 cc,.slice ra 2 rc] (bM 1 bP 0 0 0 E 0 F D 0 H));have bl:=G du;have bH:=G fun W (ar:β w W) s=>abM W ca cc [od,oq,yU] s (gb.K ar);obtain⟨cV,l',rfl,_,u,lD⟩:=qz.2 ao;obtain⟨ae,ag,s0,hs⟩:=lD 0 ao;obtain⟨af,ah,V,hz⟩:=lD 1 ao;obtain⟨k6,cQ,jj,jk,i0,js,gJ,gK,gu,gv,rfl,f,y,A⟩:=aql hs;obtain⟨hL,aX,nH,oc,nl,nn,Jv,Jx,K9,K_,rfl,d,B,C⟩:=aql hz;simp only[Bp,IA,h7,l7,uJ,gP,Nat.reduceAdd]at s0 V;have ab:=G fun W=>abU 0 0 W (bM 1 ⟨#[65]⟩ 0 0 0 jj 0 jk i0 0 js) (bM 1 bP 0 0 0 E 0 F D 0 H) (hG ⟨#[65]⟩) _ (aU.iW aV 0 W 1 ⟨#[65]⟩ 0 0 0 jj jk i0 js) (aU.iW aV 0 W 1 bP 0 0 0 E F D H);have ad:=G fun W=>abU 0 0 W (bM 1 ⟨#[66]⟩ 0 0 0 nH 0 oc nl 0 nn) (bM 1 bP 0 0 0 E 0 F D 0 H) (hG ⟨#[66]⟩) _ (aU.iW aV 0 W 1 ⟨#[66]⟩ 0 0 0 nH oc nl nn) (aU.iW aV 0 W 1 bP 0 0 0 E F D H);clear du gb qz lD hs hz;go_enter func520,ntmps520;go_upto_region 1 with fail
 generalize (((w.alloc (.cells #[pr,.slice ca 3 cc,.slice (some ⟨cV,l',none⟩) 2 rc] 106)).alloc (.cells (bM 1 bP 0 0 0 E 0 F D 0 H) 42)).alloc (.cells fh 42))=am at L⊢;have I:=L.out;obtain⟨eN,dv,dy⟩:=yp I.g;have gZ:=bF I.g;have aS:=I.b;clear I;go_upto_region 4 with(go_at_call 285;refine(bl.out _ aS).mono ?_;rintro e O ⟨rfl,bp⟩)
 have o:=G (L.out.K bp);have b8:=aK 1 o.out.g;have bZ:=bF o.out.g;have l:=o.out.b;clear eN dv dy gZ L aS bp;go_upto_region 5 with(go_at_call 556;refine(bH.out _ l _).mono ?_;rintro e bX ⟨⟨x,rfl,N⟩,rfl⟩;obtain rfl:=axv N)
 go_upto_region 8 with(go_at_call 556;refine(bH.out _ l _).mono ?_;rintro e bX ⟨⟨x,rfl,N⟩,rfl⟩;obtain rfl:=axx N)
 go_wp2;have K:=aK 2 o.out.g;obtain⟨u0,u1,u2,u3,u4,u5,u6⟩:=eX o.out.l;have cp:=bF o.out.l;have fX:=az l u s0;have R:=cS l u;have T:=az l f y.bo;have U:=az l f y.c1;have S:=az l f y.c2;have Q:=az l f y.c3;have Z:=az l f y.c4;have Y:=az l f y.c5;have lK:=az l f y.fe;have M:=cS l f;refine Bn 3 ?_;rw[py]
 go_wp2;go_still_tail 9,av;change wpList _ _ _ _ _ O.drew;have hZ:=G (o.out.K (lh O));clear fX T U S Q Z Y lK u0 u1 u2 u3 u4 u5 u6 bZ cp b8 K R M l o;generalize O.drew=bX at*;go_upto_region 12 with(go_at_call 557;refine(ab.out _).mono ?_;rintro e P ⟨⟨j0,rfl⟩,g⟩;have j:=G (hZ.out.K g);clear g hZ)
 cases j0 with
 |true=>
  have a:=j.out.b;have aF:=aK 2 j.out.g;have le:=bF j.out.g;have gq:=az a u s0;have PE:=cS a u;have aa:=cS a f;have hv:=az a f A.bo;have eD:=az a f A.c1;have e':=az a f A.c2;have hw:=az a f A.c3;have j6:=az a f A.c4;have ma:=az a f A.c5;have pJ:=az a f A.fe;obtain⟨g3,di,dL,fN,gt,g4,g9⟩:=eX j.out.o;obtain⟨z0,cy,dz,z3,z4,z5,eO⟩:=he j.out.o
  go_wp2;refine ki j.out.o ?_;exact⟨e7.some _ _ _ (aU.iW _ 1 _ 2 bO _ _ 0 _ _ _ _) (.gD 25 1 ⟨ao,ao,z,z,.inr ak⟩ (by
   have:10^3<=10^(2*m+1):=kO z z
   simp only[Int.natAbs]
   omega) z),iJ j.out.b z _ _ _ _ _ _ _⟩
 |false=>
  have g:=j.out.b;have K:=aK 2 j.out.g;have bZ:=bF j.out.g;obtain⟨u0,u1,u2,u3,u4,u5,u6⟩:=eX j.out.l;have cp:=bF j.out.l;have fX:=az g u V;have R:=cS g u;have T:=az g d B.bo;have U:=az g d B.c1;have S:=az g d B.c2;have Q:=az g d B.c3;have Z:=az g d B.c4;have Y:=az g d B.c5;have lK:=az g d B.fe;have M:=cS g d
  go_wp2;rw[py]
  go_wp2;go_still_tail 9,av;change wpList _ _ _ _ _ P.drew;have i3:=G (j.out.K (lh P));clear fX T U S Q Z Y lK u0 u1 u2 u3 u4 u5 u6 bZ cp K R M g j;generalize P.drew=a_ at*;go_upto_region 12 with(go_at_call 557;refine(ad.out _).mono ?_;rintro e bi ⟨⟨xF,rfl⟩,dm⟩;have n:=G (i3.out.K dm);clear dm i3)
  cases xF with
  |true=>
   have a:=n.out.b;have aF:=aK 2 n.out.g;have le:=bF n.out.g;have gq:=az a u V;have PE:=cS a u;have aa:=cS a d;have hv:=az a d C.bo;have eD:=az a d C.c1;have e':=az a d C.c2;have hw:=az a d C.c3;have j6:=az a d C.c4;have ma:=az a d C.c5;have pJ:=az a d C.fe;obtain⟨g3,di,dL,fN,gt,g4,g9⟩:=eX n.out.o;obtain⟨z0,cy,dz,z3,z4,z5,eO⟩:=he n.out.o
   go_wp2;refine ki n.out.o ?_;exact⟨e7.some _ _ _ (aU.iW _ 1 _ 2 bO _ _ 0 _ _ _ _) (.gD 3 0 ⟨ao,ao,z,z,.inl rfl⟩ (by
    have:10^3<=10^(2*m+1):=kO z z
    simp only[Int.natAbs]
    omega) z),iJ n.out.b z _ _ _ _ _ _ _⟩
  |false=>
   have K:=aK 2 n.out.g;have bZ:=bF n.out.g;obtain⟨g3,di,dL,fN,gt,g4,g9⟩:=eX n.out.o;obtain⟨z0,cy,dz,z3,z4,z5,eO⟩:=he n.out.o
   go_wp2;rw[py]
   go_wp2;refine ki n.out.o ?_;exact⟨e7.none _ _ _ 18 ak ak,iJ n.out.b z _ _ _ _ _ _ _⟩
end Go.bS
