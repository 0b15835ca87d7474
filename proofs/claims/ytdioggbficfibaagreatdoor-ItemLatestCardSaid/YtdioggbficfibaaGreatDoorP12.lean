/- ItemLatest, one part of the proof. -/
import Derived.Test.YtdioggbficfibaaGreatDoorP11
set_option linter.all false
set_option maxRecDepth 100000
set_option maxHeartbeats 16000000
namespace Go.bS
open Go Go.Proofs.Tryz Go.Proofs Go.RowKit Go.Lib Go.aJ
theorem awu(m:Nat)(op aG:ByteArray)(ea:List Nat)(f:zD)(w:World)(I:Value)(ca:Option Addr)(cl cc:Nat)(V:Option Addr)(rl rc:Nat) (Q:∀W,β w W->χ 107 #[op,aG,I,.slice ca cl cc] W (Dp ea)) (P:∀W,χ 184 #[op,aG] W (Do f)) (O:∀k∈ea,1<=k)(A:Option Addr)(ac:Nat)(l:List bC)(y:∀v∈l,∃n,e0 n v)(h:cz aV (aU aV 1) w A l) (JL:(op.toList==[105,102])=false)(NT:(op.toList==[99,111,108])=false)(S3:(op.toList==[116,101,120,116])=true)(an:e0 m (hG aG)): χ 407 #[op,aG,.slice A l ac,I,.slice ca cl cc,.slice V rl rc] w (e7 w m):=by
 have t:=G (wL.start w);have F:=G Q;have C:=G P;have o4:=G fun W (u:β w W)=>(cz.K (aU.mono aV 1) h u).2;have sk:=G y;have ff:=h.1;have BF:=G O;have T:=G an;clear an;clear Q P h y O;go_enter Ip,Ir;go_upto_region 1 with fail
 generalize w.alloc (.cells fh 42)=am at t⊢;have B:=t.out.b;go_upto_region 2 with(go_at_call 107;refine(F.out _ B).mono ?_;rintro e aq ⟨⟨KJ,KK,KL,rfl,fu⟩,H⟩;generalize q9:ea.length=i7)
 have eS:=G (t.out.K H);clear F t B H;by_cases J:l.length=i7
 ·have dC:((l.length:Int) !=(i7:Int))=false:=by simp[J]
  have gz:=G fun W (u:β aq W)=>(fu.K u).2;clear fu
  go_wp2;go_loopw [20,21] (fun i _ wr=>∃k:Nat,k<=l.length/\i=.int .i64 k/\β aq wr/\o8 ea l k) (fun i _ _=>l.length-(RowKit.intOf i).toNat);case atStart=>exact⟨0,dx _,rfl,br _ _,o8.zero _ _⟩
  case round=>
   obtain⟨k,aa,rfl,bg,qs⟩:=hrel;have eL:=G (eS.out.K bg);by_cases au:k<l;exact KT
   ·have q6:wS ea l:=qs.all (J.trans q9.symm) z;have U:=bg.size;clear qs gz o4 sk eS bg;go_upto_region 22 with(go_at_call 184;refine(C.out _).mono ?_;rintro e a ⟨⟨c,j,g,s,d,rfl,S,R⟩,bD⟩)
    have M:=eL.out.K bD;have N:=G (M.K (e4 a (.cells (eV c f.nm j f.k f.n f.dB f.ds g s d) 249)));have D:=cW a (.cells (eV c f.nm j f.k f.n f.dB f.ds g s d) 249);have Z:=G (S.K (e4 a (.cells (eV c f.nm j f.k f.n f.dB f.ds g s d) 249)));have lf:=G (o_.K R (e4 a (.cells (eV c f.nm j f.k f.n f.dB f.ds g s d) 249)));clear M bD eL S R C;generalize a.heap.size=i4 at*;generalize a.alloc (.cells (eV c f.nm j f.k f.n f.dB f.ds g s d) 249)=E at*;replace D:=G D;clear Z lf q6 U;have p':=G (VL aG E);have AM:w.heap.size<=E.heap.size:=N.out.b.size
    go_wp2_with (go_at_call 469;(with_reducible refine p'.out.mono ?_);rintro e oV ⟨rfl,oj⟩;have L:=G (N.out.K oj);have x:=L.out.o;obtain⟨g3,di,dL,fN,gt,g4,g9⟩:=eX x;obtain⟨z0,cy,dz,z3,z4,z5,eO⟩:=he x);refine ki x ?_;exact⟨e7.some _ _ _ (aU.iW _ 1 _ 1 aG 0 0 0 none 0 none 0) T,iJ L.out.b z _ _ _ _ _ _ _⟩
 exact Hi
theorem awt(m:Nat)(op aG:ByteArray)(ea:List Nat)(f:zD)(w:World)(I:Value)(ca:Option Addr)(cl cc:Nat)(V:Option Addr)(rl rc:Nat) (Q:∀W,β w W->χ 107 #[op,aG,I,.slice ca cl cc] W (Dp ea)) (P:∀W,χ 184 #[op,aG] W (Do f)) (O:∀k∈ea,1<=k)(B:Option Addr)(ac:Nat)(l:List bC)(A:∀v∈l,∃n,e0 n v)(h:cz aV (aU aV 1) w B l) (JL:(op.toList==[105,102])=false)(NT:(op.toList==[99,111,108])=false)(S3:(op.toList==[116,101,120,116])=false)(Zi:(op.toList==[110,117,109,98,101,114])=true)(an:e0 m (gD f.dB f.ds)): χ 407 #[op,aG,.slice B l ac,I,.slice ca cl cc,.slice V rl rc] w (e7 w m):=by
 have t:=G (wL.start w);have F:=G Q;have D:=G P;have o4:=G fun W (u:β w W)=>(cz.K (aU.mono aV 1) h u).2;have sk:=G A;have ff:=h.1;have BF:=G O;have T:=G an;clear an;clear Q P h A O;go_enter Ip,Ir;go_upto_region 1 with fail
 generalize w.alloc (.cells fh 42)=am at t⊢;have C:=t.out.b;go_upto_region 2 with(go_at_call 107;refine(F.out _ C).mono ?_;rintro e aq ⟨⟨KJ,KK,KL,rfl,fu⟩,H⟩;generalize q9:ea.length=i7)
 have eS:=G (t.out.K H);clear F t C H;by_cases J:l.length=i7
 ·have dC:((l.length:Int) !=(i7:Int))=false:=by simp[J]
  have gz:=G fun W (u:β aq W)=>(fu.K u).2;clear fu
  go_wp2;go_loopw [20,21] (fun i _ wr=>∃k:Nat,k<=l.length/\i=.int .i64 k/\β aq wr/\o8 ea l k) (fun i _ _=>l.length-(RowKit.intOf i).toNat);case atStart=>exact⟨0,dx _,rfl,br _ _,o8.zero _ _⟩
  case round=>
   obtain⟨k,aa,rfl,bg,qs⟩:=hrel;have eL:=G (eS.out.K bg);by_cases au:k<l;exact KT
   ·have q6:wS ea l:=qs.all (J.trans q9.symm) z;have U:=bg.size;clear qs gz o4 sk eS bg;go_upto_region 22 with(go_at_call 184;refine(D.out _).mono ?_;rintro e a ⟨⟨c,j,g,s,d,rfl,S,R⟩,bD⟩)
    have M:=eL.out.K bD;have N:=G (M.K (e4 a (.cells (eV c f.nm j f.k f.n f.dB f.ds g s d) 249)));have x:=cW a (.cells (eV c f.nm j f.k f.n f.dB f.ds g s d) 249);have Z:=G (S.K (e4 a (.cells (eV c f.nm j f.k f.n f.dB f.ds g s d) 249)));have lf:=G (o_.K R (e4 a (.cells (eV c f.nm j f.k f.n f.dB f.ds g s d) 249)));clear M bD eL S R D;generalize a.heap.size=i4 at*;generalize a.alloc (.cells (eV c f.nm j f.k f.n f.dB f.ds g s d) 249)=E at*;replace x:=G x;clear Z lf q6 U;obtain⟨-,-,-,f3,xa⟩:=ai1 x;have p':=G (U1 f.dB f.ds E);have AM:w.heap.size<=E.heap.size:=N.out.b.size
    go_wp2_with (go_at_call 470;(with_reducible refine p'.out.mono ?_);rintro e oV ⟨rfl,oj⟩;have L:=G (N.out.K oj);have y:=L.out.o;obtain⟨g3,di,dL,fN,gt,g4,g9⟩:=eX y;obtain⟨z0,cy,dz,z3,z4,z5,eO⟩:=he y);refine ki y ?_;exact⟨e7.some _ _ _ (aU.iW _ 1 _ 2 bO f.dB f.ds 0 none 0 none 0) T,iJ L.out.b z _ _ _ _ _ _ _⟩
 exact Hi
variable{B:Nat->Prop}{d cl cc rl rc:Nat}{w:World}{b4 a f:Int}{ca ra:Option Addr}
theorem aU.kind{v:bC}{b:Int}{c:ByteArray}(h:aU B d w (bM b4 c a f b ca cl cc ra rl rc) v):v.kind=b4:=by
 obtain⟨k,s,N,S,n,cs,aQ⟩:=v;obtain⟨_,_,_,_,e,_⟩:=h.gX;injection e with e
 injection e with e _
 injection e with _ e
 exact e.symm
theorem aU.art{v:bC}{F:Array Value}(h:aU B d w F v):∃k s N S n ca cl cc ra rl rc,F=bM k s N S n ca cl cc ra rl rc:=by
 obtain⟨k,s,N,S,n,cs,aQ⟩:=v;obtain⟨_,_,_,_,e,_⟩:=h.gX;exact⟨_,_,_,_,_,_,_,_,_,_,_,e⟩
theorem ay2{m:Nat}{v:bC}{F:Array Value}(an:e0 m v){w:World}(h:aU aV 1 w F v)(a:v.kind=0):χ 468 #[.agg F] w fun e w'=>ahw e:=by
 cases an with
 |gM e ae H=>obtain⟨_,_,_,_,rfl,_⟩:=h.gX;exact ajL _ _ _ _ _ ae H w
 |_=>exact absurd a (by simp[bC.kind,hG,gD,kq,l',hS])
theorem awr(m:Nat)(op aG:ByteArray)(ea:List Nat)(f:zD)(w:World)(bv:Value)(ca:Option Addr)(cl cc:Nat)(N:Option Addr)(rl rc:Nat) (o5:∀W,β w W->χ 107 #[.string op,.string aG,bv,.slice ca cl cc] W (Dp ea)) (o3:∀W,χ 184 #[.string op,.string aG] W (Do f)) (ku:∀k∈ea,1<=k)(aR:Option Addr)(ac:Nat)(l:List bC)(Z:∀v∈l,∃n,e0 n v)(h:cz aV (aU aV 1) w aR l) (JL:(op.toList==[105,102])=false)(NT:(op.toList==[99,111,108])=true)(cs:List (ByteArray×Nat))(ga:cs.length=cl)(M:Go.da.jd w ca cs)(ah:cs.length<=8)(Q:∃x∈cs,x.1=aG)(R:List bC)(iG:R.length=rl)(V:cs.length=R.length)(L:cz aV (aU aV 1) w N R)(S:∀v∈R,e0 m v): χ 407 #[.string op,.string aG,.slice aR l.length ac,bv,.slice ca cl cc,.slice N rl rc] w (e7 w.heap.size m):=by
 have E:=G (wL.start w);have bl:=G o5;have bH:=G o3;have o4:=G fun W (a:β w W)=>(cz.K (aU.mono aV 1) h a).2;have sk:=G Z;have ff:=h.1;have BF:=G ku;subst ga;subst iG;have af:=G fun W (a:β w W)=>aze cs R W ca N cc rc (M.K a) ah (fun v J=>⟨m,S v J⟩) (cz.K (aU.mono aV 1) L a);have IX:=G fun W (a:β w W)=>axu W ca cc cs aG (M.K a) ah Q;have ae:=G fun W (a:β w W)=>(cz.K (aU.mono aV 1) L a).2;have az:=G S;have aB:=G V;have ay:Hid (0<R.length):=G (by obtain⟨x,al,_⟩:=Q;have:=List.length_pos_of_mem al;omega);clear M Q L S V;clear o5 o3 h Z ku;go_enter Ip,Ir;go_upto_region 1 with fail
 generalize w.alloc (.cells fh 42)=am at E⊢;have aS:=E.out.b;go_upto_region 2 with(go_at_call 107;refine(bl.out _ aS).mono ?_;rintro e aq ⟨⟨KJ,KK,KL,rfl,fu⟩,bp⟩;generalize q9:ea.length=i7)
 have eS:=G (E.out.K bp);clear bl E aS bp;by_cases de:l.length=i7
 ·have dC:((l.length:Int) !=(i7:Int))=false:=by simp[de]
  have gz:=G fun W (a:β aq W)=>(fu.K a).2;clear fu
  go_wp2;go_loopw [20,21] (fun i _ wr=>∃k:Nat,k<=l.length/\i=.int .i64 k/\β aq wr/\o8 ea l k) (fun i _ _=>l.length-(RowKit.intOf i).toNat);case atStart=>exact⟨0,dx _,rfl,br _ _,o8.zero _ _⟩
  case round=>
   obtain⟨k,aF,rfl,bg,qs⟩:=hrel;have eL:=G (eS.out.K bg);by_cases au:k<l.length
   ·exact KT
   ·have q6:wS ea l:=qs.all (de.trans q9.symm) z;have dT:=bg.size;clear qs gz o4 sk eS bg;go_upto_region 22 with(go_at_call 184;refine(bH.out _).mono ?_;rintro e d ⟨⟨s,y,u,C,t,rfl,qw,pS⟩,bD⟩)
    have i3:=eL.out.K bD;have P:=G (i3.K (e4 d (.cells (eV s f.nm.length y f.k f.n f.dB f.ds u C t) 249)));have b_:=cW d (.cells (eV s f.nm.length y f.k f.n f.dB f.ds u C t) 249);have lc:=G (qw.K (e4 d (.cells (eV s f.nm.length y f.k f.n f.dB f.ds u C t) 249)));have lf:=G (o_.K pS (e4 d (.cells (eV s f.nm.length y f.k f.n f.dB f.ds u C t) 249)));clear i3 bD eL qw pS bH;generalize d.heap.size=i4 at*;generalize d.alloc (.cells (eV s f.nm.length y f.k f.n f.dB f.ds u C t) 249)=bi at*;clear b_ lc lf q6 dT;have D:=af.out bi P.out.b;replace D:=G D;go_upto_region 25 with(go_at_call 467;(with_reducible refine D.out.mono ?_);rintro e w7 ⟨⟨aD,rfl⟩,iu⟩)
    have g:=G (P.out.K iu);clear P D af iu;cases aD with
    |false=>
     have O:=g.out.o;obtain⟨g3,di,dL,fN,gt,g4,g9⟩:=eX O;obtain⟨z0,cy,dz,z3,z4,z5,eO⟩:=he O
     go_wp2;refine ki O ?_;exact⟨e7.none _ _ _ 1 ak ak,iJ g.out.b z _ _ _ _ _ _ _⟩
    |true=>
     go_upto_region 27 with fail
     have ab:=G (IX.out w7 g.out.b);obtain⟨rb,aE,rfl,_,iw,kE⟩:=ae.out w7 g.out.b ay.out;have ad:=G kE;have ax:rb<w7.heap.size:=iw;clear kE ae iw;go_upto_region 28 with(go_at_call 185;(with_reducible refine ab.out.mono ?_);rintro e A ⟨⟨j,aa,rfl,Km⟩,aw⟩;have ai:j<R.length:=(by have:=aB.out;omega);obtain⟨b4,bV,b1,cP,b5,gJ,nI,gK,gu,nW,gv,ag,Y⟩:=ad.out j ai;have an:=az.out _ (fP ai);generalize R[j]=v at*;have iN:=G ag;have cm:=G an;subst aw;have eN:=Y.bo;have dv:=Y.c1;have dy:=Y.c2;have gj:=Y.c3;have hF:=Y.c4;have hQ:=Y.c5;have i8:=Y.fe;have hA:(0:Int)<=(j:Int):=z;have gU:(j:Int)<R.length:=z;clear ag an Y Km)
     have U:=e4 w7 (.cells (bM b4 bV b1 cP b5 gJ nI gK gu nW gv) 42);have F:=G (g.out.K U);have I:=G (iN.out.K U);have aC:=cW w7 (.cells (bM b4 bV b1 cP b5 gJ nI gK gu nW gv) 42);clear eN dv dy gj hF hQ i8 iN g ad ax U hA gU ab;generalize w7.heap.size=vS at*;generalize w7.alloc (.cells (bM b4 bV b1 cP b5 gJ nI gK gu nW gv) 42)=A at*;obtain⟨fo,b8,cr,ej,i9,l2,ll⟩:=eX aC;clear aC;by_cases GU:b4=0
     ·subst GU;have C2:=G (ay2 cm.out I.out I.out.kind)
      go_wp2_with (go_at_call 468;(with_reducible refine C2.out.mono ?_);rintro e oV ⟨⟨rW,rfl,ao,ap⟩,T⟩;have B:=G (F.out.K T);have c:=B.out.o;obtain⟨g3,di,dL,fN,gt,g4,g9⟩:=eX c;obtain⟨z0,cy,dz,z3,z4,z5,eO⟩:=he c);refine ki c ?_;exact⟨e7.none _ _ _ rW ao ap,iJ B.out.b z _ _ _ _ _ _ _⟩
     ·have aH:(b4==0)=false:=by simpa using GU
      have AM:w.heap.size<=A.heap.size:=F.out.b.size;have kb:w.heap.size<A.heap.size:=bF F.out.o;have zA:=G (ND 0 A _ _ I.out)
      go_wp2_with (go_at_call 466;(with_reducible refine zA.out.mono ?_);rintro e oV ⟨⟨aI,rfl,H⟩,T⟩;obtain⟨it,bJ,j7,lT,kr,mb,lV,mc,md,lX,me,rfl⟩:=H.art;have BB:=G H;clear H;have B:=G (F.out.K T);have c:=B.out.o;obtain⟨g3,di,dL,fN,gt,g4,g9⟩:=eX c;obtain⟨z0,cy,dz,z3,z4,z5,eO⟩:=he c);refine ki c ?_;exact⟨e7.put (base:=A.heap.size) (e7.some _ _ _ BB.out cm.out) kb AM,iJ B.out.b z _ _ _ _ _ _ _⟩
 ·exact Hi
theorem awJ{m:Nat}{N S n:Int}{s:ByteArray}{cs:List ByteArray}{aQ:List (List bC)}(an:e0 m (.mk a s N S n cs aQ))(d:a=4){i c:Int}{g:ByteArray}(h:aU aV 1 w (bM b4 g f i c ca cl cc ra rl rc) (.mk a s N S n cs aQ)):c=0∨c=1:=by
 obtain⟨_,_,_,_,e,_⟩:=h.gX;injection e with e
 injection e with _ e
 injection e with _ e
 injection e with _ e
 injection e with _ e
 injection e with e _
 injection e with _ e
 subst d e;cases an with
 |l' b A=>exact A
theorem aws(m:Nat)(op aG:ByteArray)(g:List Nat)(f:zD)(w:World)(bv:Value)(ca:Option Addr)(cl cc:Nat)(fk:Option Addr)(rl rc:Nat) (o5:∀W,β w W->χ 107 #[op,aG,bv,.slice ca cl cc] W (Dp g)) (o3:∀W,χ 184 #[op,aG] W (Do f)) (ku:∀k∈g,1<=k)(aR:Option Addr)(ac:Nat)(l:List bC)(aa:∀v∈l,∃n,e0 n v)(h:cz aV (aU aV 1) w aR l) (JL:(op.toList==[105,102])=true)(GV:g.length=3)(Y:∀v∈l,e0 m v): χ 407 #[op,aG,.slice aR l ac,bv,.slice ca cl cc,.slice fk rl rc] w (e7 w m):=by
 have B:=G (wL.start w);have bl:=G o5;have bH:=G o3;have T:=G fun W (O:β w W)=>(cz.K (aU.mono aV 1) h O).2;have sk:=G aa;have ff:=h.1;have V:=G ku;have E:=G Y;clear Y;clear o5 o3 h aa ku;go_enter Ip,Ir;go_upto_region 1 with fail
 generalize w.alloc (.cells fh 42)=am at B⊢;have aS:=B.out.b;go_upto_region 2 with(go_at_call 107;refine(bl.out _ aS).mono ?_;rintro e y ⟨⟨KJ,KK,KL,rfl,fu⟩,bp⟩;generalize q9:g.length=i7)
 have eS:=G (B.out.K bp);clear bl B aS bp;by_cases de:l.length=i7
 ·have dC:((l.length:Int) !=(i7:Int))=false:=by simp[de]
  have R:=G fun W (O:β y W)=>(fu.K O).2;clear fu;have nN:l.length=3:=z;have ab:i7=3:=z;subst ab;obtain⟨dR,c,rfl,_,jl,jw⟩:=T.out _ eS.out.b z;obtain⟨D,ap,rfl,Z,GW⟩:=R.out _ (br _ _) z;obtain⟨b4,bV,b1,cP,b5,gJ,nI,gK,gu,nW,gv,ag,d⟩:=jw 0 z;have eN:=d.bo;have dv:=d.c1;have dy:=d.c2;have gj:=d.c3;have S:=d.c4;have hQ:=d.c5;have i8:=d.fe;simp only[uL,h7]at eN dv dy gj S hQ i8;have yR:dR<y.heap.size:=jl;have ae:D<y.heap.size:=Z;have C:=E.out l[0] (fP _);have Dd:=G d;clear d;rw[nN];generalize KA:l[0]=v0 at*;obtain⟨Ih,vs,ah,ai,an,al,af⟩:=v0;have pA:=G (Sw Ih ah ai an vs al af C 4 z _ _ ag);go_upto_region 8 with(go_at_call 465;refine(pA.out).mono ?_;rintro e bn ⟨⟨U,rfl,ol,la,lE⟩,A⟩)
  have mY:=G (eS.out.K A);by_cases qu:U=0
  ·subst qu;have qv:=awJ C (lE rfl) ag;have qf:=G A;obtain⟨c6,kH,Zm,_,s,t⟩:=T.out _ mY.out.b z;obtain⟨au,aw,ao,u,x⟩:=R.out _ qf z;cases Zm;cases ao;have azK:=az A yR S;clear jw GW T R ag C Dd jl Z eN dv dy gj S hQ i8 A yR ae pA KA;rcases qv with rfl|rfl
   ·obtain⟨dF,gN,c9,ef,eK,nH,SJ,oc,nl,Vp,nn,i,a⟩:=t 2 z;have j:=E.out l[2] (fP _);have ad:=V.out g[2] (fP _);have t0:=x 2 z;generalize l[2]=Q at*;generalize g[2]=P at*;have fX:=a.bo;have cn:=a.c1;have dw:=a.c2;have er:=a.c3;have j0:=a.c4;have uq:=a.c5;have xF:=a.fe;have ab4:dR<bn.heap.size:=s;have anx:D<bn.heap.size:=u;have o2:=G i;have lO:=G j;clear a t x i j s u;simp only[Nat.reduceMul]at fX cn dw er j0 uq xF;obtain⟨M,H,I,J,N,L,F⟩:=Q;go_upto_region 11 with fail
    go_still_tail 8,av;change wpList _ _ _ _ _ bn.drew;have bD:=lh bn;have qh:=G (mY.out.K bD);have uR:=G (o2.out.K bD);have Bw:=G (Sw M I J N H L F lO (P:Int) z _ _ uR);have hv:bn.drew.cell? ⟨dR,c+14,none⟩=_:=fX;have eD:bn.drew.cell? ⟨dR,c+14+1,none⟩=_:=cn;have e':bn.drew.cell? ⟨dR,c+14+2,none⟩=_:=dw;have hw:bn.drew.cell? ⟨dR,c+14+3,none⟩=_:=er;have j6:bn.drew.cell? ⟨dR,c+14+4,none⟩=_:=j0;have ma:bn.drew.cell? ⟨dR,c+14+5,none⟩=_:=uq;have pJ:bn.drew.cell? ⟨dR,c+14+6,none⟩=_:=xF;exact an2
   ·obtain⟨dF,gN,c9,ef,eK,nH,SJ,oc,nl,Vp,nn,i,a⟩:=t 1 z;have j:=E.out l[1] (fP _);have ad:=V.out g[1] (fP _);have t0:=x 1 z;generalize l[1]=Q at*;generalize g[1]=P at*;have fX:=a.bo;have cn:=a.c1;have dw:=a.c2;have er:=a.c3;have j0:=a.c4;have uq:=a.c5;have xF:=a.fe;have ab4:dR<bn.heap.size:=s;have anx:D<bn.heap.size:=u;have o2:=G i;have lO:=G j;clear a t x i j s u;simp only[Nat.reduceMul]at fX cn dw er j0 uq xF;obtain⟨M,H,I,J,N,L,F⟩:=Q;go_upto_region 11 with fail
    go_still_tail 8,av;change wpList _ _ _ _ _ bn.drew;have bD:=lh bn;have qh:=G (mY.out.K bD);have uR:=G (o2.out.K bD);have Bw:=G (Sw M I J N H L F lO (P:Int) z _ _ uR);have hv:bn.drew.cell? ⟨dR,c+7,none⟩=_:=fX;have eD:bn.drew.cell? ⟨dR,c+7+1,none⟩=_:=cn;have e':bn.drew.cell? ⟨dR,c+7+2,none⟩=_:=dw;have hw:bn.drew.cell? ⟨dR,c+7+3,none⟩=_:=er;have j6:bn.drew.cell? ⟨dR,c+7+4,none⟩=_:=j0;have ma:bn.drew.cell? ⟨dR,c+7+5,none⟩=_:=uq;have pJ:bn.drew.cell? ⟨dR,c+7+6,none⟩=_:=xF;exact an2
  ·have aj:(U !=0)=true:=by simpa using qu
   have em:=mY.out.o;obtain⟨g3,di,dL,fN,gt,g4,g9⟩:=eX em;obtain⟨z0,cy,dz,z3,z4,z5,eO⟩:=he em
   go_wp2;refine ki em ?_;exact⟨e7.none _ _ _ U z la,iJ mY.out.b z _ _ _ _ _ _ _⟩
 exact Hi
end Go.bS
namespace Go.bS
open Go Go.Proofs Go.RowKit Go.Lib Go.aJ
open Go.da (cU bA jd)
open Go.bh.N (lM)
theorem aFI(S:cU)(g:Nat)(j:List Nat)(z:fO S ⟨g,⟨#[99,111,110,99,97,116]⟩,⟨#[]⟩,j⟩ [1,1]=true)(B:gV ⟨[],0,0,0,0,none⟩ (gW ⟨#[99,111,110,99,97,116]⟩ ⟨#[]⟩)=true):lL S ⟨g,⟨#[99,111,110,99,97,116]⟩,⟨#[]⟩,j⟩:=by
 intro m w f ca cc q t y rc R M P Q e ac l fG i c;have u:=fun W (d:β w W)=>qL S _ _ z W f ca cc (q.K d) (t.K d);have A:=fun W=>qH _ _ _ B W;refine Sv m ⟨#[99,111,110,99,97,116]⟩ ⟨#[]⟩ [1,1] ⟨[],0,0,0,0,none⟩ w f ca _ cc y _ rc u A ak e ac l i.any c dP dP dP dP dP dP (by simp only[jP,gl,kM];decide) (fun k W F K J N G d D ag=>?_);have c:=cz.K (aU.mono aV 1) c d;obtain⟨L,O,a,b,rfl,x,b4,r,n,H,I,C,E⟩:=i.lm k;obtain⟨bP,rfl,t0⟩:=r.Hp x;obtain⟨o,rfl,s⟩:=n.Hp b4;exact aKh _ _ _ _ _ _ _ _ _ _ _ m bP o t0 s W e ac c
theorem apB(S:cU)(g:Nat)(i:List Nat)(t:fO S ⟨g,⟨#[117,112,112,101,114]⟩,⟨#[]⟩,i⟩ [1]=true)(x:gV ⟨[],0,0,0,0,none⟩ (gW ⟨#[117,112,112,101,114]⟩ ⟨#[]⟩)=true):lL S ⟨g,⟨#[117,112,112,101,114]⟩,⟨#[]⟩,i⟩:=by
 intro m w e ca cc k o s rc R E G J d ac l fG f b;have q:=fun W (c:β w W)=>qL S _ _ t W e ca cc (k.K c) (o.K c);have u:=fun W=>qH _ _ _ x W;refine Sv m ⟨#[117,112,112,101,114]⟩ ⟨#[]⟩ [1] ⟨[],0,0,0,0,none⟩ w e ca _ cc s _ rc q u ak d ac l f.any b dP dP dP dP dP dP (by simp only[jP,gl,kM];decide) (fun j W A D C F B c y ag=>?_);have b:=cz.K (aU.mono aV 1) b c;obtain⟨v,a,rfl,r,n,H,I,z⟩:=f.xy j;obtain⟨bP,rfl,t0⟩:=n.Hp r;exact aKk _ _ _ _ _ _ _ _ _ _ _ m bP t0 W d ac b
theorem aFL(S:cU)(g:Nat)(i:List Nat)(t:fO S ⟨g,⟨#[101,120,116,114,97,99,116]⟩,⟨#[92,100,43,35,49]⟩,i⟩ [1]=true)(x:gV ⟨[],0,1,0,0,some 1⟩ (gW ⟨#[101,120,116,114,97,99,116]⟩ ⟨#[92,100,43,35,49]⟩)=true):lL S ⟨g,⟨#[101,120,116,114,97,99,116]⟩,⟨#[92,100,43,35,49]⟩,i⟩:=by
 intro m w e ca cc k o s rc R E G J d ac l fG f b;have q:=fun W (c:β w W)=>qL S _ _ t W e ca cc (k.K c) (o.K c);have u:=fun W=>qH _ _ _ x W;refine Sv m ⟨#[101,120,116,114,97,99,116]⟩ ⟨#[92,100,43,35,49]⟩ [1] ⟨[],0,1,0,0,some 1⟩ w e ca _ cc s _ rc q u ak d ac l f.any b dP dP dP dP dP dP (by simp only[jP,gl,kM];decide) (fun j W A D C F B c y ag=>?_);have b:=cz.K (aU.mono aV 1) b c;obtain⟨v,a,rfl,r,n,H,I,z⟩:=f.xy j;obtain⟨bP,rfl,t0⟩:=n.Hp r;obtain⟨rfl,ag⟩:=ag;exact aKi _ _ _ _ 0 _ _ _ 0 _ _ m bP t0 1 (.inl rfl) W d ac b ag
theorem aFP(S:cU)(g:Nat)(i:List Nat)(t:fO S ⟨g,⟨#[109,97,116,99,104]⟩,⟨#[92,117,43]⟩,i⟩ [1]=true)(x:gV ⟨[],0,0,0,0,some 2⟩ (gW ⟨#[109,97,116,99,104]⟩ ⟨#[92,117,43]⟩)=true):lL S ⟨g,⟨#[109,97,116,99,104]⟩,⟨#[92,117,43]⟩,i⟩:=by
 intro m w e ca cc k o s rc R E G J d ac l fG f b;have q:=fun W (c:β w W)=>qL S _ _ t W e ca cc (k.K c) (o.K c);have u:=fun W=>qH _ _ _ x W;refine Sv m ⟨#[109,97,116,99,104]⟩ ⟨#[92,117,43]⟩ [1] ⟨[],0,0,0,0,some 2⟩ w e ca _ cc s _ rc q u ak d ac l f.any b dP dP dP dP dP dP (by simp only[jP,gl,kM];decide) (fun j W A D C F B c y ag=>?_);have b:=cz.K (aU.mono aV 1) b c;obtain⟨v,a,rfl,r,n,H,I,z⟩:=f.xy j;obtain⟨bP,rfl,t0⟩:=n.Hp r;obtain⟨rfl,ag⟩:=ag;exact aKj _ _ _ _ _ _ _ _ 0 _ _ m bP t0 2 (.inr rfl) W d ac b ag
theorem aFM(S:cU)(g:Nat)(d:List Nat)(o:fO S ⟨g,⟨#[105,102]⟩,⟨#[116,101,120,116]⟩,d⟩ [4,1,1]=true)(r:gV ⟨[],1,0,0,0,none⟩ (gW ⟨#[105,102]⟩ ⟨#[116,101,120,116]⟩)=true):lL S ⟨g,⟨#[105,102]⟩,⟨#[116,101,120,116]⟩,d⟩:=by
 intro m w b ca cc i j n rc R s t u f ac l fG c e;have k:=fun W (a:β w W)=>qL S _ _ o W b ca cc (i.K a) (j.K a);have q:=fun W=>qH _ _ _ r W;exact aws m ⟨#[105,102]⟩ _ [4,1,1] ⟨[],1,0,0,0,none⟩ w b ca _ cc n _ rc k q ak f ac l c.any e dP rfl c.all
theorem P9(S:cU)(g:Nat)(aG:ByteArray)(c:List Nat)(o:fO S ⟨g,⟨#[116,101,120,116]⟩,aG,c⟩ []=true)(r:gV ⟨[],0,0,0,0,none⟩ (gW ⟨#[116,101,120,116]⟩ aG)=true)(an:kp aG):lL S ⟨g,⟨#[116,101,120,116]⟩,aG,c⟩:=by
 intro m w b ca cc f j n rc R s t u e ac l fG i d;have k:=fun W (a:β w W)=>qL S _ _ o W b ca cc (f.K a) (j.K a);have q:=fun W=>qH _ _ _ r W;exact awu m ⟨#[116,101,120,116]⟩ _ [] ⟨[],0,0,0,0,none⟩ w b ca _ cc n _ rc k q ao e ac l i.any d dP dP dP (.hG aG an)
theorem ac3(n:Nat)(S:cU)(g:Nat)(aG:ByteArray)(d:List Nat)(q:fO S ⟨g,⟨#[110,117,109,98,101,114]⟩,aG,d⟩ []=true)(s:gV ⟨[],0,0,n,0,none⟩ (gW ⟨#[110,117,109,98,101,114]⟩ aG)=true)(u:n<=1000):lL S ⟨g,⟨#[110,117,109,98,101,114]⟩,aG,d⟩:=by
 intro m w b ca cc i j o rc R x y A f ac l fG c e;have k:=fun W (a:β w W)=>qL S _ _ q W b ca cc (i.K a) (j.K a);have r:=fun W=>qH _ _ _ s W;have t:=c.sum;exact awt m ⟨#[110,117,109,98,101,114]⟩ _ [] ⟨[],0,0,n,0,none⟩ w b ca _ cc o _ rc k r ao f ac l c.any e dP dP dP dP (e0.mono (n:=1) (.gD n 0 (by simp only[hn];omega) z z) z)
theorem ro(S:cU)(g:Nat)(aG:ByteArray)(e:List Nat)(r:fO S ⟨g,⟨#[99,111,108]⟩,aG,e⟩ []=true)(t:gV ⟨[aG],0,0,0,0,none⟩ (gW ⟨#[99,111,108]⟩ aG)=true)(y:∃x∈S.bw,x.1=aG)(o:S.bw.length<=8):lL S ⟨g,⟨#[99,111,108]⟩,aG,e⟩:=by
 intro m w b ca cc j d q rc R k u A i ac l fG c f;have n:=fun W (a:β w W)=>qL S _ _ r W b ca cc (j.K a) (d.K a);have s:=fun W=>qH _ _ _ t W;have B:=c.sum;exact awr m ⟨#[99,111,108]⟩ _ [] ⟨[aG],0,0,0,0,none⟩ w b ca _ cc q _ rc n s ao i ac l c.any f dP dP S.bw rfl d o y R rfl u k (fun v J=>(A v J).mono z)
end Go.bS
namespace Go.bS
open Go Go.Proofs.Tryz Go.Proofs Go.RowKit Go.Lib Go.aJ
theorem Su(m:Nat)(op aG:ByteArray)(ea:List Nat)(f:zD)(w:World)(I:Value)(ca:Option Addr)(cl cc:Nat)(fk:Option Addr)(rl rc:Nat) (o5:∀W,β w W->χ 107 #[op,aG,I,.slice ca cl cc] W (Dp ea)) (o3:∀W,χ 184 #[op,aG] W (Do f)) (ku:∀k∈ea,1<=k)(H:Option Addr)(ac:Nat)(l:List bC)(aa:∀v∈l,∃n,e0 n v)(h:cz aV (aU aV 1) w H l) (JL:(op.toList==[105,102])=false)(NT:(op.toList==[99,111,108])=false)(S3:(op.toList==[116,101,120,116])=false)(Zi:(op.toList==[110,117,109,98,101,114])=false)(ae:(op.toList==[100,97,116,101])=false)(ad:(op.toList==[98,111,111,108])=false)(l0:op∉jP)(xj:op∈no) (jf:wS ea l->∀W g u j s t,β w W->hc aV W g f.nm->o_ W j s f.p->χ 475 #[op,.agg (eV g f.nm u f.k f.n f.dB f.ds j s t),I,.slice H l ac] W (e7 W m)): χ 407 #[op,aG,.slice H l ac,I,.slice ca cl cc,.slice fk rl rc] w (e7 w m):=by
 have E:=G (wL.start w);have bl:=G o5;have bH:=G o3;have qb:=G jf;have o4:=G fun W (d:β w W)=>(cz.K (aU.mono aV 1) h d).2;have sk:=G aa;have ff:=h.1;have BF:=G ku;have MH:=G l0;clear l0;have XM:=G xj;clear xj;clear o5 o3 jf h aa ku;go_enter Ip,Ir;go_upto_region 1 with fail
 generalize w.alloc (.cells fh 42)=am at E⊢;have aS:=E.out.b;go_upto_region 2 with(go_at_call 107;refine(bl.out _ aS).mono ?_;rintro e aq ⟨⟨KJ,KK,KL,rfl,fu⟩,bp⟩;generalize q9:ea.length=i7)
 have eS:=G (E.out.K bp);clear bl E aS bp;by_cases J:l.length=i7
 ·have dC:((l.length:Int) !=(i7:Int))=false:=by simp[J]
  have gz:=G fun W (d:β aq W)=>(fu.K d).2;clear fu
  go_wp2;go_loopw [20,21] (fun i _ wr=>∃k:Nat,k<=l.length/\i=.int .i64 k/\β aq wr/\o8 ea l k) (fun i _ _=>l.length-(RowKit.intOf i).toNat);case atStart=>exact⟨0,dx _,rfl,br _ _,o8.zero _ _⟩
  case round=>
   obtain⟨k,ab,rfl,bg,qs⟩:=hrel;have eL:=G (eS.out.K bg);by_cases au:k<l;exact KT
   ·have q6:wS ea l:=qs.all (J.trans q9.symm) z;have dT:=bg.size;clear qs gz o4 sk eS bg;go_upto_region 22 with(go_at_call 184;refine(bH.out _).mono ?_;rintro e C ⟨⟨g,u,j,s,t,rfl,qw,pS⟩,bD⟩)
    have i3:=eL.out.K bD;have c:=G (i3.K (e4 C (.cells (eV g f.nm u f.k f.n f.dB f.ds j s t) 249)));have a:=cW C (.cells (eV g f.nm u f.k f.n f.dB f.ds j s t) 249);have x:=G (qw.K (e4 C (.cells (eV g f.nm u f.k f.n f.dB f.ds j s t) 249)));have y:=G (o_.K pS (e4 C (.cells (eV g f.nm u f.k f.n f.dB f.ds j s t) 249)));clear i3 bD eL qw pS bH;generalize C.heap.size=i4 at*;generalize C.alloc (.cells (eV g f.nm u f.k f.n f.dB f.ds j s t) 249)=D at*;replace a:=G a;go_upto_region 39 with fail
    have N:hc aV (D.alloc (.cells (jP.map Value.string).toArray 9)) (some ⟨D,0,none⟩) jP:=QD D jP ak;have L:=G (M7 _ _ 9 jP op N false ⟨fun h=>absurd h ak,fun h=>absurd h MH⟩);have A:=G (fun(W:World) (e:D.alloc (.cells (jP.map Value.string).toArray 9)=W)=>e▸e4 D (.cells (jP.map Value.string).toArray 9));clear N;go_upto_region 41 with(go_at_call 473;refine(L.out).mono ?_;rintro e w7 ⟨rfl,d⟩;replace A:=G (A.out _ d);clear d L)
    have Q:=G (c.out.K A);have M:=G (Ma.P6 a A);have O:=G (x.out.K A);have P:=G (o_.K y A);clear A c a x y;have c:=Q;have a:=M;have x:=O;have y:=P;clear Q M O P;go_upto_region 41 with fail
    have Z:hc aV (w7.alloc (.cells (no.map Value.string).toArray 9)) (some ⟨w7,0,none⟩) no:=QD w7 no ak;have R:=G (M7 _ _ 8 no op Z true ⟨fun _=>XM.out,fun _=>rfl⟩);have B:=G (fun(W:World) (e:w7.alloc (.cells (no.map Value.string).toArray 9)=W)=>e▸e4 w7 (.cells (no.map Value.string).toArray 9));clear Z;go_upto_region 42 with(go_at_call 473;refine(R.out).mono ?_;rintro e dc ⟨rfl,d⟩;replace B:=G (B.out _ d);clear d R)
    have S:=G (c.out.K B);have T:=G (Ma.P6 a B);have U:=G (x.out.K B);have V:=G (o_.K y B);clear B c a x y;have c:=S;have a:=T;have x:=U;have y:=V;clear S T U V;obtain⟨k6,hL,hx,f3,xa,f5⟩:=f_ a;have F:=qb.out q6 dc g u j s t c.out.b x y;rw[J]at F;replace F:=G F;have AM:w.heap.size<=dc.heap.size:=c.out.b.size;have kb:w.heap.size<dc.heap.size:=bF c.out.o;clear qb x y a q6 dT
    go_wp2_with (go_at_call 475;(with_reducible refine F.out.mono ?_);rintro e oV ⟨⟨it,bJ,j7,lT,kr,mb,lV,mc,md,lX,me,err,rfl,ol,la,lE⟩,oj⟩;have dq:=G (c.out.K oj);have hq:=dq.out.o;obtain⟨g3,di,dL,fN,gt,g4,g9⟩:=eX hq;obtain⟨z0,cy,dz,z3,z4,z5,eO⟩:=he hq);exact aoh
 exact Hi
theorem Jq(m:Nat)(op aG:ByteArray)(ea:List Nat)(f:zD)(w:World)(bv:Value)(ca:Option Addr)(cl cc:Nat)(fk:Option Addr)(rl rc:Nat) (o5:∀W,β w W->χ 107 #[op,aG,bv,.slice ca cl cc] W (Dp ea)) (o3:∀W,χ 184 #[op,aG] W (Do f)) (ku:∀k∈ea,1<=k)(H:Option Addr)(ac:Nat)(l:List bC)(Z:∀v∈l,∃n,e0 n v)(h:cz aV (aU aV 1) w H l) (JL:(op.toList==[105,102])=false)(NT:(op.toList==[99,111,108])=false)(S3:(op.toList==[116,101,120,116])=false)(Zi:(op.toList==[110,117,109,98,101,114])=false)(ad:(op.toList==[100,97,116,101])=false)(ab:(op.toList==[98,111,111,108])=false)(l0:op∉jP)(xj:op∉no) (jf:wS ea l->∀W g u j s t,β w W->hc aV W g f.nm->o_ W j s f.p->χ 476 #[op,aG,.agg (eV g f.nm u f.k f.n f.dB f.ds j s t),.slice H l ac] W (e7 W m)): χ 407 #[op,aG,.slice H l ac,bv,.slice ca cl cc,.slice fk rl rc] w (e7 w m):=by
 have E:=G (wL.start w);have bl:=G o5;have bH:=G o3;have qb:=G jf;have o4:=G fun W (d:β w W)=>(cz.K (aU.mono aV 1) h d).2;have sk:=G Z;have ff:=h.1;have BF:=G ku;have MH:=G l0;clear l0;have XM:=G xj;clear xj;clear o5 o3 jf h Z ku;go_enter Ip,Ir;go_upto_region 1 with fail
 generalize w.alloc (.cells fh 42)=am at E⊢;have aS:=E.out.b;go_upto_region 2 with(go_at_call 107;refine(bl.out _ aS).mono ?_;rintro e aq ⟨⟨KJ,KK,KL,rfl,fu⟩,bp⟩;generalize q9:ea.length=i7)
 have eS:=G (E.out.K bp);clear bl E aS bp;by_cases I:l.length=i7
 ·have dC:((l.length:Int) !=(i7:Int))=false:=by simp[I]
  have gz:=G fun W (d:β aq W)=>(fu.K d).2;clear fu
  go_wp2;go_loopw [20,21] (fun i _ wr=>∃k:Nat,k<=l.length/\i=.int .i64 k/\β aq wr/\o8 ea l k) (fun i _ _=>l.length-(RowKit.intOf i).toNat);case atStart=>exact⟨0,dx _,rfl,br _ _,o8.zero _ _⟩
  case round=>
   obtain⟨k,aa,rfl,bg,qs⟩:=hrel;have eL:=G (eS.out.K bg);by_cases au:k<l;exact KT
   ·have q6:wS ea l:=qs.all (I.trans q9.symm) z;have dT:=bg.size;clear qs gz o4 sk eS bg;go_upto_region 22 with(go_at_call 184;refine(bH.out _).mono ?_;rintro e C ⟨⟨g,u,j,s,t,rfl,qw,pS⟩,bD⟩)
    have i3:=eL.out.K bD;have c:=G (i3.K (e4 C (.cells (eV g f.nm u f.k f.n f.dB f.ds j s t) 249)));have a:=cW C (.cells (eV g f.nm u f.k f.n f.dB f.ds j s t) 249);have x:=G (qw.K (e4 C (.cells (eV g f.nm u f.k f.n f.dB f.ds j s t) 249)));have y:=G (o_.K pS (e4 C (.cells (eV g f.nm u f.k f.n f.dB f.ds j s t) 249)));clear i3 bD eL qw pS bH;generalize C.heap.size=i4 at*;generalize C.alloc (.cells (eV g f.nm u f.k f.n f.dB f.ds j s t) 249)=D at*;replace a:=G a;go_upto_region 39 with fail
    have M:hc aV (D.alloc (.cells (jP.map Value.string).toArray 9)) (some ⟨D,0,none⟩) jP:=QD D jP ak;have J:=G (M7 _ _ 9 jP op M false ⟨fun h=>absurd h ak,fun h=>absurd h MH⟩);have A:=G (fun(W:World) (e:D.alloc (.cells (jP.map Value.string).toArray 9)=W)=>e▸e4 D (.cells (jP.map Value.string).toArray 9));clear M;go_upto_region 41 with(go_at_call 473;refine(J.out).mono ?_;rintro e w7 ⟨rfl,d⟩;replace A:=G (A.out _ d);clear d J)
    have P:=G (c.out.K A);have L:=G (Ma.P6 a A);have N:=G (x.out.K A);have O:=G (o_.K y A);clear A c a x y;have c:=P;have a:=L;have x:=N;have y:=O;clear P L N O;go_upto_region 41 with fail
    have V:hc aV (w7.alloc (.cells (no.map Value.string).toArray 9)) (some ⟨w7,0,none⟩) no:=QD w7 no ak;have Q:=G (M7 _ _ 8 no op V false ⟨fun h=>absurd h ak,fun h=>absurd h XM⟩);have B:=G (fun(W:World) (e:w7.alloc (.cells (no.map Value.string).toArray 9)=W)=>e▸e4 w7 (.cells (no.map Value.string).toArray 9));clear V;go_upto_region 43 with(go_at_call 473;refine(Q.out).mono ?_;rintro e dc ⟨rfl,d⟩;replace B:=G (B.out _ d);clear d Q)
    have R:=G (c.out.K B);have S:=G (Ma.P6 a B);have T:=G (x.out.K B);have U:=G (o_.K y B);clear B c a x y;have c:=R;have a:=S;have x:=T;have y:=U;clear R S T U;obtain⟨k6,hL,hx,f3,xa,f5⟩:=f_ a;have F:=qb.out q6 dc g u j s t c.out.b x y;rw[I]at F;replace F:=G F;have AM:w.heap.size<=dc.heap.size:=c.out.b.size;have kb:w.heap.size<dc.heap.size:=bF c.out.o;clear qb x y a q6 dT
    go_wp2_with (go_at_call 476;(with_reducible refine F.out.mono ?_);rintro e oV ⟨⟨it,bJ,j7,lT,kr,mb,lV,mc,md,lX,me,err,rfl,ol,la,lE⟩,oj⟩;have dq:=G (c.out.K oj);have hq:=dq.out.o;obtain⟨g3,di,dL,fN,gt,g4,g9⟩:=eX hq;obtain⟨z0,cy,dz,z3,z4,z5,eO⟩:=he hq);exact aoh
 exact Hi
end Go.bS
namespace Go.bS
open Go Go.Proofs Go.RowKit Go.Lib Go.aJ
open Go.da (cU bA jd)
open Go.bh.N (lM)
variable{a b:Nat}
theorem AZ(h:a<=b):10^a<=10^b:=kO ak h
variable{x c:Nat}
theorem ao_(h:x<=10^a)(d:a+b<=c):x*10^b<=10^c:=cO (qR _ h) (by rw[←afl];exact AZ d)
theorem aET{y:Nat}(h:x<=10^a)(k:y<=10^b)(d:a+b<=c):x*y<=10^c:=cO (zv h k) (by rw[←afl];exact AZ d)
theorem aKu(a:Nat):10^a+10^a<=10^(a+1):=by rw[zw];omega
theorem apz(S:cU)(g:Nat)(q:List Nat)(J:fO S ⟨g,⟨#[97,100,100]⟩,⟨#[]⟩,q⟩ [2,2]=true)(L:gV ⟨[],0,0,0,0,none⟩ (gW ⟨#[97,100,100]⟩ ⟨#[]⟩)=true):lL S ⟨g,⟨#[97,100,100]⟩,⟨#[]⟩,q⟩:=by
 intro m w k ca cc x D G rc R du lC oh i ac l fG o e;have E:=fun W (f:β w W)=>qL S _ _ J W k ca cc (x.K f) (D.K f);have K:=fun W=>qH _ _ _ L W;refine Jq m ⟨#[97,100,100]⟩ ⟨#[]⟩ [2,2] ⟨[],0,0,0,0,none⟩ w k ca _ cc G _ rc E K ak i ac l o.any e dP dP dP dP dP dP (by simp only[jP,gl,kM];decide) (by simp only[no,gl,kM];decide) (fun r W Y cx bR eb Z f T ag=>?_);have e:=cz.K (aU.mono aV 1) e f;obtain⟨dW,ek,a,b,rfl,F,b4,A,s,H,I,P,X⟩:=o.lm r;obtain⟨j,c,rfl,B,y,c1⟩:=A.Ew F;obtain⟨n,d,rfl,C,u,c2⟩:=s.Ew b4;have M:max c d-c<=d:=z;have O:max c d-d<=c:=z;have V:j.natAbs*10^(max c d-c)<=10^(2*m):=ao_ y z;have fF:n.natAbs*10^(max c d-d)<=10^(2*m):=ao_ u z;have Q:=aKu (2*m);have U:10^(2*m+1)<=10^15:=AZ z;exact aFl _ _ _ _ _ _ _ _ _ _ _ m j n c d W i ac e (max c d) _ _ B C rfl z rfl rfl z (fun N S t ec bm=>.gD N S t z z)
theorem apA(S:cU)(g:Nat)(q:List Nat)(J:fO S ⟨g,⟨#[109,117,108]⟩,⟨#[]⟩,q⟩ [2,2]=true)(L:gV ⟨[],0,0,0,0,none⟩ (gW ⟨#[109,117,108]⟩ ⟨#[]⟩)=true):lL S ⟨g,⟨#[109,117,108]⟩,⟨#[]⟩,q⟩:=by
 intro m w i ca cc x D G rc R du lC oh e ac l fG k c;have E:=fun W (d:β w W)=>qL S _ _ J W i ca cc (x.K d) (D.K d);have K:=fun W=>qH _ _ _ L W;refine Jq m ⟨#[109,117,108]⟩ ⟨#[]⟩ [2,2] ⟨[],0,0,0,0,none⟩ w i ca _ cc G _ rc E K ak e ac l k.any c dP dP dP dP dP dP (by simp only[jP,gl,kM];decide) (by simp only[no,gl,kM];decide) (fun r W V cx Y eb X d P ag=>?_);have c:=cz.K (aU.mono aV 1) c d;obtain⟨dW,ek,a,b,rfl,F,b4,A,s,H,I,M,U⟩:=k.lm r;obtain⟨f,n,rfl,B,y,c1⟩:=A.Ew F;obtain⟨j,o,rfl,C,u,c2⟩:=s.Ew b4;have T:f.natAbs*j.natAbs<=10^(2*m):=aET y u z;have Q:10^(2*m)<=10^15:=AZ z;have O:10^(2*m)<=10^(2*m+1):=AZ z;have e8:10^(2*a+1)<=10^7:=AZ z;have ff:10^(2*b+1)<=10^7:=AZ z;exact aFp _ _ _ _ _ _ _ _ _ _ _ m f j n o W e ac c (n+o) rfl B C z z z z (fun N S t ec Z=>.gD N S t z z)
theorem aFQ(S:cU)(g:Nat)(i:List Nat)(A:fO S ⟨g,⟨#[114,111,117,110,100]⟩,⟨#[49]⟩,i⟩ [2]=true)(C:gV ⟨[],0,1,0,0,none⟩ (gW ⟨#[114,111,117,110,100]⟩ ⟨#[49]⟩)=true):lL S ⟨g,⟨#[114,111,117,110,100]⟩,⟨#[49]⟩,i⟩:=by
 intro m w e ca cc o t y rc R Q V X d ac l fG f b;have u:=fun W (c:β w W)=>qL S _ _ A W e ca cc (o.K c) (t.K c);have B:=fun W=>qH _ _ _ C W;refine Jq m ⟨#[114,111,117,110,100]⟩ ⟨#[49]⟩ [2] ⟨[],0,1,0,0,none⟩ w e ca _ cc y _ rc u B ak d ac l f.any b dP dP dP dP dP dP (by simp only[jP,gl,kM];decide) (by simp only[no,gl,kM];decide) (fun j W J P L T K c F ag=>?_);have b:=cz.K (aU.mono aV 1) b c;obtain⟨v,a,rfl,x,r,H,I,G⟩:=f.xy j;obtain⟨n,q,rfl,s,O,c1⟩:=r.Ew x;have D:10^(2*a+1)<=10^9:=AZ z;have E:10^(2*a+1)<=10^(2*m+1):=AZ z;exact aFq _ _ _ _ 0 _ _ _ _ _ _ m n q s z z (fun N S k U M=>.gD N S k z z) W d ac b
theorem aFH(S:cU)(g:Nat)(j:List Nat)(E:fO S ⟨g,⟨#[98,101,116,119,101,101,110]⟩,⟨#[]⟩,j⟩ [3,3]=true)(G:gV ⟨[],0,0,0,0,none⟩ (gW ⟨#[98,101,116,119,101,101,110]⟩ ⟨#[]⟩)=true):lL S ⟨g,⟨#[98,101,116,119,101,101,110]⟩,⟨#[]⟩,j⟩:=by
 intro m w f ca cc q y D rc R T Y Z e ac l fG i c;have B:=fun W (d:β w W)=>qL S _ _ E W f ca cc (q.K d) (y.K d);have F:=fun W=>qH _ _ _ G W;refine Jq m ⟨#[98,101,116,119,101,101,110]⟩ ⟨#[]⟩ [3,3] ⟨[],0,0,0,0,none⟩ w f ca _ cc D _ rc B F ak e ac l i.any c dP dP dP dP dP dP (by simp only[jP,gl,kM];decide) (by simp only[no,gl,kM];decide) (fun k W M P O V N d K ag=>?_);have c:=cz.K (aU.mono aV 1) c d;obtain⟨Q,X,a,b,rfl,C,b4,s,n,H,I,J,L⟩:=i.lm k;obtain⟨A,rfl,t,r⟩:=s.acW C;obtain⟨x,rfl,u,o⟩:=n.acW b4;have U:10^7<=10^(2*m+1):=AZ z;exact aFm _ _ _ _ _ _ _ _ _ _ _ m A x ⟨t,r⟩ ⟨u,o⟩ (.gD _ 0 (by simp only[hn];omega) z z) W e ac c
theorem aFN(S:cU)(g:Nat)(j:List Nat)(E:fO S ⟨g,⟨#[108,101,115,115]⟩,⟨#[]⟩,j⟩ [2,2]=true)(G:gV ⟨[],0,0,0,0,none⟩ (gW ⟨#[108,101,115,115]⟩ ⟨#[]⟩)=true):lL S ⟨g,⟨#[108,101,115,115]⟩,⟨#[]⟩,j⟩:=by
 intro m w f ca cc q y D rc R V Z oh e ac l fG i c;have A:=fun W (d:β w W)=>qL S _ _ E W f ca cc (q.K d) (y.K d);have F:=fun W=>qH _ _ _ G W;refine Jq m ⟨#[108,101,115,115]⟩ ⟨#[]⟩ [2,2] ⟨[],0,0,0,0,none⟩ w f ca _ cc D _ rc A F ak e ac l i.any c dP dP dP dP dP dP (by simp only[jP,gl,kM];decide) (by simp only[no,gl,kM];decide) (fun k W M T P X N d K ag=>?_);have c:=cz.K (aU.mono aV 1) c d;obtain⟨U,Y,a,b,rfl,C,b4,t,n,H,I,J,L⟩:=i.lm k;obtain⟨o,s,rfl,u,Q,c1⟩:=t.Ew C;obtain⟨r,B,rfl,x,O,c2⟩:=n.Ew b4;exact aFo _ _ _ _ _ _ _ _ _ _ _ m o r s B u x z W e ac c
theorem aFK(S:cU)(g:Nat)(j:List Nat)(D:fO S ⟨g,⟨#[100,97,121,115]⟩,⟨#[]⟩,j⟩ [3,2]=true)(F:gV ⟨[],0,0,0,0,none⟩ (gW ⟨#[100,97,121,115]⟩ ⟨#[]⟩)=true):lL S ⟨g,⟨#[100,97,121,115]⟩,⟨#[]⟩,j⟩:=by
 intro m w f ca cc o x C rc R T X Y e ac l fG i c;have z:=fun W (d:β w W)=>qL S _ _ D W f ca cc (o.K d) (x.K d);have E:=fun W=>qH _ _ _ F W;refine Jq m ⟨#[100,97,121,115]⟩ ⟨#[]⟩ [3,2] ⟨[],0,0,0,0,none⟩ w f ca _ cc C _ rc z E ak e ac l i.any c dP dP dP dP dP dP (by simp only[jP,gl,kM];decide) (by simp only[no,gl,kM];decide) (fun k W L P O U M d J ag=>?_);have c:=cz.K (aU.mono aV 1) c d;obtain⟨Q,V,a,b,rfl,B,b4,s,n,H,I,G,K⟩:=i.lm k;obtain⟨y,rfl,t,q⟩:=s.acW B;obtain⟨r,A,rfl,u,N,c2⟩:=n.Ew b4;exact aFn _ _ _ _ _ _ _ _ _ _ _ m y r A ⟨t,q⟩ u W e ac c
theorem aFZ(S:cU)(g:Nat)(k:List Nat)(z:fO S ⟨g,⟨#[119,104,101,114,101]⟩,⟨#[107,105,110,100]⟩,k⟩ [5,1]=true)(B:gV ⟨[li],0,0,0,0,none⟩ (gW ⟨#[119,104,101,114,101]⟩ ⟨#[107,105,110,100]⟩)=true):lL S ⟨g,⟨#[119,104,101,114,101]⟩,⟨#[107,105,110,100]⟩,k⟩:=by
 intro m w e ca cc s t y rc R M P Q f ac l fG i c;have u:=fun W (d:β w W)=>qL S _ _ z W e ca cc (s.K d) (t.K d);have A:=fun W=>qH _ _ _ B W;refine Su m ⟨#[119,104,101,114,101]⟩ ⟨#[107,105,110,100]⟩ [5,1] ⟨[li],0,0,0,0,none⟩ w e ca _ cc y _ rc u A ak f ac l i.any c dP dP dP dP dP dP (by simp only[jP,gl,kM];decide) (by simp only[no,gl,kM];decide) (fun n W r J F N E d q ag=>?_);have c:=cz.K (aU.mono aV 1) c d;obtain⟨L,O,a,b,rfl,x,b4,j,o,H,I,C,D⟩:=i.lm n;obtain⟨aQ,rfl,t0⟩:=j.acX x;obtain⟨G,rfl,K⟩:=o.Hp b4;exact aJ0 _ _ _ _ _ _ m aQ j _ _ _ _ _ "".toUTF8 W r f ac e q c
theorem aFY(S:cU)(g:Nat)(j:List Nat)(x:fO S ⟨g,⟨#[115,117,109]⟩,⟨#[97,109,111,117,110,116,62,61,48]⟩,j⟩ [5]=true)(A:gV ⟨[k5],0,0,0,0,none⟩ (gW ⟨#[115,117,109]⟩ ⟨#[97,109,111,117,110,116,62,61,48]⟩)=true):lL S ⟨g,⟨#[115,117,109]⟩,⟨#[97,109,111,117,110,116,62,61,48]⟩,j⟩:=by
 intro m w d ca cc q r u rc R F J K e ac l fG f b;have s:=fun W (c:β w W)=>qL S _ _ x W d ca cc (q.K c) (r.K c);have y:=fun W=>qH _ _ _ A W;refine Su m ⟨#[115,117,109]⟩ ⟨#[97,109,111,117,110,116,62,61,48]⟩ [5] ⟨[k5],0,0,0,0,none⟩ w d ca _ cc u _ rc s y ak e ac l f.any b dP dP dP dP dP dP (by simp only[jP,gl,kM];decide) (by simp only[no,gl,kM];decide) (fun k W o E D G C c n ag=>?_);have b:=cz.K (aU.mono aV 1) b c;obtain⟨v,a,rfl,t,i,H,I,B⟩:=f.xy k;obtain⟨aQ,rfl,t0⟩:=i.acX t;exact aJZ _ _ _ _ _ _ m z aQ i "".toUTF8 W o e ac d n b
theorem aFJ(S:cU)(g:Nat)(i:List Nat)(t:fO S ⟨g,⟨#[99,111,117,110,116]⟩,⟨#[]⟩,i⟩ [5]=true)(x:gV ⟨[],0,0,0,0,none⟩ (gW ⟨#[99,111,117,110,116]⟩ ⟨#[]⟩)=true):lL S ⟨g,⟨#[99,111,117,110,116]⟩,⟨#[]⟩,i⟩:=by
 intro m w d ca cc k o s rc R F J K e ac l fG f b;have q:=fun W (c:β w W)=>qL S _ _ t W d ca cc (k.K c) (o.K c);have u:=fun W=>qH _ _ _ x W;refine Su m ⟨#[99,111,117,110,116]⟩ ⟨#[]⟩ [5] ⟨[],0,0,0,0,none⟩ w d ca _ cc s _ rc q u ak e ac l f.any b dP dP dP dP dP dP (by simp only[jP,gl,kM];decide) (by simp only[no,gl,kM];decide) (fun j W B E D G C c y ag=>?_);have b:=cz.K (aU.mono aV 1) b c;obtain⟨v,a,rfl,r,n,H,I,A⟩:=f.xy j;obtain⟨aQ,rfl,t0⟩:=n.acX r;exact aJX _ _ _ _ _ _ _ _ _ _ m z aQ t0 W e ac d b
theorem aFO(S:cU)(g:Nat)(j:List Nat)(x:fO S ⟨g,⟨#[108,111,111,107,117,112]⟩,⟨#[112,114,105,99,101,115,46,99,111,100,101,46,112,114,105,99,101,58,110,117,109,98,101,114]⟩,j⟩ [1]=true)(A:gV ⟨[pr,od,oq],2,0,0,0,none⟩ (gW ⟨#[108,111,111,107,117,112]⟩ ⟨#[112,114,105,99,101,115,46,99,111,100,101,46,112,114,105,99,101,58,110,117,109,98,101,114]⟩)=true):lL S ⟨g,⟨#[108,111,111,107,117,112]⟩,⟨#[112,114,105,99,101,115,46,99,111,100,101,46,112,114,105,99,101,58,110,117,109,98,101,114]⟩,j⟩:=by
 intro m w d ca cc f r u rc R F J K e ac l fG i c;have s:=fun W (b:β w W)=>qL S _ _ x W d ca cc (f.K b) (r.K b);have y:=fun W=>qH _ _ _ A W;refine Su m ⟨#[108,111,111,107,117,112]⟩ ⟨#[112,114,105,99,101,115,46,99,111,100,101,46,112,114,105,99,101,58,110,117,109,98,101,114]⟩ [1] ⟨[pr,od,oq],2,0,0,0,none⟩ w d ca _ cc u _ rc s y ak e ac l i.any c dP dP dP dP dP dP (by simp only[jP,gl,kM];decide) (by simp only[no,gl,kM];decide) (fun k W o E D G C b n ag=>?_);have c:=cz.K (aU.mono aV 1) c b;obtain⟨v,a,rfl,t,q,H,I,B⟩:=i.xy k;obtain⟨bP,rfl,t0⟩:=q.Hp t;exact aJY _ _ _ _ _ _ _ _ m z bP W o e ac d (f.K b) n c
end Go.bS
namespace Go.bS
open Go Go.Proofs Go.RowKit Go.Lib Go.aJ
open Go.da (cU bA jd)
open Go.bh.N (lM cA mp mq l3 n0 k0 mR)
def ash(l:List UInt8):Bool:=Nat.ble l.length 200&&l.all fun c=>Nat.ble 32 c.toNat&&Nat.ble c.toNat 126
theorem Fh{l:List UInt8}(h:ash l=true):kp ⟨⟨l⟩⟩:=by
 simp only[ash,dQ,LX,h6]at h;refine⟨h.1,fun k a=>?_⟩;have b:k<l.length:=a;have H:=h.2 _ (fP b);have I:(⟨⟨l⟩⟩:ByteArray)[k]=l[k]:=rfl;rw[I];omega
theorem aqC:gV ⟨[⟨#[97]⟩],0,0,0,0,none⟩ (gW ⟨#[99,111,108]⟩ ⟨#[97]⟩)=true:=av
theorem aHk:gV ⟨[⟨#[98]⟩],0,0,0,0,none⟩ (gW ⟨#[99,111,108]⟩ ⟨#[98]⟩)=true:=av
theorem aHu:gV ⟨[],0,0,0,0,none⟩ (gW ⟨#[99,111,110,99,97,116]⟩ ⟨#[]⟩)=true:=av
theorem aqF:gV ⟨[],0,0,0,0,none⟩ (gW ⟨#[117,112,112,101,114]⟩ ⟨#[]⟩)=true:=av
theorem aHH:gV ⟨[],0,0,0,0,none⟩ (gW ⟨#[116,101,120,116]⟩ ⟨#[45]⟩)=true:=av
theorem aHI:gV ⟨[],0,1,0,0,some 1⟩ (gW ⟨#[101,120,116,114,97,99,116]⟩ ⟨#[92,100,43,35,49]⟩)=true:=av
theorem Vk:gV ⟨[⟨#[110]⟩],0,0,0,0,none⟩ (gW ⟨#[99,111,108]⟩ ⟨#[110]⟩)=true:=av
theorem aqG:gV ⟨[⟨#[109]⟩],0,0,0,0,none⟩ (gW ⟨#[99,111,108]⟩ ⟨#[109]⟩)=true:=av
theorem aqH:gV ⟨[],0,0,0,0,none⟩ (gW ⟨#[97,100,100]⟩ ⟨#[]⟩)=true:=av
theorem aqI:gV ⟨[],0,0,0,0,none⟩ (gW ⟨#[109,117,108]⟩ ⟨#[]⟩)=true:=av
theorem aHl:gV ⟨[],0,0,2,0,none⟩ (gW ⟨#[110,117,109,98,101,114]⟩ ⟨#[50]⟩)=true:=av
theorem aHm:gV ⟨[],0,1,0,0,none⟩ (gW ⟨#[114,111,117,110,100]⟩ ⟨#[49]⟩)=true:=av
theorem aqD:gV ⟨[⟨#[100]⟩],0,0,0,0,none⟩ (gW ⟨#[99,111,108]⟩ ⟨#[100]⟩)=true:=av
theorem aHn:gV ⟨[],0,0,0,0,none⟩ (gW ⟨#[100,97,121,115]⟩ ⟨#[]⟩)=true:=av
theorem aHo:gV ⟨[],0,0,7,0,none⟩ (gW ⟨#[110,117,109,98,101,114]⟩ ⟨#[55]⟩)=true:=av
theorem aHp:gV ⟨[],0,0,0,0,none⟩ (gW ⟨#[98,101,116,119,101,101,110]⟩ ⟨#[]⟩)=true:=av
theorem aHq:gV ⟨[⟨#[101]⟩],0,0,0,0,none⟩ (gW ⟨#[99,111,108]⟩ ⟨#[101]⟩)=true:=av
theorem aHr:gV ⟨[pr,od,oq],2,0,0,0,none⟩ (gW ⟨#[108,111,111,107,117,112]⟩ ⟨#[112,114,105,99,101,115,46,99,111,100,101,46,112,114,105,99,101,58,110,117,109,98,101,114]⟩)=true:=av
theorem aHs:gV ⟨[⟨#[99,111,100,101]⟩],0,0,0,0,none⟩ (gW ⟨#[99,111,108]⟩ ⟨#[99,111,100,101]⟩)=true:=av
theorem aHt:gV ⟨[],0,0,0,0,none⟩ (gW ⟨#[116,101,120,116]⟩ ⟨#[65]⟩)=true:=av
theorem aqE:gV ⟨[⟨#[115]⟩],0,0,0,0,none⟩ (gW ⟨#[99,111,108]⟩ ⟨#[115]⟩)=true:=av
theorem aHv:gV ⟨[],0,0,0,0,none⟩ (gW ⟨#[116,101,120,116]⟩ ⟨#[108,111,119]⟩)=true:=av
theorem aHw:gV ⟨[],1,0,0,0,none⟩ (gW ⟨#[105,102]⟩ ⟨#[116,101,120,116]⟩)=true:=av
theorem aHx:gV ⟨[],0,0,0,0,none⟩ (gW ⟨#[108,101,115,115]⟩ ⟨#[]⟩)=true:=av
theorem aHy:gV ⟨[],0,0,0,0,some 2⟩ (gW ⟨#[109,97,116,99,104]⟩ ⟨#[92,117,43]⟩)=true:=av
theorem aHz:gV ⟨[],0,0,10,0,none⟩ (gW ⟨#[110,117,109,98,101,114]⟩ ⟨#[49,48]⟩)=true:=av
theorem aHA:gV ⟨[],0,0,0,0,none⟩ (gW ⟨#[116,101,120,116]⟩ ⟨#[104,105,103,104]⟩)=true:=av
theorem aHB:gV ⟨[k5],0,0,0,0,none⟩ (gW ⟨#[115,117,109]⟩ ⟨#[97,109,111,117,110,116,62,61,48]⟩)=true:=av
theorem aHC:gV ⟨[],0,0,0,0,none⟩ (gW ⟨#[99,111,117,110,116]⟩ ⟨#[]⟩)=true:=av
theorem aHD:gV ⟨[⟨#[105,116,101,109,115]⟩],0,0,0,0,none⟩ (gW ⟨#[99,111,108]⟩ ⟨#[105,116,101,109,115]⟩)=true:=av
theorem aHE:gV ⟨[li],0,0,0,0,none⟩ (gW ⟨#[119,104,101,114,101]⟩ ⟨#[107,105,110,100]⟩)=true:=av
theorem aHF:gV ⟨[⟨#[107]⟩],0,0,0,0,none⟩ (gW ⟨#[99,111,108]⟩ ⟨#[107]⟩)=true:=av
theorem aHG:gV ⟨[],0,0,0,0,none⟩ (gW ⟨#[116,101,120,116]⟩ ⟨#[97]⟩)=true:=av
theorem aKC:fO mp ⟨0,⟨#[99,111,108]⟩,⟨#[97]⟩,[]⟩ []=true:=av
theorem aKD:fO mp ⟨0,⟨#[99,111,108]⟩,⟨#[98]⟩,[]⟩ []=true:=av
theorem aKE:fO mp ⟨0,⟨#[99,111,110,99,97,116]⟩,⟨#[]⟩,[1,0]⟩ [1,1]=true:=av
theorem aKF:fO mp ⟨0,⟨#[117,112,112,101,114]⟩,⟨#[]⟩,[1]⟩ [1]=true:=av
theorem aKG:fO mp ⟨1,⟨#[99,111,108]⟩,⟨#[97]⟩,[]⟩ []=true:=av
theorem aKH:fO mp ⟨1,⟨#[116,101,120,116]⟩,⟨#[45]⟩,[]⟩ []=true:=av
theorem aKI:fO mp ⟨1,⟨#[101,120,116,114,97,99,116]⟩,⟨#[92,100,43,35,49]⟩,[1]⟩ [1]=true:=av
theorem aFS:∀r∈mp.df,lL mp r:=by
 intro r a;simp only[mp,gl,kM,x2]at a;rcases a with rfl|rfl|rfl|rfl|rfl|rfl|rfl
 exact ro mp 0 ⟨#[97]⟩ [] aKC aqC (by simp[mp]) ak;exact ro mp 0 ⟨#[98]⟩ [] aKD aHk (by simp[mp]) ak;exact aFI mp 0 [1,0] aKE aHu;exact apB mp 0 [1] aKF aqF;exact ro mp 1 ⟨#[97]⟩ [] aKG aqC (by simp[mp]) ak;exact P9 mp 1 ⟨#[45]⟩ [] aKH aHH (Fh av);exact aFL mp 1 [1] aKI aHI
theorem aKJ:fO mq ⟨0,⟨#[99,111,108]⟩,⟨#[110]⟩,[]⟩ []=true:=av
theorem aKK:fO mq ⟨0,⟨#[99,111,108]⟩,⟨#[109]⟩,[]⟩ []=true:=av
theorem aKL:fO mq ⟨0,⟨#[97,100,100]⟩,⟨#[]⟩,[1,0]⟩ [2,2]=true:=av
theorem aKM:fO mq ⟨0,⟨#[109,117,108]⟩,⟨#[]⟩,[0,1]⟩ [2,2]=true:=av
theorem aKN:fO mq ⟨1,⟨#[110,117,109,98,101,114]⟩,⟨#[50]⟩,[]⟩ []=true:=av
theorem aKO:fO mq ⟨1,⟨#[99,111,108]⟩,⟨#[109]⟩,[]⟩ []=true:=av
theorem aKP:fO mq ⟨1,⟨#[114,111,117,110,100]⟩,⟨#[49]⟩,[1]⟩ [2]=true:=av
theorem aFT:∀r∈mq.df,lL mq r:=by
 intro r a;simp only[mq,gl,kM,x2]at a;rcases a with rfl|rfl|rfl|rfl|rfl|rfl|rfl
 exact ro mq 0 ⟨#[110]⟩ [] aKJ Vk (by simp[mq]) ak;exact ro mq 0 ⟨#[109]⟩ [] aKK aqG (by simp[mq]) ak;exact apz mq 0 [1,0] aKL aqH;exact apA mq 0 [0,1] aKM aqI;exact ac3 2 mq 1 ⟨#[50]⟩ [] aKN aHl ak;exact ro mq 1 ⟨#[109]⟩ [] aKO aqG (by simp[mq]) ak;exact aFQ mq 1 [1] aKP aHm
theorem aKQ:fO l3 ⟨0,⟨#[99,111,108]⟩,⟨#[100]⟩,[]⟩ []=true:=av
theorem aKR:fO l3 ⟨0,⟨#[100,97,121,115]⟩,⟨#[]⟩,[0,1]⟩ [3,2]=true:=av
theorem aKS:fO l3 ⟨1,⟨#[99,111,108]⟩,⟨#[110]⟩,[]⟩ []=true:=av
theorem aKT:fO l3 ⟨1,⟨#[110,117,109,98,101,114]⟩,⟨#[55]⟩,[]⟩ []=true:=av
theorem aKU:fO l3 ⟨1,⟨#[98,101,116,119,101,101,110]⟩,⟨#[]⟩,[2,2]⟩ [3,3]=true:=av
theorem aKV:fO l3 ⟨2,⟨#[99,111,108]⟩,⟨#[100]⟩,[]⟩ []=true:=av
theorem aKW:fO l3 ⟨2,⟨#[99,111,108]⟩,⟨#[101]⟩,[]⟩ []=true:=av
theorem aFU:∀r∈l3.df,lL l3 r:=by
 intro r a;simp only[l3,gl,kM,x2]at a;rcases a with rfl|rfl|rfl|rfl|rfl|rfl|rfl
 exact ro l3 0 ⟨#[100]⟩ [] aKQ aqD (by simp[l3]) ak;exact aFK l3 0 [0,1] aKR aHn;exact ro l3 1 ⟨#[110]⟩ [] aKS Vk (by simp[l3]) ak;exact ac3 7 l3 1 ⟨#[55]⟩ [] aKT aHo ak;exact aFH l3 1 [2,2] aKU aHp;exact ro l3 2 ⟨#[100]⟩ [] aKV aqD (by simp[l3]) ak;exact ro l3 2 ⟨#[101]⟩ [] aKW aHq (by simp[l3]) ak
theorem aKX:fO n0 ⟨0,⟨#[108,111,111,107,117,112]⟩,⟨#[112,114,105,99,101,115,46,99,111,100,101,46,112,114,105,99,101,58,110,117,109,98,101,114]⟩,[1]⟩ [1]=true:=av
theorem aKY:fO n0 ⟨0,⟨#[99,111,108]⟩,⟨#[110]⟩,[]⟩ []=true:=av
theorem aKZ:fO n0 ⟨0,⟨#[109,117,108]⟩,⟨#[]⟩,[0,0]⟩ [2,2]=true:=av
theorem aK0:fO n0 ⟨1,⟨#[99,111,108]⟩,⟨#[99,111,100,101]⟩,[]⟩ []=true:=av
theorem aK1:fO n0 ⟨1,⟨#[117,112,112,101,114]⟩,⟨#[]⟩,[1]⟩ [1]=true:=av
theorem aK2:fO n0 ⟨1,⟨#[116,101,120,116]⟩,⟨#[65]⟩,[]⟩ []=true:=av
theorem aFV:∀r∈n0.df,lL n0 r:=by
 intro r a;simp only[n0,gl,kM,x2]at a;rcases a with rfl|rfl|rfl|rfl|rfl|rfl
 exact aFO n0 0 [1] aKX aHr;exact ro n0 0 ⟨#[110]⟩ [] aKY Vk (by simp[n0]) ak;exact apA n0 0 [0,0] aKZ aqI;exact ro n0 1 ⟨#[99,111,100,101]⟩ [] aK0 aHs (by simp[n0]) ak;exact apB n0 1 [1] aK1 aqF;exact P9 n0 1 ⟨#[65]⟩ [] aK2 aHt (Fh av)
theorem aK3:fO k0 ⟨0,⟨#[99,111,108]⟩,⟨#[115]⟩,[]⟩ []=true:=av
theorem aK4:fO k0 ⟨0,⟨#[116,101,120,116]⟩,⟨#[108,111,119]⟩,[]⟩ []=true:=av
theorem aK5:fO k0 ⟨0,⟨#[105,102]⟩,⟨#[116,101,120,116]⟩,[1,3,0]⟩ [4,1,1]=true:=av
theorem aK6:fO k0 ⟨1,⟨#[108,101,115,115]⟩,⟨#[]⟩,[2,2]⟩ [2,2]=true:=av
theorem aK7:fO k0 ⟨1,⟨#[109,97,116,99,104]⟩,⟨#[92,117,43]⟩,[3]⟩ [1]=true:=av
theorem aK8:fO k0 ⟨2,⟨#[99,111,108]⟩,⟨#[110]⟩,[]⟩ []=true:=av
theorem aK9:fO k0 ⟨2,⟨#[110,117,109,98,101,114]⟩,⟨#[49,48]⟩,[]⟩ []=true:=av
theorem aK_:fO k0 ⟨3,⟨#[99,111,108]⟩,⟨#[115]⟩,[]⟩ []=true:=av
theorem aK':fO k0 ⟨3,⟨#[116,101,120,116]⟩,⟨#[104,105,103,104]⟩,[]⟩ []=true:=av
theorem aFW:∀r∈k0.df,lL k0 r:=by
 intro r a;simp only[k0,gl,kM,x2]at a;rcases a with rfl|rfl|rfl|rfl|rfl|rfl|rfl|rfl|rfl
 exact ro k0 0 ⟨#[115]⟩ [] aK3 aqE (by simp[k0]) ak;exact P9 k0 0 ⟨#[108,111,119]⟩ [] aK4 aHv (Fh av);exact aFM k0 0 [1,3,0] aK5 aHw;exact aFN k0 1 [2,2] aK6 aHx;exact aFP k0 1 [3] aK7 aHy;exact ro k0 2 ⟨#[110]⟩ [] aK8 Vk (by simp[k0]) ak;exact ac3 10 k0 2 ⟨#[49,48]⟩ [] aK9 aHz ak;exact ro k0 3 ⟨#[115]⟩ [] aK_ aqE (by simp[k0]) ak;exact P9 k0 3 ⟨#[104,105,103,104]⟩ [] aK' aHA (Fh av)
theorem aLa:fO mR ⟨0,⟨#[115,117,109]⟩,⟨#[97,109,111,117,110,116,62,61,48]⟩,[1]⟩ [5]=true:=av
theorem aLb:fO mR ⟨0,⟨#[99,111,117,110,116]⟩,⟨#[]⟩,[1]⟩ [5]=true:=av
theorem aLc:fO mR ⟨0,⟨#[97,100,100]⟩,⟨#[]⟩,[0,0]⟩ [2,2]=true:=av
theorem aLd:fO mR ⟨1,⟨#[99,111,108]⟩,⟨#[105,116,101,109,115]⟩,[]⟩ []=true:=av
theorem aLe:fO mR ⟨1,⟨#[119,104,101,114,101]⟩,⟨#[107,105,110,100]⟩,[1,2]⟩ [5,1]=true:=av
theorem aLf:fO mR ⟨2,⟨#[99,111,108]⟩,⟨#[107]⟩,[]⟩ []=true:=av
theorem aLg:fO mR ⟨2,⟨#[116,101,120,116]⟩,⟨#[97]⟩,[]⟩ []=true:=av
theorem aFX:∀r∈mR.df,lL mR r:=by
 intro r a;simp only[mR,gl,kM,x2]at a;rcases a with rfl|rfl|rfl|rfl|rfl|rfl|rfl
 exact aFY mR 0 [1] aLa aHB;exact aFJ mR 0 [1] aLb aHC;exact apz mR 0 [0,0] aLc aqH;exact ro mR 1 ⟨#[105,116,101,109,115]⟩ [] aLd aHD (by simp[mR]) ak;exact aFZ mR 1 [1,2] aLe aHE;exact ro mR 2 ⟨#[107]⟩ [] aLf aHF (by simp[mR]) ak;exact P9 mR 2 ⟨#[97]⟩ [] aLg aHG (Fh av)
theorem aFR(n:Nat):∀r∈(Go.bh.N.cA n).df,lL (Go.bh.N.cA n) r:=by
 simp only[Go.bh.N.cA];split;exact aFS
 split;exact aFT
 split;exact aFU
 split;exact aFV
 split;exact aFW
 exact aFX
end Go.bS
