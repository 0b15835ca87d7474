/- ConflictAuthors. -/
import Derived.Test.YtfgcglgpfgifkaaGreatDoorP11
set_option linter.all false
set_option maxRecDepth 100000
set_option maxHeartbeats 16000000
namespace Go.b3
open Go Go.Proofs.Tryz Go.Proofs Go.RowKit Go.Lib Go.aI
theorem aq'{m:Nat}{a N S n:Int}{s:ByteArray}{cs:List ByteArray}{a_:List (List bH)}(f:eR m (.mk a s N S n cs a_))(d:a=4){w:World}{ce j g c:Int}{i:ByteArray}{ca ra:Option Addr}{cl cc rl rc:Nat}(h:aY be 1 w (bY ce i j g c ca cl cc ra rl rc) (.mk a s N S n cs a_)):c=0∨c=1:=by
 obtain⟨_,_,_,_,e,_⟩:=h.hz;injection e with e
 injection e with _ e
 injection e with _ e
 injection e with _ e
 injection e with _ e
 injection e with e _
 injection e with _ e
 subst d e;cases f with
 |lU b A=>exact A
theorem aqU(m:Nat)(op aF:ByteArray)(g:List Nat)(f:xa)(w:World)(bp:Value)(ca:Option Addr)(cl cc:Nat)(eZ:Option Addr)(rl rc:Nat) (oe:∀W,Below w.heap.size w W->Calls prog 85 #[.string op,.string aF,bp,.slice ca cl cc] W fun e w'=>AW g e w'/\Below W.heap.size W w') (od:∀W,Calls prog 167 #[.string op,.string aF] W fun e w'=>AV f e w'/\Below W.heap.size W w') (j9:∀k∈g,1<=k)(Y:Option Addr)(ac:Nat)(l:List bH)(V:∀v∈l,∃n,eR n v)(h:cU be (aY be 1) w Y l) (F8:(op.toList==[105,102])=true)(DW:g.length=3)(S:∀v∈l,eR m v): Calls prog 284 #[.string op,.string aF,.slice Y l.length ac,bp,.slice ca cl cc,.slice eZ rl rc] w fun e w'=>eS w.heap.size m e w'/\Below w.heap.size w w':=by
 have y:=G (uA.g7 w);have Z:=G oe;have bK:=G od;have P:=G fun W (K:Below w.heap.size w W)=>(cU.U (aY.mono be 1) h K).2;have rG:=G V;have eN:=h.1;have y3:=G j9;have B:=G S;clear S;clear oe od h V j9;go_enter func284,ntmps284;go_upto_region 1 with fail
 generalize w.alloc (.cells fi 44)=ap at y⊢;have X:=y.out.b;go_upto_region 2 with(go_at_call 85;refine(Z.out _ X).mono ?_;rintro e u ⟨⟨GZ,G0,G1,rfl,hN⟩,bm⟩;generalize qn:g.length=m_)
 have eK:=G (y.out.U bm);clear Z y X bm;by_cases dh:l.length=m_
 ·have eg:((l.length:Int) !=(m_:Int))=false:=by simp[dh]
  have N:=G fun W (K:Below u.heap.size u W)=>(hN.U K).2;clear hN;have mE:l.length=3:=z;have al:m_=3:=z;subst al;obtain⟨dJ,c,rfl,_,ja,jO⟩:=P.out _ eK.out.b z;obtain⟨A,aq,rfl,T,DX⟩:=N.out _ (bi _ _) z;obtain⟨ce,cg,ci,cY,cz,k',tR,la,kB,ut,kC,ag,d⟩:=jO 0 z;have ft:=d.br;have dS:=d.c1;have eo:=d.c2;have hj:=d.c3;have O:=d.c4;have kb:=d.c5;have ll:=d.fk;simp only[tw,hG]at ft dS eo hj O kb ll;have wM:dJ<u.heap.size:=ja;have Xg:A<u.heap.size:=T;have R:=B.out l[0] (fM _);have AN:=G d;clear d;rw[mE];generalize BA:l[0]=v0 at*;obtain⟨ET,vs,ad,ae,aa,af,ab⟩:=v0;have oW:=G (N1 ET ad ae aa vs af ab R 4 z _ _ ag);go_upto_region 8 with(go_at_call 364;refine(oW.out).mono ?_;rintro e bh ⟨⟨Q,rfl,ny,kM,lf⟩,x⟩)
  have mu:=G (eK.out.U x);by_cases pJ:Q=0
  ·subst pJ;have sb:=aq' R (lf rfl) ag;have oY:=G x;obtain⟨df,kW,aj,_,q,r⟩:=P.out _ mu.out.b z;obtain⟨am,an,ah,s,t⟩:=N.out _ oY.out z;cases aj;cases ah;have at4:=aA x wM O;clear jO DX P N ag R AN ja T ft dS eo hj O kb ll x wM Xg oW BA;rcases sb with rfl|rfl
   ·obtain⟨eb,jq,dr,dY,gs,A3,Od,Dd,z_,QU,z',i,a⟩:=r 2 z;have j:=B.out l[2] (fM _);have V6:=y3.out g[2] (fM _);have t0:=t 2 z;generalize l[2]=M at*;generalize g[2]=L at*;have fu:=a.br;have b':=a.c1;have dt:=a.c2;have eq:=a.c3;have jX:=a.c4;have vz:=a.c5;have yk:=a.fk;have W7:dJ<bh.heap.size:=q;have aiH:A<bh.heap.size:=s;have p':=G i;have qO:=G j;clear a r t i j q s;simp only[Nat.reduceMul]at fu b' dt eq jX vz yk;obtain⟨J,E,F,H,C,I,D⟩:=M;go_upto_region 11 with fail
    go_still_tail 8,au;change wpList _ _ _ _ _ bh.drew;have bC:=lK bh;have pv:=G (mu.out.U bC);have tA:=G (p'.out.U bC);have yU:=G (N1 J F H C E I D qO.out (L:Int) z _ _ tA.out);have hX:bh.drew.cell? ⟨dJ,c+14,none⟩=_:=fu;have et:bh.drew.cell? ⟨dJ,c+14+1,none⟩=_:=b';have fA:bh.drew.cell? ⟨dJ,c+14+2,none⟩=_:=dt;have hL:bh.drew.cell? ⟨dJ,c+14+3,none⟩=_:=eq;have lV:bh.drew.cell? ⟨dJ,c+14+4,none⟩=_:=jX;have np:bh.drew.cell? ⟨dJ,c+14+5,none⟩=_:=vz;have q4:bh.drew.cell? ⟨dJ,c+14+6,none⟩=_:=yk;exact aiV
   ·obtain⟨eb,jq,dr,dY,gs,A3,Od,Dd,z_,QU,z',i,a⟩:=r 1 z;have j:=B.out l[1] (fM _);have V6:=y3.out g[1] (fM _);have t0:=t 1 z;generalize l[1]=M at*;generalize g[1]=L at*;have fu:=a.br;have b':=a.c1;have dt:=a.c2;have eq:=a.c3;have jX:=a.c4;have vz:=a.c5;have yk:=a.fk;have W7:dJ<bh.heap.size:=q;have aiH:A<bh.heap.size:=s;have p':=G i;have qO:=G j;clear a r t i j q s;simp only[Nat.reduceMul]at fu b' dt eq jX vz yk;obtain⟨J,E,F,H,C,I,D⟩:=M;go_upto_region 11 with fail
    go_still_tail 8,au;change wpList _ _ _ _ _ bh.drew;have bC:=lK bh;have pv:=G (mu.out.U bC);have tA:=G (p'.out.U bC);have yU:=G (N1 J F H C E I D qO.out (L:Int) z _ _ tA.out);have hX:bh.drew.cell? ⟨dJ,c+7,none⟩=_:=fu;have et:bh.drew.cell? ⟨dJ,c+7+1,none⟩=_:=b';have fA:bh.drew.cell? ⟨dJ,c+7+2,none⟩=_:=dt;have hL:bh.drew.cell? ⟨dJ,c+7+3,none⟩=_:=eq;have lV:bh.drew.cell? ⟨dJ,c+7+4,none⟩=_:=jX;have np:bh.drew.cell? ⟨dJ,c+7+5,none⟩=_:=vz;have q4:bh.drew.cell? ⟨dJ,c+7+6,none⟩=_:=yk;exact aiV
  ·have ak:(Q !=0)=true:=by simpa using pJ
   have dP:=mu.out.o;obtain⟨gC,c_,dL,fU,gE,gM,gT⟩:=eU dP;obtain⟨z0,cy,dv,z3,z4,z5,eP⟩:=gI dP
   go_wp2;refine fL (jp (fn:=f284) rfl _ _ w.heap.size 44 _ (0,0) _ _ rfl rfl (h3 dP _ _ _ _ _ _ _) underlying44 rfl iJ) rfl ?_;exact⟨eS.none _ _ _ Q z kM,ib mu.out.b z _ _ _ _ _ _ _⟩
 ·exact Ei
end Go.b3
namespace Go.b3
open Go Go.Proofs Go.RowKit Go.Lib Go.aI
open Go.c0 (cO bA iM)
open Go.bj.N (lq)
theorem azw(S:cO)(g:Nat)(j:List Nat)(A:fv S ⟨g,⟨#[99,111,110,99,97,116]⟩,⟨#[]⟩,j⟩ [1,1]=true)(B:gy ⟨[],0,0,0,0,none⟩ (gz ⟨#[99,111,110,99,97,116]⟩ ⟨#[]⟩)=true):lo S ⟨g,⟨#[99,111,110,99,97,116]⟩,⟨#[]⟩,j⟩:=by
 intro m w f ca cc o u s rc R M Q P e ac l fh i c;have x:=fun W (d:Below w.heap.size w W)=>pZ S _ _ A W f ca cc (o.U d) (u.U d);have z:=fun W=>pW _ _ _ B W;refine N0 m ⟨#[99,111,110,99,97,116]⟩ ⟨#[]⟩ [1,1] ⟨[],0,0,0,0,none⟩ w f ca _ cc s _ rc x z ai e ac l i.any c dE dE dE dE dE dE (by simp only[jr,gl,kq];decide) (fun k W G K F L E d D ag=>?_);have c:=cU.U (aY.mono be 1) c d;obtain⟨N,O,a,b,rfl,y,ce,r,n,H,I,C,J⟩:=i.kZ k;obtain⟨bX,rfl,t0⟩:=r.En y;obtain⟨q,rfl,t⟩:=n.En ce;exact aDG _ _ _ _ _ _ _ _ _ _ _ m bX q t0 t W e ac c
theorem akF(S:cO)(g:Nat)(i:List Nat)(u:fv S ⟨g,⟨#[117,112,112,101,114]⟩,⟨#[]⟩,i⟩ [1]=true)(x:gy ⟨[],0,0,0,0,none⟩ (gz ⟨#[117,112,112,101,114]⟩ ⟨#[]⟩)=true):lo S ⟨g,⟨#[117,112,112,101,114]⟩,⟨#[]⟩,i⟩:=by
 intro m w e ca cc k q o rc R F J G d ac l fh f b;have r:=fun W (c:Below w.heap.size w W)=>pZ S _ _ u W e ca cc (k.U c) (q.U c);have t:=fun W=>pW _ _ _ x W;refine N0 m ⟨#[117,112,112,101,114]⟩ ⟨#[]⟩ [1] ⟨[],0,0,0,0,none⟩ w e ca _ cc o _ rc r t ai d ac l f.any b dE dE dE dE dE dE (by simp only[jr,gl,kq];decide) (fun j W B D A E z c y ag=>?_);have b:=cU.U (aY.mono be 1) b c;obtain⟨v,a,rfl,s,n,H,I,C⟩:=f.Ep j;obtain⟨bX,rfl,t0⟩:=n.En s;exact aDJ _ _ _ _ _ _ _ _ _ _ _ m bX t0 W d ac b
theorem azz(S:cO)(g:Nat)(i:List Nat)(u:fv S ⟨g,⟨#[101,120,116,114,97,99,116]⟩,⟨#[92,100,43,35,49]⟩,i⟩ [1]=true)(x:gy ⟨[],0,1,0,0,some 1⟩ (gz ⟨#[101,120,116,114,97,99,116]⟩ ⟨#[92,100,43,35,49]⟩)=true):lo S ⟨g,⟨#[101,120,116,114,97,99,116]⟩,⟨#[92,100,43,35,49]⟩,i⟩:=by
 intro m w e ca cc k q o rc R F J G d ac l fh f b;have r:=fun W (c:Below w.heap.size w W)=>pZ S _ _ u W e ca cc (k.U c) (q.U c);have t:=fun W=>pW _ _ _ x W;refine N0 m ⟨#[101,120,116,114,97,99,116]⟩ ⟨#[92,100,43,35,49]⟩ [1] ⟨[],0,1,0,0,some 1⟩ w e ca _ cc o _ rc r t ai d ac l f.any b dE dE dE dE dE dE (by simp only[jr,gl,kq];decide) (fun j W B D A E z c y ag=>?_);have b:=cU.U (aY.mono be 1) b c;obtain⟨v,a,rfl,s,n,H,I,C⟩:=f.Ep j;obtain⟨bX,rfl,t0⟩:=n.En s;obtain⟨rfl,ag⟩:=ag;exact aDH _ _ _ _ 0 _ _ _ 0 _ _ m bX t0 1 (.inl rfl) W d ac b ag
theorem azD(S:cO)(g:Nat)(i:List Nat)(u:fv S ⟨g,⟨#[109,97,116,99,104]⟩,⟨#[92,117,43]⟩,i⟩ [1]=true)(x:gy ⟨[],0,0,0,0,some 2⟩ (gz ⟨#[109,97,116,99,104]⟩ ⟨#[92,117,43]⟩)=true):lo S ⟨g,⟨#[109,97,116,99,104]⟩,⟨#[92,117,43]⟩,i⟩:=by
 intro m w e ca cc k q o rc R F J G d ac l fh f b;have r:=fun W (c:Below w.heap.size w W)=>pZ S _ _ u W e ca cc (k.U c) (q.U c);have t:=fun W=>pW _ _ _ x W;refine N0 m ⟨#[109,97,116,99,104]⟩ ⟨#[92,117,43]⟩ [1] ⟨[],0,0,0,0,some 2⟩ w e ca _ cc o _ rc r t ai d ac l f.any b dE dE dE dE dE dE (by simp only[jr,gl,kq];decide) (fun j W B D A E z c y ag=>?_);have b:=cU.U (aY.mono be 1) b c;obtain⟨v,a,rfl,s,n,H,I,C⟩:=f.Ep j;obtain⟨bX,rfl,t0⟩:=n.En s;obtain⟨rfl,ag⟩:=ag;exact aDI _ _ _ _ _ _ _ _ 0 _ _ m bX t0 2 (.inr rfl) W d ac b ag
theorem azA(S:cO)(g:Nat)(d:List Nat)(q:fv S ⟨g,⟨#[105,102]⟩,⟨#[116,101,120,116]⟩,d⟩ [4,1,1]=true)(r:gy ⟨[],1,0,0,0,none⟩ (gz ⟨#[105,102]⟩ ⟨#[116,101,120,116]⟩)=true):lo S ⟨g,⟨#[105,102]⟩,⟨#[116,101,120,116]⟩,d⟩:=by
 intro m w b ca cc i k j rc R s u t f ac l fh c e;have n:=fun W (a:Below w.heap.size w W)=>pZ S _ _ q W b ca cc (i.U a) (k.U a);have o:=fun W=>pW _ _ _ r W;exact aqU m ⟨#[105,102]⟩ _ [4,1,1] ⟨[],1,0,0,0,none⟩ w b ca _ cc j _ rc n o ai f ac l c.any e dE rfl c.all
theorem LR(S:cO)(g:Nat)(aF:ByteArray)(c:List Nat)(r:fv S ⟨g,⟨#[116,101,120,116]⟩,aF,c⟩ []=true)(s:gy ⟨[],0,0,0,0,none⟩ (gz ⟨#[116,101,120,116]⟩ aF)=true)(f:j5 aF):lo S ⟨g,⟨#[116,101,120,116]⟩,aF,c⟩:=by
 intro m w b ca cc i n k rc R t x u e ac l fh j d;have o:=fun W (a:Below w.heap.size w W)=>pZ S _ _ r W b ca cc (i.U a) (n.U a);have q:=fun W=>pW _ _ _ s W;exact aqW m ⟨#[116,101,120,116]⟩ _ [] ⟨[],0,0,0,0,none⟩ w b ca _ cc k _ rc o q am e ac l j.any d dE dE dE (.g8 aF f)
theorem X3(n:Nat)(S:cO)(g:Nat)(aF:ByteArray)(d:List Nat)(r:fv S ⟨g,⟨#[110,117,109,98,101,114]⟩,aF,d⟩ []=true)(s:gy ⟨[],0,0,n,0,none⟩ (gz ⟨#[110,117,109,98,101,114]⟩ aF)=true)(u:n<=1000):lo S ⟨g,⟨#[110,117,109,98,101,114]⟩,aF,d⟩:=by
 intro m w b ca cc i k j rc R x A y f ac l fh c e;have o:=fun W (a:Below w.heap.size w W)=>pZ S _ _ r W b ca cc (i.U a) (k.U a);have q:=fun W=>pW _ _ _ s W;have t:=c.sum;exact aqV m ⟨#[110,117,109,98,101,114]⟩ _ [] ⟨[],0,0,n,0,none⟩ w b ca _ cc j _ rc o q am f ac l c.any e dE dE dE dE (eR.mono (n:=1) (.gi n 0 (by simp only[g1];omega) z z) z)
theorem qx(S:cO)(g:Nat)(aF:ByteArray)(e:List Nat)(s:fv S ⟨g,⟨#[99,111,108]⟩,aF,e⟩ []=true)(t:gy ⟨[aF],0,0,0,0,none⟩ (gz ⟨#[99,111,108]⟩ aF)=true)(u:∃x∈S.bs,x.1=aF)(n:S.bs.length<=8):lo S ⟨g,⟨#[99,111,108]⟩,aF,e⟩:=by
 intro m w b ca cc j d o rc R k A y i ac l fh c f;have q:=fun W (a:Below w.heap.size w W)=>pZ S _ _ s W b ca cc (j.U a) (d.U a);have r:=fun W=>pW _ _ _ t W;have B:=c.sum;exact aqT m ⟨#[99,111,108]⟩ _ [] ⟨[aF],0,0,0,0,none⟩ w b ca _ cc o _ rc q r am i ac l c.any f dE dE S.bs rfl d n u R rfl A k (fun v J=>(y v J).mono z)
end Go.b3
namespace Go.b3
open Go Go.Proofs.Tryz Go.Proofs Go.RowKit Go.Lib Go.aI
theorem NZ(m:Nat)(op aF:ByteArray)(dR:List Nat)(f:xa)(w:World)(H:Value)(ca:Option Addr)(cl cc:Nat)(eZ:Option Addr)(rl rc:Nat) (oe:∀W,Below w.heap.size w W->Calls prog 85 #[.string op,.string aF,H,.slice ca cl cc] W fun e w'=>AW dR e w'/\Below W.heap.size W w') (od:∀W,Calls prog 167 #[.string op,.string aF] W fun e w'=>AV f e w'/\Below W.heap.size W w') (j9:∀k∈dR,1<=k)(F:Option Addr)(ac:Nat)(l:List bH)(Y:∀v∈l,∃n,eR n v)(h:cU be (aY be 1) w F l) (F8:(op.toList==[105,102])=false)(JY:(op.toList==[99,111,108])=false)(Oy:(op.toList==[116,101,120,116])=false)(Ut:(op.toList==[110,117,109,98,101,114])=false)(ad:(op.toList==[100,97,116,101])=false)(ab:(op.toList==[98,111,111,108])=false)(lH:op∉jr)(r':op∈mM) (k2:uH dR l->∀W j t g r s,Below w.heap.size w W->he be W j f.bo->ol W g r f.p->Calls prog 374 #[.string op,.agg (eM j f.bo.length t f.k f.n f.dn f.ds g r s),H,.slice F l.length ac] W fun e w'=>eS W.heap.size m e w'/\Below W.heap.size W w'): Calls prog 284 #[.string op,.string aF,.slice F l.length ac,H,.slice ca cl cc,.slice eZ rl rc] w fun e w'=>eS w.heap.size m e w'/\Below w.heap.size w w':=by
 have D:=G (uA.g7 w);have bk:=G oe;have bK:=G od;have ps:=G k2;have pu:=G fun W (d:Below w.heap.size w W)=>(cU.U (aY.mono be 1) h d).2;have rG:=G Y;have eN:=h.1;have y3:=G j9;have IK:=G lH;clear lH;have SV:=G r';clear r';clear oe od k2 h Y j9;go_enter func284,ntmps284;go_upto_region 1 with fail
 generalize w.alloc (.cells fi 44)=ap at D⊢;have Z:=D.out.b;go_upto_region 2 with(go_at_call 85;refine(bk.out _ Z).mono ?_;rintro e ao ⟨⟨GZ,G0,G1,rfl,hN⟩,bm⟩;generalize qn:dR.length=m_)
 have eK:=G (D.out.U bm);clear bk D Z bm;by_cases I:l.length=m_
 ·have eg:((l.length:Int) !=(m_:Int))=false:=by simp[I]
  have ha:=G fun W (d:Below ao.heap.size ao W)=>(hN.U d).2;clear hN
  go_wp2;go_loopw [20,21] (fun i _ wr=>∃k:Nat,k<=l.length/\i=.int .i64 k/\Below ao.heap.size ao wr/\oh dR l k) (fun i _ _=>l.length-(RowKit.intOf i).toNat);case atStart=>exact⟨0,dq _,rfl,bi _ _,oh.zero _ _⟩
  case round=>
   obtain⟨k,aa,rfl,bc,pG⟩:=hrel;have eG:=G (eK.out.U bc);by_cases aq:k<l.length
   ·exact G9
   ·have qj:uH dR l:=pG.all (I.trans qn.symm) z;have dN:=bc.size;clear pG ha pu rG eK bc;go_upto_region 22 with(go_at_call 167;refine(bK.out _).mono ?_;rintro e B ⟨⟨j,t,g,r,s,rfl,oB,o'⟩,bC⟩)
    have k_:=eG.out.U bC;have c:=G (k_.U (fH B (.cells (eM j f.bo.length t f.k f.n f.dn f.ds g r s) 222)));have a:=da B (.cells (eM j f.bo.length t f.k f.n f.dn f.ds g r s) 222);have u:=G (oB.U (fH B (.cells (eM j f.bo.length t f.k f.n f.dn f.ds g r s) 222)));have x:=G (ol.U o' (fH B (.cells (eM j f.bo.length t f.k f.n f.dn f.ds g r s) 222)));clear k_ bC eG oB o' bK;generalize B.heap.size=iD at*;generalize B.alloc (.cells (eM j f.bo.length t f.k f.n f.dn f.ds g r s) 222)=C at*;replace a:=G a;go_upto_region 39 with fail
    have O:he be (C.alloc (.cells (jr.map Value.string).toArray 9)) (some ⟨C.heap.size,0,none⟩) jr:=Mo C jr ai;have N:=G (Jd _ _ 9 jr op O false ⟨fun h=>absurd h ai,fun h=>absurd h IK.out⟩);have y:=G (fun(W:World) (e:C.alloc (.cells (jr.map Value.string).toArray 9)=W)=>e▸fH C (.cells (jr.map Value.string).toArray 9));clear O;go_upto_region 41 with(go_at_call 372;refine(N.out).mono ?_;rintro e w7 ⟨rfl,d⟩;replace y:=G (y.out _ d);clear d N)
    have M:=G (c.out.U y.out);have J:=G (If.LP a.out y.out);have K:=G (u.out.U y.out);have L:=G (ol.U x.out y.out);clear y c a u x;have c:=M;have a:=J;have u:=K;have x:=L;clear M J K L;go_upto_region 41 with fail
    have X:he be (w7.alloc (.cells (mM.map Value.string).toArray 9)) (some ⟨w7.heap.size,0,none⟩) mM:=Mo w7 mM ai;have Q:=G (Jd _ _ 8 mM op X true ⟨fun _=>SV.out,fun _=>rfl⟩);have A:=G (fun(W:World) (e:w7.alloc (.cells (mM.map Value.string).toArray 9)=W)=>e▸fH w7 (.cells (mM.map Value.string).toArray 9));clear X;go_upto_region 42 with(go_at_call 372;refine(Q.out).mono ?_;rintro e di ⟨rfl,d⟩;replace A:=G (A.out _ d);clear d Q)
    have P:=G (c.out.U A.out);have R:=G (If.LP a.out A.out);have S:=G (u.out.U A.out);have T:=G (ol.U x.out A.out);clear A c a u x;have c:=P;have a:=R;have u:=S;have x:=T;clear P R S T;obtain⟨lE,g2,hg,q6,u',f5⟩:=fZ a.out;have E:=ps.out qj di j t g r s c.out.b u.out x.out;rw[I]at E;replace E:=G E;have x4:w.heap.size<=di.heap.size:=c.out.b.size;have lg:w.heap.size<di.heap.size:=b1 c.out.o;clear ps u x a qj dN
    go_wp2_with (go_at_call 374;(with_reducible refine E.out.mono ?_);rintro e yz ⟨⟨hY,bB,lz,lA,j7,lW,lB,lX,lY,lD,lZ,err,rfl,ny,kM,lf⟩,nu⟩;have dc:=G (c.out.U nu);have gX:=dc.out.o;obtain⟨gC,c_,dL,fU,gE,gM,gT⟩:=eU gX;obtain⟨z0,cy,dv,z3,z4,z5,eP⟩:=gI gX);exact ajs
 ·exact Ei
theorem FN(m:Nat)(op aF:ByteArray)(dR:List Nat)(f:xa)(w:World)(bp:Value)(ca:Option Addr)(cl cc:Nat)(eZ:Option Addr)(rl rc:Nat) (oe:∀W,Below w.heap.size w W->Calls prog 85 #[.string op,.string aF,bp,.slice ca cl cc] W fun e w'=>AW dR e w'/\Below W.heap.size W w') (od:∀W,Calls prog 167 #[.string op,.string aF] W fun e w'=>AV f e w'/\Below W.heap.size W w') (j9:∀k∈dR,1<=k)(F:Option Addr)(ac:Nat)(l:List bH)(X:∀v∈l,∃n,eR n v)(h:cU be (aY be 1) w F l) (F8:(op.toList==[105,102])=false)(JY:(op.toList==[99,111,108])=false)(Oy:(op.toList==[116,101,120,116])=false)(Ut:(op.toList==[110,117,109,98,101,114])=false)(ad:(op.toList==[100,97,116,101])=false)(ab:(op.toList==[98,111,111,108])=false)(lH:op∉jr)(r':op∉mM) (k2:uH dR l->∀W j t g r s,Below w.heap.size w W->he be W j f.bo->ol W g r f.p->Calls prog 375 #[.string op,.string aF,.agg (eM j f.bo.length t f.k f.n f.dn f.ds g r s),.slice F l.length ac] W fun e w'=>eS W.heap.size m e w'/\Below W.heap.size W w'): Calls prog 284 #[.string op,.string aF,.slice F l.length ac,bp,.slice ca cl cc,.slice eZ rl rc] w fun e w'=>eS w.heap.size m e w'/\Below w.heap.size w w':=by
 have D:=G (uA.g7 w);have bk:=G oe;have Z:=G od;have ps:=G k2;have pu:=G fun W (d:Below w.heap.size w W)=>(cU.U (aY.mono be 1) h d).2;have rG:=G X;have eN:=h.1;have y3:=G j9;have IK:=G lH;clear lH;have SV:=G r';clear r';clear oe od k2 h X j9;go_enter func284,ntmps284;go_upto_region 1 with fail
 generalize w.alloc (.cells fi 44)=ap at D⊢;have Y:=D.out.b;go_upto_region 2 with(go_at_call 85;refine(bk.out _ Y).mono ?_;rintro e ao ⟨⟨GZ,G0,G1,rfl,hN⟩,bm⟩;generalize qn:dR.length=m_)
 have eK:=G (D.out.U bm);clear bk D Y bm;by_cases H:l.length=m_
 ·have eg:((l.length:Int) !=(m_:Int))=false:=by simp[H]
  have ha:=G fun W (d:Below ao.heap.size ao W)=>(hN.U d).2;clear hN
  go_wp2;go_loopw [20,21] (fun i _ wr=>∃k:Nat,k<=l.length/\i=.int .i64 k/\Below ao.heap.size ao wr/\oh dR l k) (fun i _ _=>l.length-(RowKit.intOf i).toNat);case atStart=>exact⟨0,dq _,rfl,bi _ _,oh.zero _ _⟩
  case round=>
   obtain⟨k,aa,rfl,bc,pG⟩:=hrel;have eG:=G (eK.out.U bc);by_cases aq:k<l.length
   ·exact G9
   ·have qj:uH dR l:=pG.all (H.trans qn.symm) z;have dN:=bc.size;clear pG ha pu rG eK bc;go_upto_region 22 with(go_at_call 167;refine(Z.out _).mono ?_;rintro e B ⟨⟨j,t,g,r,s,rfl,oB,o'⟩,bC⟩)
    have k_:=eG.out.U bC;have c:=G (k_.U (fH B (.cells (eM j f.bo.length t f.k f.n f.dn f.ds g r s) 222)));have a:=da B (.cells (eM j f.bo.length t f.k f.n f.dn f.ds g r s) 222);have u:=G (oB.U (fH B (.cells (eM j f.bo.length t f.k f.n f.dn f.ds g r s) 222)));have x:=G (ol.U o' (fH B (.cells (eM j f.bo.length t f.k f.n f.dn f.ds g r s) 222)));clear k_ bC eG oB o' Z;generalize B.heap.size=iD at*;generalize B.alloc (.cells (eM j f.bo.length t f.k f.n f.dn f.ds g r s) 222)=C at*;replace a:=G a;go_upto_region 39 with fail
    have N:he be (C.alloc (.cells (jr.map Value.string).toArray 9)) (some ⟨C.heap.size,0,none⟩) jr:=Mo C jr ai;have M:=G (Jd _ _ 9 jr op N false ⟨fun h=>absurd h ai,fun h=>absurd h IK.out⟩);have y:=G (fun(W:World) (e:C.alloc (.cells (jr.map Value.string).toArray 9)=W)=>e▸fH C (.cells (jr.map Value.string).toArray 9));clear N;go_upto_region 41 with(go_at_call 372;refine(M.out).mono ?_;rintro e w7 ⟨rfl,d⟩;replace y:=G (y.out _ d);clear d M)
    have L:=G (c.out.U y.out);have I:=G (If.LP a.out y.out);have J:=G (u.out.U y.out);have K:=G (ol.U x.out y.out);clear y c a u x;have c:=L;have a:=I;have u:=J;have x:=K;clear L I J K;go_upto_region 41 with fail
    have T:he be (w7.alloc (.cells (mM.map Value.string).toArray 9)) (some ⟨w7.heap.size,0,none⟩) mM:=Mo w7 mM ai;have P:=G (Jd _ _ 8 mM op T false ⟨fun h=>absurd h ai,fun h=>absurd h SV.out⟩);have A:=G (fun(W:World) (e:w7.alloc (.cells (mM.map Value.string).toArray 9)=W)=>e▸fH w7 (.cells (mM.map Value.string).toArray 9));clear T;go_upto_region 43 with(go_at_call 372;refine(P.out).mono ?_;rintro e di ⟨rfl,d⟩;replace A:=G (A.out _ d);clear d P)
    have O:=G (c.out.U A.out);have Q:=G (If.LP a.out A.out);have R:=G (u.out.U A.out);have S:=G (ol.U x.out A.out);clear A c a u x;have c:=O;have a:=Q;have u:=R;have x:=S;clear O Q R S;obtain⟨lE,g2,hg,q6,u',f5⟩:=fZ a.out;have E:=ps.out qj di j t g r s c.out.b u.out x.out;rw[H]at E;replace E:=G E;have x4:w.heap.size<=di.heap.size:=c.out.b.size;have lg:w.heap.size<di.heap.size:=b1 c.out.o;clear ps u x a qj dN
    go_wp2_with (go_at_call 375;(with_reducible refine E.out.mono ?_);rintro e yz ⟨⟨hY,bB,lz,lA,j7,lW,lB,lX,lY,lD,lZ,err,rfl,ny,kM,lf⟩,nu⟩;have dc:=G (c.out.U nu);have gX:=dc.out.o;obtain⟨gC,c_,dL,fU,gE,gM,gT⟩:=eU gX;obtain⟨z0,cy,dv,z3,z4,z5,eP⟩:=gI gX);exact ajs
 ·exact Ei
end Go.b3
namespace Go.b3
open Go Go.Proofs Go.RowKit Go.Lib Go.aI
open Go.c0 (cO bA iM)
open Go.bj.N (lq)
theorem yf{a b:Nat}(h:a<=b):10^a<=10^b:=ks ai h
theorem akd{x a b c:Nat}(h:x<=10^a)(d:a+b<=c):x*10^b<=10^c:=db (oU _ h) (by rw[←abf];exact yf d)
theorem ayT{x y a b c:Nat}(h:x<=10^a)(k:y<=10^b)(d:a+b<=c):x*y<=10^c:=db (w3 h k) (by rw[←abf];exact yf d)
theorem aDO(a:Nat):10^a+10^a<=10^(a+1):=by rw[w4];omega
theorem akD(S:cO)(g:Nat)(q:List Nat)(K:fv S ⟨g,⟨#[97,100,100]⟩,⟨#[]⟩,q⟩ [2,2]=true)(L:gy ⟨[],0,0,0,0,none⟩ (gz ⟨#[97,100,100]⟩ ⟨#[]⟩)=true):lo S ⟨g,⟨#[97,100,100]⟩,⟨#[]⟩,q⟩:=by
 intro m w j ca cc y E D rc R dV o5 nt i ac l fh n e;have F:=fun W (f:Below w.heap.size w W)=>pZ S _ _ K W j ca cc (y.U f) (E.U f);have J:=fun W=>pW _ _ _ L W;refine FN m ⟨#[97,100,100]⟩ ⟨#[]⟩ [2,2] ⟨[],0,0,0,0,none⟩ w j ca _ cc D _ rc F J ai i ac l n.any e dE dE dE dE dE dE (by simp only[jr,gl,kq];decide) (by simp only[mM,gl,kq];decide) (fun r W Z cm Y dK X f U ag=>?_);have e:=cU.U (aY.mono be 1) e f;obtain⟨eJ,eO,a,b,rfl,G,ce,B,t,H,I,P,bZ⟩:=n.kZ r;obtain⟨k,c,rfl,u,A,c1⟩:=B.BU G;obtain⟨o,d,rfl,C,x,c2⟩:=t.BU ce;have O:max c d-c<=d:=z;have M:max c d-d<=c:=z;have V:k.natAbs*10^(max c d-c)<=10^(2*m):=akd A z;have fF:o.natAbs*10^(max c d-d)<=10^(2*m):=akd x z;have Q:=aDO (2*m);have T:10^(2*m+1)<=10^15:=yf z;exact azc _ _ _ _ _ _ _ _ _ _ _ m k o c d W i ac e (max c d) _ _ u C rfl z rfl rfl z (fun N S s dG bx=>.gi N S s z z)
theorem akE(S:cO)(g:Nat)(q:List Nat)(K:fv S ⟨g,⟨#[109,117,108]⟩,⟨#[]⟩,q⟩ [2,2]=true)(L:gy ⟨[],0,0,0,0,none⟩ (gz ⟨#[109,117,108]⟩ ⟨#[]⟩)=true):lo S ⟨g,⟨#[109,117,108]⟩,⟨#[]⟩,q⟩:=by
 intro m w f ca cc y E D rc R dV o5 nt e ac l fh k c;have F:=fun W (d:Below w.heap.size w W)=>pZ S _ _ K W f ca cc (y.U d) (E.U d);have J:=fun W=>pW _ _ _ L W;refine FN m ⟨#[109,117,108]⟩ ⟨#[]⟩ [2,2] ⟨[],0,0,0,0,none⟩ w f ca _ cc D _ rc F J ai e ac l k.any c dE dE dE dE dE dE (by simp only[jr,gl,kq];decide) (by simp only[mM,gl,kq];decide) (fun r W X cm V dK U d Q ag=>?_);have c:=cU.U (aY.mono be 1) c d;obtain⟨eJ,eO,a,b,rfl,G,ce,B,t,H,I,M,Y⟩:=k.kZ r;obtain⟨j,i,rfl,u,A,c1⟩:=B.BU G;obtain⟨o,n,rfl,C,x,c2⟩:=t.BU ce;have T:j.natAbs*o.natAbs<=10^(2*m):=ayT A x z;have P:10^(2*m)<=10^15:=yf z;have O:10^(2*m)<=10^(2*m+1):=yf z;have eX:10^(2*a+1)<=10^7:=yf z;have eN:10^(2*b+1)<=10^7:=yf z;exact azg _ _ _ _ _ _ _ _ _ _ _ m j o i n W e ac c (i+n) rfl u C z z z z (fun N S s dG Z=>.gi N S s z z)
theorem azE(S:cO)(g:Nat)(i:List Nat)(B:fv S ⟨g,⟨#[114,111,117,110,100]⟩,⟨#[49]⟩,i⟩ [2]=true)(C:gy ⟨[],0,1,0,0,none⟩ (gz ⟨#[114,111,117,110,100]⟩ ⟨#[49]⟩)=true):lo S ⟨g,⟨#[114,111,117,110,100]⟩,⟨#[49]⟩,i⟩:=by
 intro m w e ca cc o u t rc R T V U d ac l fh f b;have x:=fun W (c:Below w.heap.size w W)=>pZ S _ _ B W e ca cc (o.U c) (u.U c);have A:=fun W=>pW _ _ _ C W;refine FN m ⟨#[114,111,117,110,100]⟩ ⟨#[49]⟩ [2] ⟨[],0,1,0,0,none⟩ w e ca _ cc t _ rc x A ai d ac l f.any b dE dE dE dE dE dE (by simp only[jr,gl,kq];decide) (by simp only[mM,gl,kq];decide) (fun j W K O J Q G c E ag=>?_);have b:=cU.U (aY.mono be 1) b c;obtain⟨v,a,rfl,y,s,H,I,L⟩:=f.Ep j;obtain⟨r,q,rfl,n,F,c1⟩:=s.BU y;have X:10^(2*a+1)<=10^9:=yf z;have D:10^(2*a+1)<=10^(2*m+1):=yf z;exact azh _ _ _ _ 0 _ _ _ _ _ _ m r q n z z (fun N S k P M=>.gi N S k z z) W d ac b
theorem azv(S:cO)(g:Nat)(j:List Nat)(F:fv S ⟨g,⟨#[98,101,116,119,101,101,110]⟩,⟨#[]⟩,j⟩ [3,3]=true)(G:gy ⟨[],0,0,0,0,none⟩ (gz ⟨#[98,101,116,119,101,101,110]⟩ ⟨#[]⟩)=true):lo S ⟨g,⟨#[98,101,116,119,101,101,110]⟩,⟨#[]⟩,j⟩:=by
 intro m w f ca cc r A x rc R T Z Y e ac l fh i c;have B:=fun W (d:Below w.heap.size w W)=>pZ S _ _ F W f ca cc (r.U d) (A.U d);have E:=fun W=>pW _ _ _ G W;refine FN m ⟨#[98,101,116,119,101,101,110]⟩ ⟨#[]⟩ [3,3] ⟨[],0,0,0,0,none⟩ w f ca _ cc x _ rc B E ai e ac l i.any c dE dE dE dE dE dE (by simp only[jr,gl,kq];decide) (by simp only[mM,gl,kq];decide) (fun k W N P M Q L d K ag=>?_);have c:=cU.U (aY.mono be 1) c d;obtain⟨U,V,a,b,rfl,D,ce,t,n,H,I,J,O⟩:=i.kZ k;obtain⟨y,rfl,o,s⟩:=t.XW D;obtain⟨C,rfl,u,q⟩:=n.XW ce;have X:10^7<=10^(2*m+1):=yf z;exact azd _ _ _ _ _ _ _ _ _ _ _ m y C ⟨o,s⟩ ⟨u,q⟩ (.gi _ 0 (by simp only[g1];omega) z z) W e ac c
theorem azB(S:cO)(g:Nat)(j:List Nat)(F:fv S ⟨g,⟨#[108,101,115,115]⟩,⟨#[]⟩,j⟩ [2,2]=true)(G:gy ⟨[],0,0,0,0,none⟩ (gz ⟨#[108,101,115,115]⟩ ⟨#[]⟩)=true):lo S ⟨g,⟨#[108,101,115,115]⟩,⟨#[]⟩,j⟩:=by
 intro m w f ca cc q B A rc R V o5 Z e ac l fh i c;have C:=fun W (d:Below w.heap.size w W)=>pZ S _ _ F W f ca cc (q.U d) (B.U d);have E:=fun W=>pW _ _ _ G W;refine FN m ⟨#[108,101,115,115]⟩ ⟨#[]⟩ [2,2] ⟨[],0,0,0,0,none⟩ w f ca _ cc A _ rc C E ai e ac l i.any c dE dE dE dE dE dE (by simp only[jr,gl,kq];decide) (by simp only[mM,gl,kq];decide) (fun k W P T O U N d K ag=>?_);have c:=cU.U (aY.mono be 1) c d;obtain⟨X,Y,a,b,rfl,D,ce,t,n,H,I,J,Q⟩:=i.kZ k;obtain⟨s,r,rfl,o,M,c1⟩:=t.BU D;obtain⟨x,u,rfl,y,L,c2⟩:=n.BU ce;exact azf _ _ _ _ _ _ _ _ _ _ _ m s x r u o y z W e ac c
theorem azy(S:cO)(g:Nat)(j:List Nat)(E:fv S ⟨g,⟨#[100,97,121,115]⟩,⟨#[]⟩,j⟩ [3,2]=true)(F:gy ⟨[],0,0,0,0,none⟩ (gz ⟨#[100,97,121,115]⟩ ⟨#[]⟩)=true):lo S ⟨g,⟨#[100,97,121,115]⟩,⟨#[]⟩,j⟩:=by
 intro m w f ca cc q A y rc R T Y X e ac l fh i c;have B:=fun W (d:Below w.heap.size w W)=>pZ S _ _ E W f ca cc (q.U d) (A.U d);have D:=fun W=>pW _ _ _ F W;refine FN m ⟨#[100,97,121,115]⟩ ⟨#[]⟩ [3,2] ⟨[],0,0,0,0,none⟩ w f ca _ cc y _ rc B D ai e ac l i.any c dE dE dE dE dE dE (by simp only[jr,gl,kq];decide) (by simp only[mM,gl,kq];decide) (fun k W N P M Q L d J ag=>?_);have c:=cU.U (aY.mono be 1) c d;obtain⟨U,V,a,b,rfl,C,ce,s,n,H,I,G,O⟩:=i.kZ k;obtain⟨z,rfl,o,r⟩:=s.XW C;obtain⟨u,t,rfl,x,K,c2⟩:=n.BU ce;exact aze _ _ _ _ _ _ _ _ _ _ _ m z u t ⟨o,r⟩ x W e ac c
theorem azN(S:cO)(g:Nat)(k:List Nat)(A:fv S ⟨g,⟨#[119,104,101,114,101]⟩,⟨#[107,105,110,100]⟩,k⟩ [5,1]=true)(B:gy ⟨[kV],0,0,0,0,none⟩ (gz ⟨#[119,104,101,114,101]⟩ ⟨#[107,105,110,100]⟩)=true):lo S ⟨g,⟨#[119,104,101,114,101]⟩,⟨#[107,105,110,100]⟩,k⟩:=by
 intro m w e ca cc r u t rc R L Q P f ac l fh j c;have x:=fun W (d:Below w.heap.size w W)=>pZ S _ _ A W e ca cc (r.U d) (u.U d);have z:=fun W=>pW _ _ _ B W;refine NZ m ⟨#[119,104,101,114,101]⟩ ⟨#[107,105,110,100]⟩ [5,1] ⟨[kV],0,0,0,0,none⟩ w e ca _ cc t _ rc x z ai f ac l j.any c dE dE dE dE dE dE (by simp only[jr,gl,kq];decide) (by simp only[mM,gl,kq];decide) (fun n W s J E K D d q ag=>?_);have c:=cU.U (aY.mono be 1) c d;obtain⟨M,N,a,b,rfl,y,ce,i,o,H,I,C,F⟩:=j.kZ n;obtain⟨a_,rfl,t0⟩:=i.XX y;obtain⟨G,rfl,O⟩:=o.En ce;exact aDp _ _ _ _ _ _ m a_ i _ _ _ _ _ "".toUTF8 W s f ac e q c
theorem azM(S:cO)(g:Nat)(j:List Nat)(y:fv S ⟨g,⟨#[115,117,109]⟩,⟨#[97,109,111,117,110,116,62,61,48]⟩,j⟩ [5]=true)(A:gy ⟨[kH],0,0,0,0,none⟩ (gz ⟨#[115,117,109]⟩ ⟨#[97,109,111,117,110,116,62,61,48]⟩)=true):lo S ⟨g,⟨#[115,117,109]⟩,⟨#[97,109,111,117,110,116,62,61,48]⟩,j⟩:=by
 intro m w d ca cc o s r rc R G K J e ac l fh i b;have t:=fun W (c:Below w.heap.size w W)=>pZ S _ _ y W d ca cc (o.U c) (s.U c);have x:=fun W=>pW _ _ _ A W;refine NZ m ⟨#[115,117,109]⟩ ⟨#[97,109,111,117,110,116,62,61,48]⟩ [5] ⟨[kH],0,0,0,0,none⟩ w d ca _ cc r _ rc t x ai e ac l i.any b dE dE dE dE dE dE (by simp only[jr,gl,kq];decide) (by simp only[mM,gl,kq];decide) (fun k W q E C F B c n ag=>?_);have b:=cU.U (aY.mono be 1) b c;obtain⟨v,a,rfl,u,f,H,I,D⟩:=i.Ep k;obtain⟨a_,rfl,t0⟩:=f.XX u;exact aDo _ _ _ _ _ _ m z a_ f "".toUTF8 W q e ac d n b
theorem azx(S:cO)(g:Nat)(i:List Nat)(u:fv S ⟨g,⟨#[99,111,117,110,116]⟩,⟨#[]⟩,i⟩ [5]=true)(x:gy ⟨[],0,0,0,0,none⟩ (gz ⟨#[99,111,117,110,116]⟩ ⟨#[]⟩)=true):lo S ⟨g,⟨#[99,111,117,110,116]⟩,⟨#[]⟩,i⟩:=by
 intro m w d ca cc k q o rc R G K J e ac l fh f b;have r:=fun W (c:Below w.heap.size w W)=>pZ S _ _ u W d ca cc (k.U c) (q.U c);have t:=fun W=>pW _ _ _ x W;refine NZ m ⟨#[99,111,117,110,116]⟩ ⟨#[]⟩ [5] ⟨[],0,0,0,0,none⟩ w d ca _ cc o _ rc r t ai e ac l f.any b dE dE dE dE dE dE (by simp only[jr,gl,kq];decide) (by simp only[mM,gl,kq];decide) (fun j W C E B F A c y ag=>?_);have b:=cU.U (aY.mono be 1) b c;obtain⟨v,a,rfl,s,n,H,I,D⟩:=f.Ep j;obtain⟨a_,rfl,t0⟩:=n.XX s;exact aDm _ _ _ _ _ _ _ _ _ _ m z a_ t0 W e ac d b
theorem azC(S:cO)(g:Nat)(j:List Nat)(y:fv S ⟨g,⟨#[108,111,111,107,117,112]⟩,⟨#[112,114,105,99,101,115,46,99,111,100,101,46,112,114,105,99,101,58,110,117,109,98,101,114]⟩,j⟩ [1]=true)(A:gy ⟨[oK,no,nF],2,0,0,0,none⟩ (gz ⟨#[108,111,111,107,117,112]⟩ ⟨#[112,114,105,99,101,115,46,99,111,100,101,46,112,114,105,99,101,58,110,117,109,98,101,114]⟩)=true):lo S ⟨g,⟨#[108,111,111,107,117,112]⟩,⟨#[112,114,105,99,101,115,46,99,111,100,101,46,112,114,105,99,101,58,110,117,109,98,101,114]⟩,j⟩:=by
 intro m w d ca cc f s r rc R G K J e ac l fh i c;have t:=fun W (b:Below w.heap.size w W)=>pZ S _ _ y W d ca cc (f.U b) (s.U b);have x:=fun W=>pW _ _ _ A W;refine NZ m ⟨#[108,111,111,107,117,112]⟩ ⟨#[112,114,105,99,101,115,46,99,111,100,101,46,112,114,105,99,101,58,110,117,109,98,101,114]⟩ [1] ⟨[oK,no,nF],2,0,0,0,none⟩ w d ca _ cc r _ rc t x ai e ac l i.any c dE dE dE dE dE dE (by simp only[jr,gl,kq];decide) (by simp only[mM,gl,kq];decide) (fun k W o E C F B b n ag=>?_);have c:=cU.U (aY.mono be 1) c b;obtain⟨v,a,rfl,u,q,H,I,D⟩:=i.Ep k;obtain⟨bX,rfl,t0⟩:=q.En u;exact aDn _ _ _ _ _ _ _ _ m z bX W o e ac d (f.U b) n c
end Go.b3
namespace Go.b3
open Go Go.Proofs Go.RowKit Go.Lib Go.aI
open Go.c0 (cO bA iM)
open Go.bj.N (lq cn l5 l6 lN nd kD ml)
def amW(l:List UInt8):Bool:=Nat.ble l.length 200&&l.all fun c=>Nat.ble 32 c.toNat&&Nat.ble c.toNat 126
theorem Cc{l:List UInt8}(h:amW l=true):j5 ⟨⟨l⟩⟩:=by
 simp only[amW,dz,HZ,hs]at h;refine⟨h.1,fun k a=>?_⟩;have b:k<l.length:=a;have H:=h.2 _ (fM b);have I:(⟨⟨l⟩⟩:ByteArray)[k]=l[k]:=rfl;rw[I];omega
theorem alu:gy ⟨[⟨#[97]⟩],0,0,0,0,none⟩ (gz ⟨#[99,111,108]⟩ ⟨#[97]⟩)=true:=au
theorem aAR:gy ⟨[⟨#[98]⟩],0,0,0,0,none⟩ (gz ⟨#[99,111,108]⟩ ⟨#[98]⟩)=true:=au
theorem aA1:gy ⟨[],0,0,0,0,none⟩ (gz ⟨#[99,111,110,99,97,116]⟩ ⟨#[]⟩)=true:=au
theorem alx:gy ⟨[],0,0,0,0,none⟩ (gz ⟨#[117,112,112,101,114]⟩ ⟨#[]⟩)=true:=au
theorem aBc:gy ⟨[],0,0,0,0,none⟩ (gz ⟨#[116,101,120,116]⟩ ⟨#[45]⟩)=true:=au
theorem aBd:gy ⟨[],0,1,0,0,some 1⟩ (gz ⟨#[101,120,116,114,97,99,116]⟩ ⟨#[92,100,43,35,49]⟩)=true:=au
theorem QP:gy ⟨[⟨#[110]⟩],0,0,0,0,none⟩ (gz ⟨#[99,111,108]⟩ ⟨#[110]⟩)=true:=au
theorem aly:gy ⟨[⟨#[109]⟩],0,0,0,0,none⟩ (gz ⟨#[99,111,108]⟩ ⟨#[109]⟩)=true:=au
theorem alz:gy ⟨[],0,0,0,0,none⟩ (gz ⟨#[97,100,100]⟩ ⟨#[]⟩)=true:=au
theorem alA:gy ⟨[],0,0,0,0,none⟩ (gz ⟨#[109,117,108]⟩ ⟨#[]⟩)=true:=au
theorem aAS:gy ⟨[],0,0,2,0,none⟩ (gz ⟨#[110,117,109,98,101,114]⟩ ⟨#[50]⟩)=true:=au
theorem aAT:gy ⟨[],0,1,0,0,none⟩ (gz ⟨#[114,111,117,110,100]⟩ ⟨#[49]⟩)=true:=au
theorem alv:gy ⟨[⟨#[100]⟩],0,0,0,0,none⟩ (gz ⟨#[99,111,108]⟩ ⟨#[100]⟩)=true:=au
theorem aAU:gy ⟨[],0,0,0,0,none⟩ (gz ⟨#[100,97,121,115]⟩ ⟨#[]⟩)=true:=au
theorem aAV:gy ⟨[],0,0,7,0,none⟩ (gz ⟨#[110,117,109,98,101,114]⟩ ⟨#[55]⟩)=true:=au
theorem aAW:gy ⟨[],0,0,0,0,none⟩ (gz ⟨#[98,101,116,119,101,101,110]⟩ ⟨#[]⟩)=true:=au
theorem aAX:gy ⟨[⟨#[101]⟩],0,0,0,0,none⟩ (gz ⟨#[99,111,108]⟩ ⟨#[101]⟩)=true:=au
theorem aAY:gy ⟨[oK,no,nF],2,0,0,0,none⟩ (gz ⟨#[108,111,111,107,117,112]⟩ ⟨#[112,114,105,99,101,115,46,99,111,100,101,46,112,114,105,99,101,58,110,117,109,98,101,114]⟩)=true:=au
theorem aAZ:gy ⟨[⟨#[99,111,100,101]⟩],0,0,0,0,none⟩ (gz ⟨#[99,111,108]⟩ ⟨#[99,111,100,101]⟩)=true:=au
theorem aA0:gy ⟨[],0,0,0,0,none⟩ (gz ⟨#[116,101,120,116]⟩ ⟨#[65]⟩)=true:=au
theorem alw:gy ⟨[⟨#[115]⟩],0,0,0,0,none⟩ (gz ⟨#[99,111,108]⟩ ⟨#[115]⟩)=true:=au
theorem aA2:gy ⟨[],0,0,0,0,none⟩ (gz ⟨#[116,101,120,116]⟩ ⟨#[108,111,119]⟩)=true:=au
theorem aA3:gy ⟨[],1,0,0,0,none⟩ (gz ⟨#[105,102]⟩ ⟨#[116,101,120,116]⟩)=true:=au
theorem aA4:gy ⟨[],0,0,0,0,none⟩ (gz ⟨#[108,101,115,115]⟩ ⟨#[]⟩)=true:=au
theorem aA5:gy ⟨[],0,0,0,0,some 2⟩ (gz ⟨#[109,97,116,99,104]⟩ ⟨#[92,117,43]⟩)=true:=au
theorem aA6:gy ⟨[],0,0,10,0,none⟩ (gz ⟨#[110,117,109,98,101,114]⟩ ⟨#[49,48]⟩)=true:=au
theorem aA7:gy ⟨[],0,0,0,0,none⟩ (gz ⟨#[116,101,120,116]⟩ ⟨#[104,105,103,104]⟩)=true:=au
theorem aA8:gy ⟨[kH],0,0,0,0,none⟩ (gz ⟨#[115,117,109]⟩ ⟨#[97,109,111,117,110,116,62,61,48]⟩)=true:=au
theorem aA9:gy ⟨[],0,0,0,0,none⟩ (gz ⟨#[99,111,117,110,116]⟩ ⟨#[]⟩)=true:=au
theorem aA_:gy ⟨[⟨#[105,116,101,109,115]⟩],0,0,0,0,none⟩ (gz ⟨#[99,111,108]⟩ ⟨#[105,116,101,109,115]⟩)=true:=au
theorem aA':gy ⟨[kV],0,0,0,0,none⟩ (gz ⟨#[119,104,101,114,101]⟩ ⟨#[107,105,110,100]⟩)=true:=au
theorem aBa:gy ⟨[⟨#[107]⟩],0,0,0,0,none⟩ (gz ⟨#[99,111,108]⟩ ⟨#[107]⟩)=true:=au
theorem aBb:gy ⟨[],0,0,0,0,none⟩ (gz ⟨#[116,101,120,116]⟩ ⟨#[97]⟩)=true:=au
theorem aDW:fv l5 ⟨0,⟨#[99,111,108]⟩,⟨#[97]⟩,[]⟩ []=true:=au
theorem aDX:fv l5 ⟨0,⟨#[99,111,108]⟩,⟨#[98]⟩,[]⟩ []=true:=au
theorem aDY:fv l5 ⟨0,⟨#[99,111,110,99,97,116]⟩,⟨#[]⟩,[1,0]⟩ [1,1]=true:=au
theorem aDZ:fv l5 ⟨0,⟨#[117,112,112,101,114]⟩,⟨#[]⟩,[1]⟩ [1]=true:=au
theorem aD0:fv l5 ⟨1,⟨#[99,111,108]⟩,⟨#[97]⟩,[]⟩ []=true:=au
theorem aD1:fv l5 ⟨1,⟨#[116,101,120,116]⟩,⟨#[45]⟩,[]⟩ []=true:=au
theorem aD2:fv l5 ⟨1,⟨#[101,120,116,114,97,99,116]⟩,⟨#[92,100,43,35,49]⟩,[1]⟩ [1]=true:=au
theorem azG:∀r∈l5.c8,lo l5 r:=by
 intro r a;simp only[l5,gl,kq,uz]at a;rcases a with rfl|rfl|rfl|rfl|rfl|rfl|rfl
 ·exact qx l5 0 ⟨#[97]⟩ [] aDW alu (by simp[l5]) ai
 ·exact qx l5 0 ⟨#[98]⟩ [] aDX aAR (by simp[l5]) ai
 ·exact azw l5 0 [1,0] aDY aA1
 ·exact akF l5 0 [1] aDZ alx
 ·exact qx l5 1 ⟨#[97]⟩ [] aD0 alu (by simp[l5]) ai
 ·exact LR l5 1 ⟨#[45]⟩ [] aD1 aBc (Cc au)
 ·exact azz l5 1 [1] aD2 aBd
theorem aD3:fv l6 ⟨0,⟨#[99,111,108]⟩,⟨#[110]⟩,[]⟩ []=true:=au
theorem aD4:fv l6 ⟨0,⟨#[99,111,108]⟩,⟨#[109]⟩,[]⟩ []=true:=au
theorem aD5:fv l6 ⟨0,⟨#[97,100,100]⟩,⟨#[]⟩,[1,0]⟩ [2,2]=true:=au
theorem aD6:fv l6 ⟨0,⟨#[109,117,108]⟩,⟨#[]⟩,[0,1]⟩ [2,2]=true:=au
theorem aD7:fv l6 ⟨1,⟨#[110,117,109,98,101,114]⟩,⟨#[50]⟩,[]⟩ []=true:=au
theorem aD8:fv l6 ⟨1,⟨#[99,111,108]⟩,⟨#[109]⟩,[]⟩ []=true:=au
theorem aD9:fv l6 ⟨1,⟨#[114,111,117,110,100]⟩,⟨#[49]⟩,[1]⟩ [2]=true:=au
theorem azH:∀r∈l6.c8,lo l6 r:=by
 intro r a;simp only[l6,gl,kq,uz]at a;rcases a with rfl|rfl|rfl|rfl|rfl|rfl|rfl
 ·exact qx l6 0 ⟨#[110]⟩ [] aD3 QP (by simp[l6]) ai
 ·exact qx l6 0 ⟨#[109]⟩ [] aD4 aly (by simp[l6]) ai
 ·exact akD l6 0 [1,0] aD5 alz
 ·exact akE l6 0 [0,1] aD6 alA
 ·exact X3 2 l6 1 ⟨#[50]⟩ [] aD7 aAS ai
 ·exact qx l6 1 ⟨#[109]⟩ [] aD8 aly (by simp[l6]) ai
 ·exact azE l6 1 [1] aD9 aAT
theorem aD_:fv lN ⟨0,⟨#[99,111,108]⟩,⟨#[100]⟩,[]⟩ []=true:=au
theorem aD':fv lN ⟨0,⟨#[100,97,121,115]⟩,⟨#[]⟩,[0,1]⟩ [3,2]=true:=au
theorem aEa:fv lN ⟨1,⟨#[99,111,108]⟩,⟨#[110]⟩,[]⟩ []=true:=au
theorem aEb:fv lN ⟨1,⟨#[110,117,109,98,101,114]⟩,⟨#[55]⟩,[]⟩ []=true:=au
theorem aEc:fv lN ⟨1,⟨#[98,101,116,119,101,101,110]⟩,⟨#[]⟩,[2,2]⟩ [3,3]=true:=au
theorem aEd:fv lN ⟨2,⟨#[99,111,108]⟩,⟨#[100]⟩,[]⟩ []=true:=au
theorem aEe:fv lN ⟨2,⟨#[99,111,108]⟩,⟨#[101]⟩,[]⟩ []=true:=au
theorem azI:∀r∈lN.c8,lo lN r:=by
 intro r a;simp only[lN,gl,kq,uz]at a;rcases a with rfl|rfl|rfl|rfl|rfl|rfl|rfl
 ·exact qx lN 0 ⟨#[100]⟩ [] aD_ alv (by simp[lN]) ai
 ·exact azy lN 0 [0,1] aD' aAU
 ·exact qx lN 1 ⟨#[110]⟩ [] aEa QP (by simp[lN]) ai
 ·exact X3 7 lN 1 ⟨#[55]⟩ [] aEb aAV ai
 ·exact azv lN 1 [2,2] aEc aAW
 ·exact qx lN 2 ⟨#[100]⟩ [] aEd alv (by simp[lN]) ai
 ·exact qx lN 2 ⟨#[101]⟩ [] aEe aAX (by simp[lN]) ai
theorem aEf:fv nd ⟨0,⟨#[108,111,111,107,117,112]⟩,⟨#[112,114,105,99,101,115,46,99,111,100,101,46,112,114,105,99,101,58,110,117,109,98,101,114]⟩,[1]⟩ [1]=true:=au
theorem aEg:fv nd ⟨0,⟨#[99,111,108]⟩,⟨#[110]⟩,[]⟩ []=true:=au
theorem aEh:fv nd ⟨0,⟨#[109,117,108]⟩,⟨#[]⟩,[0,0]⟩ [2,2]=true:=au
theorem aEi:fv nd ⟨1,⟨#[99,111,108]⟩,⟨#[99,111,100,101]⟩,[]⟩ []=true:=au
theorem aEj:fv nd ⟨1,⟨#[117,112,112,101,114]⟩,⟨#[]⟩,[1]⟩ [1]=true:=au
theorem aEk:fv nd ⟨1,⟨#[116,101,120,116]⟩,⟨#[65]⟩,[]⟩ []=true:=au
theorem azJ:∀r∈nd.c8,lo nd r:=by
 intro r a;simp only[nd,gl,kq,uz]at a;rcases a with rfl|rfl|rfl|rfl|rfl|rfl
 ·exact azC nd 0 [1] aEf aAY
 ·exact qx nd 0 ⟨#[110]⟩ [] aEg QP (by simp[nd]) ai
 ·exact akE nd 0 [0,0] aEh alA
 ·exact qx nd 1 ⟨#[99,111,100,101]⟩ [] aEi aAZ (by simp[nd]) ai
 ·exact akF nd 1 [1] aEj alx
 ·exact LR nd 1 ⟨#[65]⟩ [] aEk aA0 (Cc au)
theorem aEl:fv kD ⟨0,⟨#[99,111,108]⟩,⟨#[115]⟩,[]⟩ []=true:=au
theorem aEm:fv kD ⟨0,⟨#[116,101,120,116]⟩,⟨#[108,111,119]⟩,[]⟩ []=true:=au
theorem aEn:fv kD ⟨0,⟨#[105,102]⟩,⟨#[116,101,120,116]⟩,[1,3,0]⟩ [4,1,1]=true:=au
theorem aEo:fv kD ⟨1,⟨#[108,101,115,115]⟩,⟨#[]⟩,[2,2]⟩ [2,2]=true:=au
theorem aEp:fv kD ⟨1,⟨#[109,97,116,99,104]⟩,⟨#[92,117,43]⟩,[3]⟩ [1]=true:=au
theorem aEq:fv kD ⟨2,⟨#[99,111,108]⟩,⟨#[110]⟩,[]⟩ []=true:=au
theorem aEr:fv kD ⟨2,⟨#[110,117,109,98,101,114]⟩,⟨#[49,48]⟩,[]⟩ []=true:=au
theorem aEs:fv kD ⟨3,⟨#[99,111,108]⟩,⟨#[115]⟩,[]⟩ []=true:=au
theorem aEt:fv kD ⟨3,⟨#[116,101,120,116]⟩,⟨#[104,105,103,104]⟩,[]⟩ []=true:=au
theorem azK:∀r∈kD.c8,lo kD r:=by
 intro r a;simp only[kD,gl,kq,uz]at a;rcases a with rfl|rfl|rfl|rfl|rfl|rfl|rfl|rfl|rfl
 ·exact qx kD 0 ⟨#[115]⟩ [] aEl alw (by simp[kD]) ai
 ·exact LR kD 0 ⟨#[108,111,119]⟩ [] aEm aA2 (Cc au)
 ·exact azA kD 0 [1,3,0] aEn aA3
 ·exact azB kD 1 [2,2] aEo aA4
 ·exact azD kD 1 [3] aEp aA5
 ·exact qx kD 2 ⟨#[110]⟩ [] aEq QP (by simp[kD]) ai
 ·exact X3 10 kD 2 ⟨#[49,48]⟩ [] aEr aA6 ai
 ·exact qx kD 3 ⟨#[115]⟩ [] aEs alw (by simp[kD]) ai
 ·exact LR kD 3 ⟨#[104,105,103,104]⟩ [] aEt aA7 (Cc au)
theorem aEu:fv ml ⟨0,⟨#[115,117,109]⟩,⟨#[97,109,111,117,110,116,62,61,48]⟩,[1]⟩ [5]=true:=au
theorem aEv:fv ml ⟨0,⟨#[99,111,117,110,116]⟩,⟨#[]⟩,[1]⟩ [5]=true:=au
theorem aEw:fv ml ⟨0,⟨#[97,100,100]⟩,⟨#[]⟩,[0,0]⟩ [2,2]=true:=au
theorem aEx:fv ml ⟨1,⟨#[99,111,108]⟩,⟨#[105,116,101,109,115]⟩,[]⟩ []=true:=au
theorem aEy:fv ml ⟨1,⟨#[119,104,101,114,101]⟩,⟨#[107,105,110,100]⟩,[1,2]⟩ [5,1]=true:=au
theorem aEz:fv ml ⟨2,⟨#[99,111,108]⟩,⟨#[107]⟩,[]⟩ []=true:=au
theorem aEA:fv ml ⟨2,⟨#[116,101,120,116]⟩,⟨#[97]⟩,[]⟩ []=true:=au
theorem azL:∀r∈ml.c8,lo ml r:=by
 intro r a;simp only[ml,gl,kq,uz]at a;rcases a with rfl|rfl|rfl|rfl|rfl|rfl|rfl
 ·exact azM ml 0 [1] aEu aA8
 ·exact azx ml 0 [1] aEv aA9
 ·exact akD ml 0 [0,0] aEw alz
 ·exact qx ml 1 ⟨#[105,116,101,109,115]⟩ [] aEx aA_ (by simp[ml]) ai
 ·exact azN ml 1 [1,2] aEy aA'
 ·exact qx ml 2 ⟨#[107]⟩ [] aEz aBa (by simp[ml]) ai
 ·exact LR ml 2 ⟨#[97]⟩ [] aEA aBb (Cc au)
theorem azF(n:Nat):∀r∈(Go.bj.N.cn n).c8,lo (Go.bj.N.cn n) r:=by
 simp only[Go.bj.N.cn];split
 ·exact azG
 split
 ·exact azH
 split
 ·exact azI
 split
 ·exact azJ
 split
 ·exact azK
 exact azL
end Go.b3
