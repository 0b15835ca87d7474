/- ConflictAuthors. -/
import Derived.Test.YtfgcglgpfgifkaaGreatDoorP18
set_option linter.all false
set_option maxRecDepth 100000
set_option maxHeartbeats 16000000
namespace Go.aI
open Go Go.Proofs.Tryz Go.ch Go.Proofs Go.RowKit
theorem afh{ρ:b4}(c:ρ.nC=mK prog)(f:FuncId)(F:List K->ay->Option (K×ay))(h:ext1 f=some F):ls prog ρ f F:=by
 have E:=as4 c 3000;have b:∀n,13<=n->prog.globals.size<=n:=fun n h=>by rw[afI];exact h
 unfold ext1 at h;simp only[xt]at h;split at h
 ·rename_i e;subst e;cases h;refine L0 fun q a=>?_;simp only[gl,HX,uz]at a;subst a;exact Hl (E.call _) (b _ ai) aAG
 split at h
 ·rename_i e;subst e;cases h;refine L0 fun q a=>?_;simp only[gl,HX,uz]at a;rcases a with rfl|rfl|rfl
  ·exact Hl (E.call _) (b _ ai) aAH
  ·exact Hl (E.call _) (b _ ai) aAI
  ·exact Hl (E.call _) (b _ ai) aAJ
 split at h
 ·rename_i e;subst e;cases h;refine L0 fun q a=>?_;simp only[gl,HX,uz]at a;subst a;exact Hl (E.call _) (b _ ai) aAK
 split at h
 ·rename_i e;subst e;cases h;refine L0 fun q a=>?_;simp only[gl,HX,uz]at a;subst a;exact Hl (E.call _) (b _ ai) aAL
 ·exact wk f F h
theorem as5{ρ:b4}(a:ρ.nC=mK prog)(n:Nat):rB prog ρ (iC prog ext1 jY.find n):=
 OB follows a (lp.sY vC) (afh a) n
theorem atm{ρ:b4}(b:ρ.nC=mK prog)(f:FuncId)(F:List K->ay->Option (K×ay))(h:UI f=some F):ls prog ρ f F:=by
 have E:=as5 b 3000;unfold UI at h;simp only[xt]at h;split at h
 ·rename_i e;subst e;cases h;refine XH fun q a=>?_;simp only[gl,HX,uz]at a;subst a;exact LH (E.call _) ayw
 split at h
 ·rename_i e;subst e;cases h;refine XH fun q a=>?_;simp only[gl,HX,uz]at a;rcases a with rfl|rfl|rfl|rfl
  ·exact LH (E.call _) ayx
  ·exact LH (E.call _) ayy
  ·exact LH (E.call _) ayz
  ·exact LH (E.call _) ayA
 ·exact afh b f F h
def aop(e:Ending):Prop:=e=.returned (.bool true)
def FG(w:World):Prop:=∃bg,w.heap[1]? =some (.cells #[.int .i64 1,.int .i64 10,.int .i64 100,.int .i64 1000,.int .i64 10000,.int .i64 100000,.int .i64 1000000] 406 bg)
theorem FG.U{w w':World}(h:FG w)(A:Below w.heap.size w w'):FG w':=by
 obtain⟨bg,h⟩:=h;exact⟨bg,(A.block 1 (hl.1 h).1).trans h⟩
def Fx(w:World):Prop:=∃bg,w.heap[2]? =some (.cells (Lib.pow10Tab.map fun ae=>Value.int .u64 ae).toArray 488 bg)
theorem Fx.U{w w':World}(h:Fx w)(A:Below w.heap.size w w'):Fx w':=by
 obtain⟨bg,h⟩:=h;exact⟨bg,(A.block 2 (hl.1 h).1).trans h⟩
theorem aeq{w:World}{b:Nat}{arr:Array Value}{t:TypeId}{bg:Nat×Nat}(h:w.heap[b]? =some (.cells arr t bg)):mB w b=arr:=by simp[mB,h]
theorem alK{ρ:b4}{σ:bl}{w:World}{b dA tot:Nat}{arr:Array Value}{t:TypeId}{bg:Nat×Nat}{vs:List K}(ah:ρ.ys=mB w)(e:ρ.bg=pF w)(h:w.heap[b]? =some (.cells arr t bg)){cs:List Value}(a:bU ρ σ vs=some cs)(c:arr=cs.toArray)(hd:dA=0):io ρ σ ⟨b,dA,tot⟩ w.heap[b]? (.aC t vs):=by
 subst hd;refine⟨cs,a,?_,fun i hi=>?_⟩
 ·rw[ah,e];have ak:mB w b=arr:=aeq h;have d:pF w b=bg:=by simp[pF,h]
  show w.heap[b]? =some (.cells (mB w b) t (pF w b));rw[ak,d];exact h
 ·rw[ah];show(mB w b)[0+i]? =cs[i]?;rw[aeq h,c,gm];simp
def nc:bl:=fun b=>if b<13 then some ⟨b,0,0⟩else none
theorem aor:jE prog nc:=fun k a=>⟨0,by rw[afI]at a;simp[nc,a]⟩
def Jj:lQ:=[(1,l7),(2,l4)]
theorem at5:ab=gU ⟨.e,13⟩ Jj:=rfl
theorem aos{ρ:b4}{w:World}(f:FG w)(g:Fx w)(ah:ρ.ys=mB w)(c:ρ.bg=pF w):c6 ρ nc (gU ⟨.e,13⟩ Jj) w:=by
 have n:n7 Jj=true:=rfl;obtain⟨t,t0⟩:=f;obtain⟨r,i⟩:=g;have oI:∀b x,(gU ⟨.e,13⟩ Jj).cK b=some x->(b=1/\x=l7)∨(b=2/\x=l4):=fun b x A=>by have:=yi n A;simpa[Jj]using this
 have ej:∀b p,nc b=some p->(b=1∨b=2)->(b=1/\p.aU=1)∨(b=2/\p.aU=2):=fun b p ag A=>by rcases A with rfl|rfl<;>simp[nc]at ag<;>subst ag<;>simp
 refine⟨fun b x A=>?_,fun b a x e p d A k ag j o=>?_,fun b A=>?_⟩
 ·rcases oI b x A with⟨rfl,rfl⟩|⟨rfl,rfl⟩
  ·exact⟨⟨1,0,0⟩,rfl,alK ah c t0 (cs:=[.int .i64 1,.int .i64 10,.int .i64 100,.int .i64 1000,.int .i64 10000,.int .i64 100000,.int .i64 1000000]) rfl rfl rfl⟩
  ·exact⟨⟨2,0,0⟩,rfl,alK ah c i (cs:=Lib.pow10Tab.map fun ae=>Value.int .u64 ae) rfl rfl rfl⟩
 ·have l:b=1∨b=2:=by rcases oI b x A with⟨h,_⟩|⟨h,_⟩<;>omega
  have m:a=1∨a=2:=by rcases oI a e k with⟨h,_⟩|⟨h,_⟩<;>omega
  have q:=ej b p ag l;have s:=ej a d j m;omega
 ·have A:13<=b:=by rw[B0]at A;exact A
  unfold nc;rw[bn z]
theorem aBN(w:World)(h:FG w)(i:Fx w):Calls prog 4 #[] w fun e w'=>aop e/\Below w.heap.size w w':=by
 obtain⟨ρ,d,g,ah⟩:∃ρ:b4,ρ.nC=mK prog/\ρ.bg=pF w/\ρ.ys=mB w:=⟨⟨fun _=>undef,mK prog,pF w,mB w⟩,rfl,rfl,rfl⟩;have a:=aBO;rw[at5]at a;unfold aid at a;split at a
 ·rename_i j J;refine(ym follows d (lp.sY vC) (atm d) (f:=4) rfl aor (args:=[]) (cs:=[]) rfl rfl rfl (aos h i ah g) J a).mono ?_;rintro e w' ⟨c,σ',rfl,b⟩;have:c=.bool true:=gn (b.v.symm.trans rfl);subst this;exact⟨rfl,b.b⟩
 ·cases a
end Go.aI
namespace Go.b3
open Go Go.Proofs.Tryz Go.Proofs Go.RowKit Go.c0 Go.bj
open Go.aI (k7)
theorem aCx(s:Nat):((N.cn s).aB[(N.cn s).aj]'(N.Ml s).aj).2=1∨((N.cn s).aB[(N.cn s).aj]'(N.Ml s).aj).2=2∨((N.cn s).aB[(N.cn s).aj]'(N.Ml s).aj).2=3:=by
 have h:∀S:cO,(h:S.aj<S.aB.length)->(S.aB[S.aj]?.map fun p=>Nat.ble 1 p.2&&Nat.ble p.2 3)=some true->(S.aB[S.aj]'h).2=1∨(S.aB[S.aj]'h).2=2∨(S.aB[S.aj]'h).2=3:=fun S h A=>by rw[ln h]at A;simp at A;omega
 refine h _ _ ?_;exact ajX
theorem aCw(s:Nat):∀x∈(N.cn s).bs,1<=x.2/\x.2<=5:=by
 have h:∀S:cO,(S.bs.all fun p=>Nat.ble 1 p.2&&Nat.ble p.2 5)=true->∀x∈S.bs,1<=x.2/\x.2<=5:=fun S A x a=>by have:=hs.1 A x a;simp at this;exact this
 refine h _ ?_;exact ajX
theorem atS{s:Nat}{M:Nat->Nat}{rs:List bA}{w:World}{F:Array Value}(h:N.vN (N.cn s) M rs w F)(n:∀i,1<=M i/\M i<=5)(e:rs.Sublist (N.cn s).c8)(l:wb rs M (N.cn s).aj):∃ca d cc c rb aC rc,F=eh (N.cn s) rs ca d cc c rb aC rc/\AE (N.cn s) M rs ca d cc c rb aC rc w:=by
 obtain⟨ca,cc,d,c,ra,rc,rfl,g,j,a,ce,eb,eV⟩:=h;have k:=a.at;obtain⟨b,o,rfl,ah,m⟩:=a;refine⟨ca,d,cc,c,b,o,rc,rfl,⟨⟨N.Ml s,N.amg s,n,e,g,j.at,k,ce,eb,eV⟩,⟨ah.lt,fun i hi p ac f=>?_⟩,db e.length_le (N.aCy s),l,fun r a=>azF s r (e.subset a),aCx s,aCw s⟩⟩;obtain⟨q,t,H,_,I⟩:=m i hi;rw[H.c3]at f;cases f;exact I
theorem l9.lt{b:List Int}{l:List (Int×Int)}{R:List Int}(h:l9 b l R)(k:Nat)(H:1<=k)(a:k<R.length):R[k-1]<R[k]:=RQ.1 h.BF (k-1) k z a z
theorem aFl(w:World)(dC:Go.aI.FG w)(eY:Go.aI.Fx w)(e4:13<=w.heap.size)(u:Option Addr)(g g6:Nat)(m:Go.aI.k7 w u g)(B:∀q,u=some q->q.block<w.heap.size)(T:g<=maxLen)(K:Option Addr)(O iH:Nat)(dd:IQ w K O)(ju:Option Addr)(E:Nat)(t:List Int)(ev:tD w ju t): Calls prog 3 #[.slice u g g6,.slice K O iH,.slice ju t.length E] w fun e w'=>py e/\Below w.heap.size w w':=by
 have aj:=G (fun W (d:Below w.heap.size w W)=>Go.aI.aBN W (dC.U d) (eY.U d));have ad:=G (fun W (d:Below w.heap.size w W)=>N.ayf W u g g6 (db e4 d.size) (by
  rcases m with m|⟨b,o,rfl,au⟩
  ·exact .inl m
  ·exact .inr ⟨b,o,rfl,fun i hi=>by obtain⟨x,aw⟩:=au i hi;have iq:b<w.heap.size:=B _ rfl;exact⟨x,by rw[d.cell iq];exact aw⟩⟩) (fun q az _=>iz (B q az) d.size) T)
 have aa:=G dd;have V:=G ev;clear dC eY m B T dd ev;go_enter func3,ntmps3;go_upto_region 3 with(first
  |(have _:=n;go_at_call 5;refine(ad.out _ n).mono ?_;rintro e r ⟨⟨s,M,rs,F,rfl,cV,m3,gv,nB,U⟩,bm⟩;obtain⟨ca,J,cc,I,rb,aC,rc,rfl,ak⟩:=atS cV m3 gv U;have ae:=G ak;have lu:=G (b_ n bm);clear cV m3 gv nB U ak)
  |(go_at_call 4;refine(aj.out _ (bi w.heap.size w)).mono ?_;rintro e ap ⟨aJ,n⟩;cases (show e=.returned (.bool true)from aJ)))
 generalize N.cn s=S at*;have Q:=fH r (.cells (eh S rs ca J cc I rb aC rc) 29);have y:=G (b_ lu.out Q);have vi:=da r (.cells (eh S rs ca J cc I rb aC rc) 29);have af:=G (ae.out.U Q);clear Q aj ad ae n bm;generalize (r.alloc (.cells (eh S rs ca J cc I rb aC rc) 29))=bz at*;generalize r.heap.size=gB at*;obtain⟨cp,aW,bb,bR,dF,dZ⟩:=fZ vi;have Y:=y.out.size;have X:=G (ax0 af.out (db e4 Y) K O iH (aa.out.U y.out) 8 ai);go_upto_region 4 with(go_at_call 6;(refine X.out.mono ?_);rintro e f ⟨⟨a,c,l,rfl,s5,al,aH⟩,bt⟩;have ab:=G al;have P:=G (y.out.trans (bt.mono Y));clear s5 al aH bt)
 clear cp aW bb bR dF dZ X y vi af aa lu;have aB:=P.out.size;have j:=G ((ab.out.low fun _ _=>h5):sG be f a l);have D:=G (V.out.U P.out);have ag:=G (adH f a c l j.out ju E t D.out);have aD:=G fun W (d:Below f.heap.size f W)=>aBe W a c l (j.out.U d) ju E t (D.out.U d);have R':=G fun W (d:Below f.heap.size f W)=>adH W a c l (j.out.U d) none 0 [] ⟨dq _,fun h=>absurd h (H1 _)⟩;clear ab j D V;go_upto_region 5 with(go_at_call 7;(with_reducible refine ag.out.mono ?_);rintro e Z ⟨⟨ra,ax,R,rfl,dV,aF,an⟩,bC⟩;have mS:=G dV;have aE:=G an;have tz:=G bC;clear dV an bC)
 clear ag;have aI:=tz.out.size
 go_wp2;go_loopw [11] (fun i c9=>∃k:Nat,1<=k/\k<=12/\i=.int .i64 k/\Below Z.heap.size Z c9) (fun i _=>R.length-(RowKit.intOf i).toNat);case atStart=>exact⟨1,aZ _,ai,rfl,bi _ _⟩
 case round=>
  obtain⟨k,av,aM,rfl,A⟩:=hrel;have fO:=G A;have ah:=G (aE.out.U A);have BC:=A.size;clear A;by_cases aq:k<R.length
  ·obtain⟨aN,aP,rfl,_,H⟩:=ah.out.2 z;have c1:=H (k-1) z;have c2:=H k aq;have aL:=mS.out.lt k av aq;have fg:(1:Int)<=(k:Int):=z;have ce:(k:Int)<R.length:=z;have eb:((k:Int)-1)=((k-1:Nat):Int):=z;have eV:((k-1:Nat):Int)<(R.length:Int):=z;have oF:(0:Int)<=((k-1:Nat):Int):=z;clear H;generalize R[k-1]=dk at*;generalize R[k]=dB at*;have jR:¬dB<=dk:=z;go_upto_region 8 with fail
   go_quiet (fail)
   go_wp2;exact⟨⟨k+1,z,z,bM,fO.out.trans ((oR (bi _ _) _).mono BC)⟩,by simp[RowKit.intOf];omega⟩
  ·have ce:¬(k:Int)<R.length:=z;have C:=G (tz.out.trans (fO.out.mono aI))
   go_wp2_with (first
    |(have _:=g3;go_at_call 7;(refine(R'.out _ am).mono ?_);rintro e gD ⟨⟨bW,cm,aK,rfl,dG,_,_⟩,o6⟩;obtain rfl:=dG.none)
    |(have _:=L;go_at_call 8;refine(axh w7 ra ay ax aA _ aF (ah.out.U L) aG).mono ?_;rintro e di ⟨rfl,g3⟩;have am:=C.out.trans ((b_ L g3).mono C.out.size))
    |(go_at_call 9;(with_reducible refine(aD.out _ C.out).mono ?_);rintro e w7 ⟨⟨ay,aA,aQ,rfl,bx,_,aG⟩,L⟩;obtain rfl:=bx.as8 mS.out))
   go_ret;exact⟨rfl,P.out.trans ((b_ am o6).mono aB)⟩
end Go.b3
