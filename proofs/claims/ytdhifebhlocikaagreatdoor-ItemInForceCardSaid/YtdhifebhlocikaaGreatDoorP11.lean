/- ItemInForce, one part of the proof. -/
import Derived.Test.YtdhifebhlocikaaGreatDoorP10
set_option linter.all false
set_option maxRecDepth 100000
set_option maxHeartbeats 16000000
namespace Go.bE
open Go Go.Proofs.Tryz Go.Proofs Go.RowKit Go.di Go.bk
section
variable {S:c8} {M:Nat->Nat} {rs:List bD} {ca be:Θ} {cc aW rb aK rc:Nat} {w:Γ}
def av4(cs:List (List Int))(e:Ending)(w':Γ):Prop:=∃va a,e=.returned (.tuple #[.slice va cs.length a,.bool true])/\Ml w' va cs
attribute [local irreducible] wpStill in
def aJK(h:p1 S M rs ca be cc aW rb aK rc w)(aO:Θ)(d s k:Nat)(aa:k<rs)(cs:List (List Int))(hcut:CT rs rs[k].args cs)(ag:lT w aO ((k:Int)::cs.flatten))(j1:cs.flatten.length+1<=d)(Gw:cs.flatten.length<=99)(dm:Dm rs s ((k:Int)::cs.flatten)): χ 414 #[.agg (en S rs ca be cc aW rb aK rc),.slice aO (cs.flatten.length+1) d] w (av4 cs):=by
 have gz:=A λW (C:β w W)=>asy (h.K C) aO d s _ (ag.K C) (by rw[l8];omega) dm;have eh:=A (ad0 (.string S.nm) S.dk (.slice ca S.bB cc) (.slice be S.aJ aW) S.an rs rb aK rc aO d _ w h.r ag h.iZ h.rX (by rw[l8];omega) (cs.flatten.length+1));have O:=ie.d_ w (en S rs ca be cc aW rb aK rc);have Fb:=A ag;obtain⟨pb,po,rfl,lf,oI⟩:=ag aq;have kk:=oI 0 aq;rw[AG,hY]at kk;have ay:=A oI;have Gy:=h.r;let⟨uZ,Kz,cg,iR,kU⟩:=Gy;cases cg;let⟨aU,ac,R⟩:=kU k aa;have ek:=R.c3;have jZ:=A R.args;have o4:=h.iZ _ (fp aa);have Io:=A hcut;have gs:=hcut.len;have jg:(0:Int)<=(k:Int):=z;have kV:(k:Int)<rs.length:=z;have nE:0<(cs.flatten.length:Int)+1:=z;have ak:((k:Int)== -1)=false:=by simp<;>omega
 have vV:=h.rX;generalize lE:cs.flatten.length=gr at*;rw[l8,lE]at gz eh;have r9:=A lE;clear oI h kU R dm hcut lE ag;go_enter func414,ntmps414;go_upto_region 2 with(go_at_call 297;refine(gz.out _ O.b).mono ?_;rintro e x ⟨rfl,aV⟩)
 have B:=O.K aV;have I5:=(B.b.cell lf).trans kk;have b_:=(B.b.cell iR).trans ek;clear O aV gz kk ek;go_upto_region 6 with fail
 have e0:=B.Jb;have I6:x.drew.cell? ⟨pb,po,none⟩=_:=I5;have cv:x.drew.cell? ⟨rb,aK+k*4+3,none⟩=_:=b_;refine wt aw aw ?_;change wpStill _ _ x.drew (λa'=>Exit.then _ _ Exit.normal a' x.drew) _ _;clear B I5 b_;generalize x.drew=ap at*;have y:=aN 4 e0.g;repeat still_step
 refine tU ?_;clear y I6 cv;go_wp2;generalize aI:rs[k].args=H at*;go_loopw [8,9,11] (λv a i wr=>∃j:Nat,j<=cs.length/\a=.int .i64 ((1+off cs j:Nat):Int)/\i=.int .i64 (j:Nat)/\wC ap wr v (cs.take j)) (λ_ _ i _=>cs.length-(RowKit.intOf i).toNat);case atStart=>exact⟨0,dh _,by simp[aF2],rfl,by rw[List.take_zero];exact wC.start _ _ (bl _ _)⟩
 case round=>
  obtain⟨j,ab,rfl,rfl,q⟩:=hrel;have bm:=q.b;have l:=e0.K bm;by_cases au:j<cs
  .have nB:j<H.length:=z;obtain⟨F,eL,rfl,iE,o5⟩:=jZ.out z;have I:=(l.b.cell iE).trans (o5 j nB);have E:=Io.out.S0 j nB au;have Q:=apU cs j au;have dQ:=apV cs j au;rw[r9.out]at dQ;have qT:=Je E;generalize av:cs[j].length=m at*;have an:=λW (C:β w W)=>eh.out (1+off cs j) H[j] m W z (by
    rw[tW 1,We,Q]
    exact Nw rs _ _ _ _ E) C
   have L6:=A an;generalize H[j]=gH at*;have lH:off cs j<=99:=z;have nF:(0:Int)<=(j:Int):=z;have nG:(j:Int)<H.length:=z;have aB:=A Q;have k8:=A E;have o:=A av;clear o5 Q E an av;generalize ZM:1+off cs j=c at*;let⟨Z,P,U,T,y,f⟩:=gp l.g;have gW:wr.drew.cell? ⟨w,0,none⟩=S.nm:=Z;have eM:wr.drew.cell? ⟨w,1,none⟩=S.dk:=P;have ft:wr.drew.cell? ⟨w,2,none⟩=some (.slice ca S.bB cc):=U;have hJ:wr.drew.cell? ⟨w,3,none⟩=some (.slice be S.aJ aW):=T;have kR:wr.drew.cell? ⟨w,4,none⟩=some (.slice (some ⟨rb,aK,none⟩) rs rc):=y;have mC:wr.drew.cell? ⟨w,5,none⟩=S.an:=f;have Ng:wr.drew.cell? ⟨F,eL+j,none⟩=gH:=I;have aD:=A l;have K:=A q;have ww:=A (l.b.drew);clear q bm e0;have N8:F<wr.heap.size:=cT l.b iE;clear l;go_upto_region 10 with fail
   go_region_held3 (λX=>X ⟨w,0,none⟩=S.nm/\X ⟨w,1,none⟩=S.dk/\X ⟨w,2,none⟩=some (.slice ca S.bB cc)/\X ⟨w,3,none⟩=some (.slice be S.aJ aW)/\X ⟨w,4,none⟩=some (.slice (some ⟨rb,aK,none⟩) rs rc)/\X ⟨w,5,none⟩=S.an/\X ⟨F,eL+j,none⟩=gH) (first|with_reducible exact⟨Z,P,U,T,y,f,I⟩|with_reducible exact⟨gW,eM,ft,hJ,kR,mC,Ng⟩|with_reducible exact⟨u0,u1,u2,u3,u4,u5,u6⟩|go_keep) (first|(go_at_call 204;refine(L6.out _ ww).mono ?_;rintro e n ⟨rfl,bq⟩;have D:=(lk wr).trans bq;have nk:=aD.out.K D;let⟨u0,u1,u2,u3,u4,u5⟩:=gp nk.g;have u6:n ⟨F,eL+j,none⟩=gH:=(by rw[D.cell N8];exact I)));let⟨uO,uJ,l2,mm,mn⟩:=iz Eb;let⟨xf,w9,ks,hV,ij⟩:=iz O4;have es:(0:Int)<=(c:Int)+(m:Int):=z;have bN:(c:Int)+(m:Int)<=(gr:Int)+1:=z;have dx:(gr:Int)+1<=(d:Int):=z;have gc:(c:Int)<=(d:Int):=z;have tG:((c:Int)+(m:Int)).toNat=c+m:=z;have BQ:(c:Int)<=(c:Int)+(m:Int):=z;have aG:¬d=c:=z;have aH:¬d-c=0:=z;have aA:=A λX (Y:β w X) i hi=>(Y.cell lf).trans (ay.out i hi);have aj:((((k:Int)::cs.flatten).drop c).take m)=cs[j]:=by rw[<-ZM,tW 1,We,aB,<-o.out,List.take_left]
   have g8:Hid (∀X,β w X->∀(i:Nat) u,(gS cs[j])[i]? =some u->X.cell? (Addr.add ⟨pb,po+c,none⟩ i)=some u):=A λX Y i u hu=>U2 (aA.out X Y) c m i u (by rw[aj];exact hu);have b7:(gS cs[j]).length=m*1:=by rw[HJ,o,tX]
   have vj:=LH n n 3 1 (aY _);have G:=fu n (.cells #[] 3);have aC:=nk.K G;have az:=A (K.out.K D);clear u0 u1 u2 u3 u4 u5 u6 Z P U T y f gW eM ft hJ kR mC Ng I K L6 aj bq D;go_upto_region 11 with fail
   go_wp2_with (first|(at_builtin;refine lP _ rfl _ _ 22 rfl n 3 uO _ 1 8 pj uJ l2 mm mn rfl al (.slice (some ⟨n,0,none⟩) 0 0) 0 [] rfl vj ⟨pb,po+c,none⟩ m (d-c) (gS cs[j]) rfl b7 (g8.out _ aC.b) (HK _) (by unfold maxLen;omega) z G.size ?_;intro v5 V L DW OK;rw[gy,vf]at L;have BK:v5≠ .slice none 0 0:=(λe=>by have:=(OK.1 e).2;omega);obtain⟨f,r,aL,rfl,aJ,_⟩:=uT L BK;have cK:=anJ L o;have hR:=G.grown DW G.size (λg ar=>by simp[Value.ownBlock]at ar;subst ar;exact aY _);have gC:=hR.alloc hR.size (.cells #[.slice (some ⟨f,0,none⟩) m r] 22);have N:=az.out.K gC;let⟨bW,dn,dR,fy⟩:=N.row;have xT:=nk.K gC;have aF:=A xT;have ah:=A cK;have ad:=A N.b;have ai:=dn;have Xt:=A dR;have aE:=A fy;clear L DW OK BK dn dR fy cK hR N xT)|(at_builtin;refine lP _ rfl _ _ 23 rfl ap 22 xf _ 1 24 HU w9 ks hV ij rfl al _ (cs.take j).length bW rfl ai ⟨V,0,none⟩ 1 1 [.slice (some ⟨f,0,none⟩) m r] rfl rfl (r5 (cs:=#[.slice (some ⟨f,0,none⟩) m r]) (t:=22) (fr:=(0,0)) (pW V _)) (by simp[Value.oneCell']) (by rw[mw];unfold maxLen;omega) (by rw[mw];omega) ad.out.size ?_;intro hh br gA ga _))
   have af:=wC.next (m:=[cs[j]]) (zs:=[.slice (some ⟨f,0,none⟩) m r]) ai Xt aE ⟨⟨some ⟨f,0,none⟩,r,by rw[o.out],ah.out.1.K (fu V _)⟩,gL⟩ (λu hu a' na eT e=>by
    rw[oQ]at hu
    subst hu
    cases e
    have:=ah.out.2
    rw[o.out]at this
    exact this) ad gA ga
   have ax:=aF1 cs j au;rw[o.out]at ax;rw[<-r6 au]at af;have Jt:((1+off cs (j+1):Nat):Int)=(c:Int)+(m:Int):=z;refine⟨⟨j+1,z,?_,?_,af⟩,?_⟩;rw[Jt]
   .go_num
   simp[RowKit.intOf];omega
  .have JJ:j=cs.length:=z;subst JJ;rw[sL]at q;have K:=A q;clear q;go_wp2;go_ret2;obtain⟨va,cB,rfl,e'⟩:=K.out.parts;exact⟨⟨va,cB,rfl,e'⟩,l.b⟩
end
end Go.bE
namespace Go.bE
open Go Go.Proofs.Tryz Go.Proofs Go.RowKit Go.Lib Go.aM
open Go.di (c8 bD jy)
open Go.bk.N (l_)
def e9.mono{n m:Nat}{v:bs}(h:e9 n v)(c:n<=m):e9 m v:=by
 have ag:10^(2*n+1)<=10^(2*m+1):=k5 al z;cases h with
 |gY e af H=>exact .gY e af H
 |hX s h=>exact .hX s h
 |gR N S h g f=>exact .gR N S h z z
 |kD d af H=>exact .kD d af H
 |lX b h=>exact .lX b h
 |jl aG a h=>exact .jl aG a h
def e9.GY{n:Nat}{v:bs}(h:e9 n v)(a:v.kind=1):∃s,v=bE.hX s/\kC s:=by
 cases h with
 |hX s h=>exact⟨s,rfl,h⟩
 |_=>exact absurd a (by simp[bs.kind])
def e9.Em{n:Nat}{v:bs}(h:e9 n v)(a:v.kind=2):∃(N:Int) (S:Nat),v=bE.gR N S/\hC N S/\N.natAbs<=10^(2*n+1)/\2*S<=n+1:=by
 cases h with
 |gR N S h c b=>exact⟨N,S,rfl,h,c,b⟩
 |_=>exact absurd a (by simp[bs.kind])
def e9.acx{n:Nat}{v:bs}(h:e9 n v)(a:v.kind=3):∃d,v=bE.kD d/\0<=d/\d<=3652058:=by
 cases h with
 |kD d af H=>exact⟨d,rfl,af,H⟩
 |_=>exact absurd a (by simp[bs.kind])
def e9.acy{n:Nat}{v:bs}(h:e9 n v)(a:v.kind=5):∃aG,v=bE.jl aG/\aG.length<=3:=by
 cases h with
 |jl aG b h=>exact⟨aG,rfl,b⟩
 |_=>exact absurd a (by simp[bs.kind])
structure yT (l:List bs) (fS:List Nat) (m:Nat):Prop where
 len:fS.length=l.length
 DD:∀i (H:i<l.length) (I:i<fS.length),1<=fS[i]/\e9 fS[i] l[i]
 sum:fS.sum+1=m
 le:m<=5
variable{fS:List Nat}{m:Nat}
def yT.any{l:List bs}(h:yT l fS m):∀v∈l,∃n,e9 n v:=λv J=>by
 obtain⟨i,hi,rfl⟩:=EQ J
 exact⟨_,(h.DD i hi (by rw[h.len];exact hi)).2⟩
def akl:∀(fS:List Nat) (i:Nat) (h:i<fS),fS[i]<=fS.sum
 |a::fS,0,_=>by simp
 |a::fS,i+1,h=>by have:=akl fS i (by simpa using h);simp only[H2,List.sum_cons];omega
def yT.all{l:List bs}(h:yT l fS m):∀v∈l,e9 m v:=λv J=>by
 obtain⟨i,hi,rfl⟩:=EQ J
 have I:i<fS.length:=by rw[h.len];exact hi
 have:=akl fS i I
 have:=h.sum
 exact(h.DD i hi I).2.mono z
def yT.xn{l:List bs}{fS:List Nat}{m k:Nat}(h:yT l fS m)(b:wE [k] l):∃v a,l=[v]/\v.kind=(k:Int)/\e9 a v/\1<=a/\a+1=m/\m<=5:=by
 match l,b with
 |[v],b=>
  match fS,h with
  |[a],h=>have H:=h.DD 0 aq aq;have I:=b.2 0 aq aq;have c:=h.sum;have d:=h.le;simp at H I c;exact⟨v,a,rfl,I,H.2,H.1,c,d⟩
  |[],h=>exact absurd h.len aq
  |_::_::_,h=>exact absurd h.len aq
 |[],b=>exact absurd b.1 aq
 |_::_::_,b=>exact absurd b.1 aq
def yT.k0{l:List bs}{fS:List Nat}{m bN dx:Nat}(h:yT l fS m)(c:wE [bN,dx] l):∃d e a b,l=[d,e]/\d.kind=(bN:Int)/\e.kind=(dx:Int)/\e9 a d/\e9 b e/\1<=a/\1<=b/\a+b+1=m/\m<=5:=by
 match l,c with
 |[d,e],c=>
  match fS,h with
  |[a,b],h=>have H:=h.DD 0 aq aq;have I:=h.DD 1 aq aq;have g:=c.2 0 aq aq;have i:=c.2 1 aq aq;have f:=h.sum;have j:=h.le;simp at H I f g i;exact⟨d,e,a,b,rfl,g,i,H.2,I.2,H.1,I.1,f,j⟩
  |[],h=>exact absurd h.len aq
  |[_],h=>exact absurd h.len aq
  |_::_::_::_,h=>exact absurd h.len aq
 |[],c=>exact absurd c.1 aq
 |[_],c=>exact absurd c.1 aq
 |_::_::_::_,c=>exact absurd c.1 aq
def l9(S:c8)(r:bD):Prop:=∀(m:Nat) (w:Γ) (b:Φ) (ca:Θ) (cc:Nat) (_:l_ w b) (_:jy w ca S.bB) (c:Θ) (rc:Nat) (R:List bs) (_:cm aD (aR aD 1) w c R) (_:S.bB.length=R.length) (_:∀v∈R,e9 1 v) (a:Θ) (ac:Nat) (l:List bs) (fS:List Nat) (_:yT l fS m) (_:cm aD (aR aD 1) w a l),
 Calls prog 415 #[.string r.op,.string r.aO,.slice a l.length ac,b,.slice ca S.bB.length cc,.slice c R.length rc] w λe w'=>e_ w.heap.size m e w'/\Below w.heap.size w w'
end Go.bE
namespace Go.bE
open Go Go.Proofs.Tryz Go.Proofs Go.RowKit Go.di Go.bk
open Go.bk.N (l_)
structure Ig (S:c8) (M:Nat->Nat) (rs:List bD) (ca be:Θ) (cc aW rb aK rc:Nat) (bA:Φ) (fv:Θ) (rwc:Nat) (R:List bs) (w:Γ):Prop where
 oB:p1 S M rs ca be cc aW rb aK rc w
 ok:∀r∈rs,l9 S r
 base:l_ w bA
 row:cm aD (aR aD 1) w fv R
 len:S.bB.length=R.length
 DD:∀v∈R,e9 1 v
variable{M:Nat->Nat}{ca:Θ}{cc a rb rc rwc:Nat}{w w':Γ}
def Ig.K{S:c8}{rs:List bD}{c:Θ}{aK:Nat}{b:Φ}{d:Θ}{R:List bs}(h:Ig S M rs ca c cc a rb aK rc b d rwc R w)(G:β w w'):Ig S M rs ca c cc a rb aK rc b d rwc R w':=
 ⟨h.oB.K G,h.ok,h.base.K G,cm.K (aR.mono aD 1) h.row G,h.len,h.DD⟩
structure RF (w:Γ) (aF:Ω) (P4:Nat) (c':Ω) (wr:Γ):Prop where
 b:Below w.heap.size w wr
 g:jM wr w.heap.size 29 aF
 o:wr.heap[w.heap.size+1]? =some (.cells fo 44 (0,0))
 r:wr.heap[P4]? =some (.cells c' 101 (0,0))
def RF.K{wr:Γ}{b c':Ω}(h:RF w b a c' wr)(G:β wr w'):RF w b a c' w':=
 ⟨b3 h.b G,h.g.K G,(G.block _ (de h.o)).trans h.o,(G.block _ (de h.r)).trans h.r⟩
structure IK (W:Γ) (m fA:Nat) (k N S n:Int) (s:Ψ) (ca:Θ) (cl cc:Nat) (ra:Θ) (rl rc:Nat) (err:Int) (Ay:Γ):Prop where
 b:Below W.heap.size W Ay
 lx:W.heap.size<=fA
 x:Ay.heap[fA]? =some (.cells (bC k s N S n ca cl cc ra rl rc) 44 (0,0))
 dA:0<=err
 ak:err<=99
 v:err=0->∃v,aR (fj W.heap.size) 1 Ay (bC k s N S n ca cl cc ra rl rc) v/\e9 m v
variable{W:Γ}{m cl rl:Nat}{k N n err:Int}{s:Ψ}{ra:Θ}
def IK.Eh{a:Γ}{S:Int}(af:0<=err)(H:err<=99)(h:err=0->∃v,aR (fj W) 1 a (bC k s N S n ca cl cc ra rl rc) v/\e9 m v)(G:β W a):
  IK W m a k N S n s ca cl cc ra rl rc err (a.alloc (.cells (bC k s N S n ca cl cc ra rl rc) 44)):=
 ⟨G.alloc G.size _,G.size,c7 a _,af,H,λe=>by
  let⟨v,J,ar⟩:=h e
  exact⟨v,J.K ((bl _ _).alloc (aY _) _),ar⟩⟩
def IK.ayW{b:Γ}{S:Int}(af:0<=err)(H:err<=99)(h:err=0->∃v,aR (fj (W.alloc (.cells fo 44)).drew.heap.size) 1 b (bC k s N S n ca cl cc ra rl rc) v/\e9 m v)(G:Below (W.alloc (.cells fo 44)).drew.heap.size (W.alloc (.cells fo 44)).drew b): IK W m W k N S n s ca cl cc ra rl rc err (Ae b W k (.string s) N S n (.slice ca cl cc) (.slice ra rl rc)):=by
 have I:(W.alloc (.cells fo 44)).drew.heap.size=W.heap.size+1:=aq;have g:β W b:=((fu W _).drew).trans (G.mono z);have f:b.heap[W.heap.size]? =some (.cells fo 44 (0,0)):=(G.block _ z).trans (c7 W _);refine⟨iU g (aY _) _ _ _ _ _ _ _,aY _,iJ f _ _ _ _ _ _ _,af,H,λe=>?_⟩;have i:=e_.put (r:=W.heap.size) (B:=W.heap.size) (base:=(W.alloc (.cells fo 44)).drew.heap.size) (n:=m) (k:=k) (s:=s) (N:=N) (S:=S) (n':=n) (ca:=ca) (cl:=cl) (cc:=cc) (ra:=ra) (rl:=rl) (rc:=rc) (err:=err) ⟨_,_,_,_,_,_,_,_,_,_,_,_,rfl,af,H,h⟩ z z;let⟨dx,x,t,w,u,D,l,C,y,o,A,q,a,_,_,j⟩:=i;injection a with a
 injection a with a
 injection a with a
 injection a with d c
 injection c with c _
 injection c with _ c
 subst c;injection d with d
 let⟨v,J,ar⟩:=j e;rw[<-d]at J;exact⟨v,J,ar⟩
attribute [local irreducible] wpStill in
def azf{S:c8}{M:Nat->Nat}{rs:List bD}{ca G:Θ}{cc F rb aK rc:Nat}{bA:Φ}{fv:Θ}{rwc:Nat}{R:List bs}:∀(N:Nat) (p:List Int) (s:Nat) (aO:Θ) (V:Nat) (w:Γ),p.length<=N->Ig S M rs ca G cc F rb aK rc bA fv rwc R w->lT w aO p->Dm rs s p->p.length<=V->p.length<=5-> Calls prog 299 #[.agg (en S rs ca G cc F rb aK rc),bA,.slice aO p.length V,.slice fv R.length rwc] w λe w'=>e_ w.heap.size p.length e w'/\β w w':=by
 intro N;induction N with
 |zero=>intro p s aO V w dX h ag dm;have:=Je dm.gD;omega
 |succ N pt=>
  intro p s aO V w dX h ag dm j1 vT;obtain⟨k,ad,q,rfl,aE,g⟩:=dm.first;obtain⟨cs,hcut,rfl⟩:=ajc rs _ q g;have pE:=h.oB;obtain⟨pb,po,rfl,lf,oI⟩:=ag aq;have kk:=oI 0 aq;rw[AG,hY]at kk;obtain⟨uZ,Kz,cg,iR,kU⟩:=pE.r;cases cg;obtain⟨U,ac,ae⟩:=kU k ad;have fi:=ae.bi;have b_:=ae.c1;have cv:=ae.c2;have ek:=ae.c3;have ak:=A (h.ok _ (fp ad));have jg:(0:Int)<=(k:Int):=z;have kV:(k:Int)<rs.length:=z;have vV:=pE.rX;have aH:cs.flatten.length+1<=V:=by rw[l8]at j1;exact j1
  have aL:cs.flatten.length<=N:=by rw[l8]at dX;omega
  have b4:cs.flatten.length<=4:=by rw[l8]at vT;omega
  have ai:=A λW (ao:β w W)=>aJK (pE.K ao) (some ⟨pb,po,none⟩) V s k ad cs hcut (ag.K ao) aH z dm;have RT:=A pt;have an:=A h;have Io:=A hcut;have aJ:cs.length<=3:=by rw[hcut.len];exact pE.iZ _ (fp ad)
  have aI:=A dm;have nE:0<(cs.flatten.length:Int)+1:=z;have Jq:(cs.flatten.length:Int)<=4:=z;clear oI ae kU dm hcut ag pt h g pE dX j1 vT;rw[l8];generalize lE:cs.flatten.length=gr at*;have r9:=A lE;clear lE;have aQ:=ie.d_ w (en S rs ca G cc F rb aK rc);go_enter func299,ntmps299;go_upto_region 1 with fail
  have f:=aQ.b.alloc aQ.b.size (.cells fo 44);have eV:=c7 (w.alloc (.cells (en S rs ca G cc F rb aK rc) 29)) (.cells fo 44);have ZW:=aQ.K ((bl (w.alloc (.cells (en S rs ca G cc F rb aK rc) 29)).heap.size _).alloc (aY _) (.cells fo 44));have dO:(w.alloc (.cells (en S rs ca G cc F rb aK rc) 29)).heap.size=w.heap.size+1:=aq;rw[dO]at eV;clear aQ dO;generalize (w.alloc (.cells (en S rs ca G cc F rb aK rc) 29)).alloc (.cells fo 44)=C at*;have u:C ⟨w.heap.size,4,none⟩=some (.slice (some ⟨rb,aK,none⟩) rs.length rc):=aN 4 ZW.g;have I5:=aA f lf kk;have gg:=aA f iR fi;have cr:=aA f iR b_;have dy:=aA f iR cv;have ew:=aA f iR ek;have aF:pb<C.heap.size:=cT f lf;have aG:rb<C.heap.size:=cT f iR;have i6:=A f;have hn:=A eV;have C0:=A ZW;clear kk fi b_ cv ek f eV ZW
  go_region_held3 (λaZ=>aZ ⟨w.heap.size,4,none⟩=some (.slice (some ⟨rb,aK,none⟩) rs.length rc)/\aZ ⟨pb,po,none⟩=some (.int .i64 k)/\aZ ⟨rb,aK+k*4,none⟩=some (.int .i64 (rs[k].h:Int))/\aZ ⟨rb,aK+k*4+1,none⟩=some (.string rs[k].op)/\aZ ⟨rb,aK+k*4+2,none⟩=some (.string rs[k].aO)/\aZ ⟨rb,aK+k*4+3,none⟩=some (.slice U rs[k].args.length ac)) (first|with_reducible exact⟨u,I5,gg,cr,dy,ew⟩|exact⟨u,I5,gg,cr,dy,ew⟩|go_keep) (fail);have ZN:=fu C (.cells #[.int .i64 (rs[k].h:Int),.string rs[k].op,.string rs[k].aO,.slice U rs[k].args.length ac] 101);rw[aE]at ZN;have Jt:=ZN.drew;have kp:(C.alloc (.cells #[.int .i64 (s:Int),.string rs[k].op,.string rs[k].aO,.slice U rs[k].args.length ac] 101)).drew.heap[C.heap.size]? =some (.cells #[.int .i64 (s:Int),.string rs[k].op,.string rs[k].aO,.slice U rs[k].args.length ac] 101 (0,0)):=c7 C (.cells #[.int .i64 (s:Int),.string rs[k].op,.string rs[k].aO,.slice U rs[k].args.length ac] 101);have e0:=A (RF.mk (b3 i6.out Jt) (C0.out.K Jt).g ((Jt.block _ (de hn.out)).trans hn.out) kp);clear ZN Jt kp hn C0 i6 u I5 gg cr dy ew aF aG;generalize (C.alloc (.cells #[.int .i64 (s:Int),.string rs[k].op,.string rs[k].aO,.slice U rs[k].args.length ac] 101)).drew=ap at*;generalize C.heap.size=P4 at*;obtain⟨Z,m,K,o,u,d'⟩:=gp e0.out.g;have RA:=A (ai.out ap e0.out.b);clear ai;go_upto_region 3 with(go_at_call 414;(with_reducible refine RA.out.mono ?_);rintro e w3 ⟨⟨va,cB,rfl,e'⟩,bj⟩)
  have ma:=A (e0.out.K bj);have ig:=A e';clear e0 RA Z m K o u d' e' bj;go_upto_region 4 with fail
  go_wp2;go_loopw [13,14] (λv i wr=>∃j:Nat,j<=cs.length/\i=.int .i64 (j:Nat)/\β w3 wr/\∃l:List bs,l.length=j/\Hid (∀x (H:x<l.length) (I:x<cs.length),e9 cs[x].length l[x])/\k7 w3.heap.size 1 wr v l) (λ_ i _=>cs.length-(RowKit.intOf i).toNat);case atStart=>exact⟨0,dh _,rfl,bl _ _,[],rfl,A λx H=>absurd H aq,k7.nil _ _ _⟩
  case round=>
   obtain⟨j,ab,rfl,L,l,ts,Gs,b'⟩:=hrel;have D:=A (ma.out.K L);by_cases au:j<cs.length
   .obtain⟨pT,r3,rfl,JW,BL⟩:=ig.out z;obtain⟨dI,eu,h5,n9,vU⟩:=BL j au;have Gm:j<rs[k].args.length:=by rw[<-Io.out.len];exact au
    have g:=Io.out.S0 j Gm au;have qT:=Je g;have lH:=apV cs j au;rw[r9.out]at lH;have aw:Dm rs (rs[k].args[j]'Gm) cs[j]:=⟨g,λx aa=>aI.out.ok x (jw _ (List.mem_flatten.2 ⟨_,fp au,aa⟩))⟩;have Lv:=A λW (ao:β wr W)=>RT.out cs[j] _ dI eu W z (an.out.K (b3 D.out.b ao)) (n9.K (b3 L ao)).kP aw vU z;have aj:Hid (∀v,e9 cs[j].length v->∀x (H:x<(l++[v]).length) (I:x<cs.length),e9 cs[x].length (l++[v])[x]):=A λv J x H I=>by
     rw[ir,AH]at H;by_cases aa:x<l.length
     .rw[xI aa];exact Gs.out x aa I
     .obtain rfl:x=j:=z;rw[xJ z];simpa using J
    have aM:cs[j].length<=4:=z;have hG:=aA L JW h5;have al:Hid (∀v,e9 cs[j].length v->Hid (∀x (H:x<(l++[v]).length) (I:x<cs.length),e9 cs[x].length (l++[v])[x])):=aj;clear g aw n9 h5 BL lH aj Gs Gm;generalize cs[j]=ar at*;have r:w.heap.size<wr.heap.size:=de D.out.g;have aC:pT<wr.heap.size:=cT L JW;obtain⟨Z,m,K,o,u,d'⟩:=gp D.out.g;have Y:=A b';have ww:=A L;have gQ:(0:Int)<=(j:Int):=z;have gb:(j:Int)<cs.length:=z;clear b' JW L;go_upto_region 7 with fail
    go_region_held3 (λX=>X ⟨w.heap.size,0,none⟩=some (.string S.nm)/\X ⟨w.heap.size,1,none⟩=some (.int .i64 S.dk)/\X ⟨w.heap.size,2,none⟩=some (.slice ca S.bB.length cc)/\X ⟨w.heap.size,3,none⟩=some (.slice G S.aJ.length F)/\X ⟨w.heap.size,4,none⟩=some (.slice (some ⟨rb,aK,none⟩) rs.length rc)/\X ⟨w.heap.size,5,none⟩=some (.int .i64 S.an)/\X ⟨pT,r3+j,none⟩=some (.slice dI ar.length eu)) (first|with_reducible exact⟨Z,m,K,o,u,d',hG⟩|with_reducible exact⟨u0,u1,u2,u3,u4,u5,u6⟩|with_reducible exact⟨(fg z).trans u0,(fg z).trans u1,(fg z).trans u2,(fg z).trans u3,(fg z).trans u4,(fg z).trans u5,(fg z).trans u6⟩|go_keep) (first
     |(go_at_call 299;(with_reducible refine(Lv.out _ ((fu wr (.cells fo 44)).drew)).mono ?_);rintro e O ⟨⟨ii,bU,kl,mf,kE,mD,mh,mE,mF,mj,mG,err,rfl,Q,P,l3⟩,dj⟩;have a:β wr O:=((fu wr (.cells fo 44)).drew).trans (dj.mono aq);have u0:=aA a r Z;have u1:=aA a r m;have u2:=aA a r K;have u3:=aA a r o;have u4:=aA a r u;have u5:=aA a r d';have u6:=aA a aC hG;have c:=A (IK.ayW Q P l3 dj);have et:=(dj.block wr.heap.size aq).trans (c7 wr (.cells fo 44));obtain⟨hc,bT,eW,he,lN,n5,rT⟩:=eU et;obtain⟨z0,cC,dC,z3,z4,z5,eJ⟩:=hp et)
     |(go_at_call 299;(with_reducible refine(Lv.out _ (lk wr)).mono ?_);rintro e O ⟨⟨ii,bU,kl,mf,kE,mD,mh,mE,mF,mj,mG,err,rfl,Q,P,l3⟩,dj⟩;have a:β wr O:=(lk wr).trans dj;have u0:=aA a r Z;have u1:=aA a r m;have u2:=aA a r K;have u3:=aA a r o;have u4:=aA a r u;have u5:=aA a r d';have u6:=aA a aC hG;have c:=A (IK.Eh (W:=wr) Q P l3 a)))
    all_goals first
     |(with_reducible change Exit.then _ _ Exit.normal _ (Ae O wr.heap.size (.int .i64 ii) (.string bU) (.int .i64 kl) (.int .i64 mf) (.int .i64 kE) (.slice mD mh mE) (.slice mF mj mG));generalize (Ae O wr.heap.size (.int .i64 ii) (.string bU) (.int .i64 kl) (.int .i64 mf) (.int .i64 kE) (.slice mD mh mE) (.slice mF mj mG))=Ay at c|-;generalize wr.heap.size=E at c|-)
     |(generalize O.alloc (.cells (bC ii bU kl mf kE mD mh mE mF mj mG) 44)=Ay at c|-;generalize O.heap.size=E at c|-)
    all_goals
     clear u0 u1 u2 u3 u4 u5 u6 Z m K o u d' hG;have Q:=c.out.dA;have P:=c.out.ak;by_cases qP:err=0
     .subst qP;obtain⟨y,aB,az⟩:=c.out.v rfl;have Me:=A aB;have Xh:=A az;have T:=A c.out.x;have B:=A c.out.b;clear aB az c;revert T B Me;generalize Ay=QJ;intro Me T B;obtain⟨hc,bT,eW,he,lN,n5,rT⟩:=eU T.out;have WT:=A (Y.out.K B.out);obtain⟨fC,hz,tC⟩:=Y.out.gX;subst tC;have OA:l.length<=100:=z;have af:w3.heap.size<=QJ.heap.size:=c6 ww.out.size B.out.size
      go_wp2_with (at_builtin;refine KR rfl _ _ rfl (base:=w3.heap.size) (d:=1) (l:=l) (y:=y) (v:=.slice fC l.length hz) rfl WT.out rfl (Y.out.pf (aY _) ww.out.size Me.out) OA af ?_;intro v5 bc m _ o;have sP:=A m;have f:=A ((b3 ww.out B.out).trans o);clear m o);have C4:=al.out _ Xh.out;have D2:(l++[y]).length=j+1:=by rw[ir,AH,ts]
      go_roundw;case rel=>first|exact⟨j+1,z,bz,f.out,_,D2,C4,sP.out⟩|((repeat apply Exists.intro);refine⟨?_,rfl⟩;exact⟨j+1,z,bz,f.out,_,D2,C4,sP.out⟩)
      case measure=>simp[RowKit.intOf];omega
     .have aP:(err !=0)=true:=by simpa using qP
      have qx:=A (aj0 err Ay);go_upto_region 10 with(go_at_call 207;(with_reducible refine qx.out.mono ?_);rintro e aD ⟨rfl,m7⟩;have bR:=(m7.block _ (de c.out.x)).trans c.out.x;obtain⟨hf,dn,dR,fy,gG,hg,hj⟩:=eU bR;obtain⟨z0,cC,dC,z3,z4,z5,eJ⟩:=hp bR)
      generalize ax:(((((((aD.setCell ⟨E,0,none⟩ (.int .i64 0)).setCell ⟨E,1,none⟩ (.string bX)).setCell ⟨E,2,none⟩ (.int .i64 0)).setCell ⟨E,3,none⟩ (.int .i64 0)).setCell ⟨E,4,none⟩ (.int .i64 err)).setCell ⟨E,5,none⟩ (.slice none 0 0)).setCell ⟨E,6,none⟩ (.slice none 0 0))=QJ;have ay:Ae aD E (.int .i64 0) (.string bX) (.int .i64 0) (.int .i64 0) (.int .i64 err) (.slice none 0 0) (.slice none 0 0)=QJ:=ax;have T:=A (iJ bR (.int .i64 0) (.string bX) (.int .i64 0) (.int .i64 0) (.int .i64 err) (.slice none 0 0) (.slice none 0 0));have B:=A (iU (b3 c.out.b m7) c.out.lx (.int .i64 0) (.string bX) (.int .i64 0) (.int .i64 0) (.int .i64 err) (.slice none 0 0) (.slice none 0 0));rw[ay]at T B;have Me:=A (aR.jb (fj wr.heap.size) 1 QJ 0 bX 0 0 err none 0 none 0);have Xh:=A (e9.gY (n:=ar.length) err Q P);clear ax ay bR m7 qx c hf dn dR fy gG hg hj z0 cC dC z3 z4 z5 eJ;obtain⟨hc,bT,eW,he,lN,n5,rT⟩:=eU T.out;have WT:=A (Y.out.K B.out);obtain⟨fC,hz,tC⟩:=Y.out.gX;subst tC;have OA:l.length<=100:=z;have af:w3.heap.size<=QJ.heap.size:=c6 ww.out.size B.out.size
      go_wp2_with (at_builtin;refine KR rfl _ _ rfl (base:=w3.heap.size) (d:=1) (l:=l) (y:=gY err) (v:=.slice fC l.length hz) rfl WT.out rfl (Y.out.pf (aY _) ww.out.size Me.out) OA af ?_;intro v5 bc m _ o;have sP:=A m;have f:=A ((b3 ww.out B.out).trans o);clear m o);have C4:=al.out _ Xh.out;have D2:(l++[gY err]).length=j+1:=by rw[ir,AH,ts]
      go_roundw;case rel=>first|exact⟨j+1,z,bz,f.out,_,D2,C4,sP.out⟩|((repeat apply Exists.intro);refine⟨?_,rfl⟩;exact⟨j+1,z,bz,f.out,_,D2,C4,sP.out⟩)
      case measure=>simp[RowKit.intOf];omega
   .have JJ:j=cs.length:=z;have nA:l.length=cs.length:=z;obtain⟨fC,hz,tC,av⟩:=b'.P7 z;subst tC;have jZ:yT l (cs.map List.length) (gr+1):=⟨by rw[Wh,nA],λi H I=>by
     have ah:i<cs.length:=z
     rw[List.getElem_map]
     exact⟨Je (Io.out.S0 i (by rw[<-Io.out.len];exact ah) ah),Gs.out i H ah⟩,by rw[<-List.length_flatten,r9.out],z⟩
    have g:=an.out.K D.out.b;have p0:=A (ak.out (gr+1) wr bA ca cc g.base g.oB.c fv rwc R g.row g.len g.DD fC hz l _ jZ (cm.low (λ_ _=>gL) (λ_ _ _ h=>aR.low (λ_ _=>gL) h) av));obtain⟨-,cr,dy⟩:=x_ D.out.r;have K:wr ⟨w.heap.size,2,none⟩=some (.slice ca S.bB.length cc):=aN 2 D.out.g;have kr:w.heap.size+1<wr.heap.size:=de D.out.o;clear g jZ av Gs b' ig RT ak L nA ts
    go_wp2_with (go_at_call 415;(with_reducible refine p0.out.mono ?_);rintro e Ax ⟨⟨ii,bU,kl,mf,kE,mD,mh,mE,mF,mj,mG,err,rfl,Q,P,l3⟩,oE⟩;have dv:=A (D.out.K oE);have hF:=dv.out.o;obtain⟨hf,dn,dR,fy,gG,hg,hj⟩:=eU hF;obtain⟨z0,cC,dC,z3,z4,z5,eJ⟩:=hp hF);refine gd (j5 (fn:=f299) rfl _ _ (w.heap.size+1) 44 _ (0,0) _ _ rfl rfl (iJ hF _ _ _ _ _ _ _) k2 rfl jk) rfl ?_;exact⟨e_.put (base:=wr.heap.size) ⟨_,_,_,_,_,_,_,_,_,_,_,_,rfl,Q,P,l3⟩ kr D.out.b.size,iU dv.out.b z _ _ _ _ _ _ _⟩
end Go.bE
namespace Go.bE
open Go Go.Proofs.Tryz Go.Proofs Go.RowKit Go.di Go.bk
structure E5 (w:Γ) (aF:Ω) (wr:Γ):Prop where
 b:Below w.heap.size w wr
 g:jM wr w.heap.size 29 aF
 o:wr.heap[w.heap.size+1]? =some (.cells fo 44 (0,0))
def E5.K{w wr w':Γ}{a:Ω}(h:E5 w a wr)(G:β wr w'):E5 w a w':=
 ⟨b3 h.b G,h.g.K G,(G.block _ (de h.o)).trans h.o⟩
def E5.start(w:Γ)(a:Ω):E5 w a ((w.alloc (.cells a 29)).alloc (.cells fo 44)):=by have b:=ie.d_ w a;have d:(w.alloc (.cells a 29)).heap.size=w.heap.size+1:=aq;have c:=c7 (w.alloc (.cells a 29)) (.cells fo 44);rw[d]at c;exact⟨b.b.alloc b.b.size _,(b.K ((bl (w.alloc (.cells a 29)).heap.size _).alloc (aY _) _)).g,c⟩
def aze{S:c8}{M:Nat->Nat}{rs:List bD}{ca g:Θ}{cc f rb aK rc:Nat}{m:Φ}{C:Θ}{rwc:Nat}{R:List bs} (p:List Int)(s:Nat)(aO:Θ)(c:Nat)(w:Γ)(h:Ig S M rs ca g cc f rb aK rc m C rwc R w)(ag:lT w aO p)(i:Dm rs s p)(L:p.length<=c)(U:p.length<=5): χ 206 #[.agg (en S rs ca g cc f rb aK rc),m,.slice aO p c,.slice C R rwc] w (e_ w p):=by
 have J:=A λW (a:β w W)=>asy (h.oB.K a) aO c s p (ag.K a) z i;have I:=A λW (a:β w W)=>axO W aO c p (ag.K a) z (λx F=>(i.ok x F).1);have K:=A λW (a:β w W)=>azf p p s aO c W (aY _) (h.K a) (ag.K a) i L U;have b:=A (E5.start w (en S rs ca g cc f rb aK rc));clear h ag i;go_enter func206,ntmps206;go_upto_region 1 with fail
 generalize (w.alloc (.cells (en S rs ca g cc f rb aK rc) 29)).alloc (.cells fo 44)=G at b|-;let⟨t,l,o,n,y,u⟩:=gp b.out.g;have D:=A (J.out G b.out.b);go_upto_region 2 with(go_at_call 297;(with_reducible refine D.out.mono ?_);rintro e H ⟨rfl,r⟩)
 have j:=A (b.out.K r);clear b D r t l o n y u;have E:=A (I.out H j.out.b);go_upto_region 6 with(go_at_call 298;(with_reducible refine E.out.mono ?_);rintro e w3 ⟨rfl,q⟩)
 have d:=A (j.out.K q);clear j E q;let⟨t,l,o,n,y,u⟩:=gp d.out.g;have V:=A (K.out w3 d.out.b);have N:w.heap.size+1<w3.heap.size:=de d.out.o;go_wp2_with (go_at_call 299;(with_reducible refine V.out.mono ?_);rintro e X ⟨⟨ii,Y,kl,mf,kE,mD,mh,mE,mF,mj,mG,err,rfl,T,P,O⟩,Q⟩;have B:=A (d.out.K Q);have k:=B.out.o;let⟨hf,dn,dR,fy,gG,hg,hj⟩:=eU k;let⟨z0,Z,dC,z3,z4,z5,eJ⟩:=hp k);refine gd (j5 (fn:=f206) rfl _ _ (w.heap.size+1) 44 _ (0,0) _ _ rfl rfl (iJ k _ _ _ _ _ _ _) k2 rfl jk) rfl ?_;exact⟨e_.put (base:=w3.heap.size) ⟨_,_,_,_,_,_,_,_,_,_,_,_,rfl,T,P,O⟩ N d.out.b.size,iU B.out.b z _ _ _ _ _ _ _⟩
end Go.bE
namespace Go.bE
open Go Go.Proofs.Tryz Go.Proofs Go.RowKit Go.di Go.bk
open Go.bk.N (l_)
variable{M:Nat->Nat}{ca:Θ}{cc rb rc:Nat}
def aDQ{S:c8}{rs:List bD}{f:Θ}{a aK:Nat}{w:Γ}(h:p1 S M rs ca f cc a rb aK rc w): χ 130 #[.agg (en S rs ca f cc a rb aK rc)] w λe w'=>e=.returned (.int .i64 ((S.aJ[S.an]'h.ok.an).2:Int)):=by
 obtain⟨b,o,rfl,G,c⟩:=h.y;have g:=h.ok.an;have c1:=((fu w (.cells (en S rs ca (some ⟨b,o,none⟩) cc a rb aK rc) 29)).cell G).trans (c S.an g).2.1;generalize (S.aJ[S.an]'g).2=kd at*;have d:=c7 w (.cells (en S rs ca (some ⟨b,o,none⟩) cc a rb aK rc) 29);obtain⟨-,-,-,i,-,j⟩:=gp d;have k:¬(S.an:Int)<0:=z;have m:¬(S.aJ.length:Int)<=(S.an:Int):=z;have l:(S.an:Int)<S.aJ.length:=z;have n:(S.aJ.length:Int)<=12:=by have:=h.ok.aJ;omega
 clear h c G d;go_enter func130,ntmps130;go_wp2;go_ret;exact Po
def avZ(e:Ending):Prop:=∃k s N S n ca cl cc ra rl rc,e=.returned (.agg (bC k s N S n ca cl cc ra rl rc))/\(k=1∨k=2∨k=3->cl=0/\rl=0/\rt (.mk k s N S n [] []))
def e9.gr{n:Nat}{d:Nat}{B:Nat->Prop}{w:Γ}{k N S n':Int}{s:Ψ}{ca ra:Θ}{cl cc rl rc:Nat}{v:bs}(J:e9 n v)(g:n<=5)(h:aR B d w (bC k s N S n' ca cl cc ra rl rc) v)(c:k=1∨k=2∨k=3):cl=0/\rl=0/\rt (.mk k s N S n' [] []):=by
 cases J with
 |gY e af H=>let⟨_,_,_,_,e,_⟩:=h.gX;cases e;omega
 |hX s a=>let⟨_,_,_,_,e,_⟩:=h.gX;cases e;exact⟨rfl,rfl,.hX _ a⟩
 |gR N S a _ I=>let⟨_,_,_,_,e,_⟩:=h.gX;cases e;exact⟨rfl,rfl,.gR _ _ a z⟩
 |kD d af H=>let⟨_,_,_,_,e,_⟩:=h.gX;cases e;exact⟨rfl,rfl,.kD _ af H⟩
 |lX b a=>let⟨_,_,_,_,e,_⟩:=h.gX;cases e;omega
 |jl aG f a=>let⟨_,_,_,_,e,_⟩:=h.gX;cases e;omega
def aIf{S:c8}{rs:List bD}{g:Θ}{c aK:Nat}{D:Φ}{J:Θ}{rwc:Nat}{R:List bs} (p:List Int)(s:Nat)(aO:Θ)(x:Nat)(w:Γ)(h:Ig S M rs ca g cc c rb aK rc D J rwc R w)(ag:lT w aO p)(F:Dm rs s p)(j1:p.length<=x)(N:p.length<=5): χ 129 #[.agg (en S rs ca g cc c rb aK rc),D,.slice aO p x,.slice J R rwc] w λe w'=>avZ e:=by
 have Y:=A λW (C:β w W)=>aze p s aO x W (h.K C) (ag.K C) F j1 N;have U:=A λn W=>aj0 n W;have b:=A (E5.start w (en S rs ca g cc c rb aK rc));clear h ag F;go_enter func129,ntmps129;go_upto_region 1 with fail
 generalize (w.alloc (.cells (en S rs ca g cc c rb aK rc) 29)).alloc (.cells fo 44)=Q at b|-;let⟨ct,P,V,T,dr,d'⟩:=gp b.out.g;have K:=A (Y.out Q b.out.b);go_upto_region 2 with(go_at_call 206;(with_reducible refine K.out.mono ?_);rintro e d ⟨⟨i,f,kl,r,j,k,t,l,m,u,o,err,rfl,oF,lD,L⟩,E⟩)
 have H:=b.out.K E;have I:=c7 d (.cells (bC i f kl r j k t l m u o) 44 (0,0));have y:=A (H.K ((bl _ _).alloc (aY _) (.cells (bC i f kl r j k t l m u o) 44 (0,0))));have n6:d.heap.size<(d.alloc (.cells (bC i f kl r j k t l m u o) 44 (0,0))).heap.size:=aq;clear b K E ct P V T dr d' H;generalize (d.alloc (.cells (bC i f kl r j k t l m u o) 44 (0,0)))=w3 at*;by_cases af:err=0
 .subst af;let⟨v,O,yw⟩:=L rfl;have a:=y.out.o;let⟨hf,dn,dR,fy,gG,hg,hj⟩:=eU a;let⟨z0,cC,dC,z3,z4,z5,eJ⟩:=hp a;let⟨v0,el,eq,v3,v4,v5,hh⟩:=eU I;have kr:w.heap.size+1<w3.heap.size:=de a;go_wp2;refine gd (BV (fn:=f129) rfl _ _ (w.heap.size+1) 44 _ (0,0) _ rfl (iJ a _ _ _ _ _ _ _) k2 rfl jk) rfl ?_;exact⟨⟨_,_,_,_,_,_,_,_,_,_,_,rfl,λB=>yw.gr N O B⟩,iU y.out.b z _ _ _ _ _ _ _⟩
 .have q:(err==0)=false:=by rw[mx];exact af
  have tZ:=A (U.out err w3);clear L I;go_wp2_with (go_at_call 207;(with_reducible refine tZ.out.mono ?_);rintro e X ⟨rfl,Z⟩;have G:=A (y.out.K Z);have a:=G.out.o;let⟨hf,dn,dR,fy,gG,hg,hj⟩:=eU a;let⟨z0,cC,dC,z3,z4,z5,eJ⟩:=hp a;have kr:w.heap.size+1<X.heap.size:=de a);refine gd (BV (fn:=f129) rfl _ _ (w.heap.size+1) 44 _ (0,0) _ rfl (iJ a _ _ _ _ _ _ _) k2 rfl jk) rfl ?_;exact⟨⟨_,_,_,_,_,_,_,_,_,_,_,rfl,λB=>z⟩,iU G.out.b z _ _ _ _ _ _ _⟩
end Go.bE
namespace Go.bE
open Go Go.Proofs.Tryz Go.Proofs Go.RowKit Go.di Go.bk
open Go.bk.N (l_)
open Go.aM (er fk qm YI hC)
def aI4(m:Nat)(c:m<5)(W:Γ):∃t:Ψ,(W.alloc (.cells #[.string ⟨#[92,46,42]⟩,.string ⟨#[92,97,42,92,46,42]⟩,.string ⟨#[92,100,43]⟩,.string ⟨#[92,117,42]⟩,.string ⟨#[92,46,123,49,44,57,125]⟩] 9)) ⟨W,m,none⟩=t:=by
 have h:=c7 W (.cells #[.string ⟨#[92,46,42]⟩,.string ⟨#[92,97,42,92,46,42]⟩,.string ⟨#[92,100,43]⟩,.string ⟨#[92,117,42]⟩,.string ⟨#[92,46,123,49,44,57,125]⟩] 9);rcases(z:m=0∨m=1∨m=2∨m=3∨m=4)with rfl|rfl|rfl|rfl|rfl
 all_goals exact⟨_,by simp only[World.cell?,h];rfl⟩
def aEi(m:Nat)(c:m<2)(W:Γ):∃t:Ψ,(W.alloc (.cells #[.string ⟨#[97,116,108,101,97,115,116]⟩,.string ⟨#[97,116,109,111,115,116]⟩] 9)) ⟨W,m,none⟩=t:=by
 have h:=c7 W (.cells #[.string ⟨#[97,116,108,101,97,115,116]⟩,.string ⟨#[97,116,109,111,115,116]⟩] 9);rcases(z:m=0∨m=1)with rfl|rfl
 all_goals exact⟨_,by simp only[World.cell?,h];rfl⟩
structure ox (w:Γ) (b:Nat) (a:Θ) (len:Nat) (aF dl aZ:Ω) (wr:Γ):Prop where
 fS:nR w wr b a len
 g:wr.heap[w.heap.size]? =some (.cells aF 29 (0,0))
 i:wr.heap[w.heap.size+1]? =some (.cells dl 47 (0,0))
 v:wr.heap[w.heap.size+2]? =some (.cells aZ 44 (0,0))
 o:wr.heap[w.heap.size+3]? =some (.cells uP 47 (0,0))
section
variable {w wr w':Γ} {b:Nat} {a:Θ} {len:Nat} {aF dl aZ:Ω}
def ox.start(h:er w b a len)(aF dl aZ:Ω):ox w b a len aF dl aZ ((((w.alloc (.cells aF 29)).alloc (.cells dl 47)).alloc (.cells aZ 44)).alloc (.cells uP 47)):=by have N:=(((nR.mk h h (fk.refl b w)).alloc (.cells aF 29)).alloc (.cells dl 47)).alloc (.cells aZ 44);have af:=c7 w (.cells aF 29);have H:=c7 (w.alloc (.cells aF 29)) (.cells dl 47);have I:=c7 ((w.alloc (.cells aF 29)).alloc (.cells dl 47)) (.cells aZ 44);have d:=c7 (((w.alloc (.cells aF 29)).alloc (.cells dl 47)).alloc (.cells aZ 44)) (.cells uP 47);have iZ:∀(w:Γ) (o c:Obj) (k:Nat),w.heap[k]? =some c->(w.alloc o).heap[k]? =some c:=λw o c k h=>((fu w o).block k (bM h)).trans h;have e:∀(w:Γ) (o:Obj),(w.alloc o).heap.size=w.heap.size+1:=λw o=>aq;simp only[e]at H I d;exact⟨N.alloc _,iZ _ _ _ _ (iZ _ _ _ _ (iZ _ _ _ _ af)),iZ _ _ _ _ (iZ _ _ _ _ H),iZ _ _ _ _ I,d⟩
def ox.next(h:ox w b a len aF dl aZ wr)(d:er w' b a len)(c:fk b wr w'):ox w b a len aF dl aZ w':=by have G:=h.fS.o.lt;have k:∀{j:Nat} {o:Obj},wr.heap[j]? =some o->w.heap.size<=j->w'.heap[j]? =some o:=λe f=>(c.block _ (bM e) z).trans e;exact⟨h.fS.next d c,k h.g z,k h.i z,k h.v z,k h.o z⟩
def ox.K(h:ox w b a len aF dl aZ wr)(G:β wr w'):ox w b a len aF dl aZ w':=by have k:∀{j:Nat} {o:Obj},wr.heap[j]? =some o->w'.heap[j]? =some o:=λe=>(G.block _ (bM e)).trans e;exact⟨h.fS.K G,k h.g,k h.i,k h.v,k h.o⟩
def ox.alloc(h:ox w b a len aF dl aZ wr)(o:Obj):ox w b a len aF dl aZ (wr.alloc o):=h.K ((bl _ _).alloc (aY _) o)
def ox.set(h:ox w b a len aF dl aZ wr)(i:Nat)(u:Φ):ox w b a len aF (dl.setIfInBounds i u) aZ (wr.setCell ⟨w.heap.size+1,i,none⟩ u):=by have k:∀{j:Nat} {o:Obj},wr.heap[j]? =some o->j≠w.heap.size+1->(wr.setCell ⟨w.heap.size+1,i,none⟩ u).heap[j]? =some o:=λe c=>(ht _ _ _ _ c).trans e;exact⟨h.fS.G2 ((bl _ wr).setCell (p:=⟨w.heap.size+1,i,none⟩) (rj _) u),k h.g z,h' h.i u,k h.v z,k h.o z⟩
def ox.done(h:ox w b a len aF dl aZ wr)(l:List Φ)(c:l.length=16):(wr.setCells (w.heap.size+3) 0 l).heap[w.heap.size+3]? =some (.cells l.toArray 47 (0,0))/\nR w (wr.setCells (w.heap.size+3) 0 l) b a len:=
 ⟨Ks h.o l c,h.fS.G2 (Ag z l 0 wr (bl _ wr))⟩
end
def avO(f:Ψ->Ψ->Ω)(e:Ending):Prop:=∃eX eH,e=.returned (.agg (f eX eH))
def ap_{S:c8}{M:Nat->Nat}{rs:List bD}{ca X:Θ}{cc U rb aK rc:Nat}{w:Γ}(h:p1 S M rs ca X cc U rb aK rc w)(b:Nat)(a:Θ)(len:Nat)(av:len<=maxLen)(ax:er w b a len)(lA:∀x,ca=some x->x.block≠b) (id cX fT cZ kd:Int)(y:Θ)(O u:Nat)(o:Int)(bY:Ψ)(K L B:Int)(C:Θ)(E:Nat)(G:Θ)(F:Nat)(eX eH:Ψ)(g:Θ)(P r:Nat) (k:Int)(s:Ψ)(N D n:Int)(va:Θ)(xA Y:Nat)(Z:Θ)(vb wc:Nat)(ag:k=1∨k=2∨k=3): Calls prog 133 #[.pointer (some ⟨b,0,none⟩),.agg (en S rs ca X cc U rb aK rc),.agg (gj id cX fT cZ kd y O u o bY K L B C E G F eX eH g P r),.agg (bC k s N D n va xA Y Z vb wc)] w λe w'=> avO (λeX eH=>(gj id cX fT cZ kd y O u o bY K L B C E G F eX eH g P r)) e/\nR w w' b a len:=by
 have bp:=A λ(n:Int) (H:0<n) (I:n<=2000000000000001) w ah=>qm w b a len n H I av ah;have bP:=A λw ah=>YI w b a len av ah;have ia:=A λ(N:Int) (S:Nat) (W:Γ) (h:hC N S) (bt:S<=3)=>ad1 (.gR N S h bt) W _ (aR.jb aD 1 W 2 bX N S 0 none 0 none 0);have f:=A (ox.start ax (en S rs ca X cc U rb aK rc) (gj id cX fT cZ kd y O u o bY K L B C E G F eX eH g P r) (bC k s N D n va xA Y Z vb wc));obtain⟨l,Q,arr,bd,rfl,DP,aa⟩:=h.c;have gM:Hid (∀wr,nR w wr b a len->∀i (hi:i<S.bB.length),wr ⟨l,Q+i*2,none⟩=some (.string S.bB[i].1)/\wr ⟨l,Q+i*2+1,none⟩=some (.int .i64 (S.bB[i].2:Nat))):=A λwr ax i hi=>by have e:=(ax.s.block l (bM DP) (lA _ rfl)).trans DP;obtain⟨b_,cv⟩:=aa i hi;exact⟨by simp[World.cell?,e,b_],by simp[World.cell?,e,cv]⟩
 have aj:Hid ((S.bB.length:Int)<=8):=A (by have:=h.ok.bB;omega);clear h ax aa DP lA;go_enter func133,ntmps133;go_upto_region 1 with fail
 generalize ((((w.alloc (.cells (en S rs (some ⟨l,Q,none⟩) X cc U rb aK rc) 29)).alloc (.cells (gj id cX fT cZ kd y O u o bY K L B C E G F eX eH g P r) 47)).alloc (.cells (bC k s N D n va xA Y Z vb wc) 44)).alloc (.cells uP 47))=am at f|-;go_upto_if 12 with(go_at_call 19;(with_reducible refine(bp.out 4 al al _ f.out.fS.n).mono ?_);rintro e V ⟨⟨cr,hW,ao,rfl⟩,bT,bH⟩;have d:=A (f.out.next bT bH))
 clear bT bH f;generalize (cr==0)=q;cases q;rotate_left
 .have c:=d.out;obtain⟨dZ,gQ,gb,jg,kV,nE,nF,nG,q0,q1,qY,qZ,rN,pL,rO,qi⟩:=s8 c.i;have hf:=aN 0 c.o;have z0:=Go.aM.cM (i:=0) c.o;have dn:=aN 1 c.o;have cC:=Go.aM.cM (i:=1) c.o;have dR:=aN 2 c.o;have dC:=Go.aM.cM (i:=2) c.o;have fy:=aN 3 c.o;have z3:=Go.aM.cM (i:=3) c.o;have gG:=aN 4 c.o;have z4:=Go.aM.cM (i:=4) c.o;have hg:=aN 5 c.o;have z5:=Go.aM.cM (i:=5) c.o;have hj:=aN 6 c.o;have eJ:=Go.aM.cM (i:=6) c.o;have PE:=aN 7 c.o;have CF:=Go.aM.cM (i:=7) c.o;have PF:=aN 8 c.o;have r4:=Go.aM.cM (i:=8) c.o;have PG:=aN 9 c.o;have z9:=Go.aM.cM (i:=9) c.o;have Py:=aN 10 c.o;have QS:=Go.aM.cM (i:=10) c.o;have Pz:=aN 11 c.o;have QT:=Go.aM.cM (i:=11) c.o;have PA:=aN 12 c.o;have QU:=Go.aM.cM (i:=12) c.o;have PB:=aN 13 c.o;have QV:=Go.aM.cM (i:=13) c.o;have PC:=aN 14 c.o;have QW:=Go.aM.cM (i:=14) c.o;have PD:=aN 15 c.o;have QX:=Go.aM.cM (i:=15) c.o;have kr:w.heap.size+3<V.heap.size:=bM c.o;have oH:w.heap.size+1<V.heap.size:=bM c.i;have cN:=A (c.done [.int .i64 id,.int .i64 cX,.int .i64 fT,.int .i64 cZ,.int .i64 kd,.slice y O u,.int .i64 o,.string bY,.int .i64 K,.int .i64 L,.int .i64 B,.slice C 0 E,.slice G 0 F,.string eX,.string eH,.slice g P r] rfl);go_wp2;refine gd (BV (fn:=f133) rfl _ _ (w.heap.size+3) 47 _ (0,0) _ rfl cN.out.1 CI rfl KH) rfl ?_;exact⟨⟨eX,eH,rfl⟩,cN.out.2⟩
 .have v0:V ⟨w.heap.size+2,0,none⟩=some (.int .i64 k):=aN 0 d.out.v;have kT:Hid (b<w.heap.size):=A d.out.fS.o.lt;go_upto_block 0 with fail
  go_cut []from 64 (λc0=>∃eX eH,ox w b a len (en S rs (some ⟨l,Q,none⟩) X cc U rb aK rc) (gj id cX fT cZ kd y O u o bY K L B C E G F eX eH g P r) (bC k s N D n va xA Y Z vb wc) c0)
  .rcases ag with rfl|rfl|rfl
   .have pL:V ⟨w.heap.size+1,13,none⟩=some (.string eX):=aN 13 d.out.i;have f13:=Go.aM.cM (i:=13) d.out.i;have cw:=bM d.out.i;have T:Hid (ox w b a len (en S rs (some ⟨l,Q,none⟩) X cc U rb aK rc) (gj id cX fT cZ kd y O u o bY K L B C E G F ⟨#[115,104,97,112,101]⟩ eH g P r) (bC 1 s N D n va xA Y Z vb wc) (V.setCell ⟨w.heap.size+1,13,none⟩ (.string ⟨#[115,104,97,112,101]⟩))):=A (d.out.set 13 _);go_upto_region 6 with fail
    clear d pL f13 cw v0;generalize (V.setCell ⟨w.heap.size+1,13,none⟩ (.string ⟨#[115,104,97,112,101]⟩))=w3 at*;go_wp2_with (go_at_call 19;(with_reducible refine(bp.out 5 al al _ (T.out.alloc _).fS.n).mono ?_);rintro e bh ⟨⟨im,lh,T7,rfl⟩,lN,q7⟩;have R:=A ((T.out.alloc _).next lN q7);obtain⟨m,rfl⟩:∃k:Nat,im=(k:Int):=⟨im.toNat,z⟩;obtain⟨t4,o'⟩:=aI4 m z w3;have c4:bh ⟨w3.heap.size,m,none⟩=some (.string t4):=(by rw[nN (q7.block w3.heap.size aq (by have:=T.out.fS.s.size;have:=kT.out;omega))];exact o');have rO:bh ⟨w.heap.size+1,14,none⟩=some (.string eH):=aN 14 R.out.i;have f14:=Go.aM.cM (i:=14) R.out.i;have J9:=bM R.out.i;clear lN q7 o');go_meet;exact⟨_,_,R.out.set 14 _⟩
   .go_upto_region 9 with(go_at_call 19;(with_reducible refine(bp.out 2 al al _ (d.out.alloc _).fS.n).mono ?_);rintro e bh ⟨⟨im,lh,T7,rfl⟩,lN,q7⟩;have R:=A ((d.out.alloc _).next lN q7);obtain⟨m,rfl⟩:∃k:Nat,im=(k:Int):=⟨im.toNat,z⟩;obtain⟨t4,o'⟩:=aEi m z V;have c4:bh ⟨V.heap.size,m,none⟩=some (.string t4):=(by rw[nN (q7.block V.heap.size aq (by have:=d.out.fS.s.size;have:=kT.out;omega))];exact o');have pL:bh ⟨w.heap.size+1,13,none⟩=some (.string eX):=aN 13 R.out.i;have f13:=Go.aM.cM (i:=13) R.out.i;have J9:=bM R.out.i;clear lN q7 o')
    have jp:Hid (ox w b a len (en S rs (some ⟨l,Q,none⟩) X cc U rb aK rc) (gj id cX fT cZ kd y O u o bY K L B C E G F t4 eH g P r) (bC 2 s N D n va xA Y Z vb wc) (bh.setCell ⟨w.heap.size+1,13,none⟩ (.string t4))):=A (R.out.set 13 _);clear d R pL f13 J9 v0 c4;generalize (bh.setCell ⟨w.heap.size+1,13,none⟩ (.string t4))=bc at*
    go_wp2_with (first
     |(go_at_call 209;(with_reducible refine(bP.out _ jp.out.fS.n).mono ?_);rintro e br ⟨⟨R9,Sg,rfl,ai,w1⟩,rT,af⟩;have iN:=A (jp.out.next rT af);clear rT af)
     |(go_at_call 132;(with_reducible refine(ia.out R9 Sg _ ai w1).mono ?_);rintro e w7 ⟨⟨Cu,rfl,ar⟩,ha⟩;have gV:=A (iN.out.K ha);have rO:w7 ⟨w.heap.size+1,14,none⟩=some (.string eH):=aN 14 gV.out.i;have f14:=Go.aM.cM (i:=14) gV.out.i;have an:=bM gV.out.i;have Un:(1:Int)<=(Cu.size:Int):=z))
    go_meet;exact⟨_,_,gV.out.set 14 _⟩
   .have e8:=aj.out;go_upto_region 11 with fail
    clear v0;go_wp2;go_loopw [9] (λi wr=>∃(j:Nat) (eX eH:Ψ),j<=S.bB.length/\i=.int .i64 j/\ox w b a len (en S rs (some ⟨l,Q,none⟩) X cc U rb aK rc) (gj id cX fT cZ kd y O u o bY K L B C E G F eX eH g P r) (bC 3 s N D n va xA Y Z vb wc) wr) (λi _=>S.bB.length-(RowKit.intOf i).toNat);case atStart=>exact⟨0,eX,eH,dh _,rfl,d.out⟩
    case round=>clear d;obtain⟨j,eX,eH,ab,rfl,cd⟩:=hrel;have bb:wr ⟨w.heap.size,2,none⟩=some (.slice (some ⟨l,Q,none⟩) S.bB.length cc):=aN 2 cd.g;by_cases au:j<S.bB.length;{(have jh:(j:Int)<S.bB.length:=z;have aw:(0:Int)<=(j:Int):=z;have c1:=(gM.out wr cd.fS j au).2;have f:=A cd;have sS:=A au;generalize zO:((S.bB[j].2:Nat):Int)=ak at*;clear zO cd au;go_upto_if 54 with fail);generalize (ak==3)=q;cases q;{go_wp2;exact⟨⟨j+1,eX,eH,by have:=sS.out;omega,bz,f.out⟩,by simp[RowKit.intOf];have:=sS.out;omega⟩};{(have pL:wr ⟨w.heap.size+1,13,none⟩=some (.string eX):=aN 13 f.out.i;have f13:=Go.aM.cM (i:=13) f.out.i;have cw:=bM f.out.i;have T:Hid (ox w b a len (en S rs (some ⟨l,Q,none⟩) X cc U rb aK rc) (gj id cX fT cZ kd y O u o bY K L B C E G F ⟨#[110,111,116,98,101,102,111,114,101]⟩ eH g P r) (bC 3 s N D n va xA Y Z vb wc) (wr.setCell ⟨w.heap.size+1,13,none⟩ (.string ⟨#[110,111,116,98,101,102,111,114,101]⟩))):=A (f.out.set 13 _);go_upto_region 16 with fail);clear f pL f13 cw bb c1;generalize (wr.setCell ⟨w.heap.size+1,13,none⟩ (.string ⟨#[110,111,116,98,101,102,111,114,101]⟩))=w3 at*;have bb:w3 ⟨w.heap.size,2,none⟩=some (.slice (some ⟨l,Q,none⟩) S.bB.length cc):=aN 2 T.out.g;have bi:=(gM.out w3 T.out.fS j sS.out).1;have rO:w3 ⟨w.heap.size+1,14,none⟩=some (.string eH):=aN 14 T.out.i;have f14:=Go.aM.cM (i:=14) T.out.i;have iS:=bM T.out.i;generalize S.bB[j].1=nm at*;go_wp2;exact⟨⟨j+1,_,nm,by have:=sS.out;omega,bz,T.out.set 14 _⟩,by simp[RowKit.intOf];have:=sS.out;omega⟩}};{have jh:¬(j:Int)<S.bB.length:=z;go_wp2;go_meet;exact⟨_,_,cd⟩}
  case rest=>obtain⟨ae,ad,c⟩:=hcut;obtain⟨dZ,gQ,gb,jg,kV,nE,nF,nG,q0,q1,qY,qZ,rN,pL,rO,qi⟩:=s8 c.i;have hf:=aN 0 c.o;have z0:=Go.aM.cM (i:=0) c.o;have dn:=aN 1 c.o;have cC:=Go.aM.cM (i:=1) c.o;have dR:=aN 2 c.o;have dC:=Go.aM.cM (i:=2) c.o;have fy:=aN 3 c.o;have z3:=Go.aM.cM (i:=3) c.o;have gG:=aN 4 c.o;have z4:=Go.aM.cM (i:=4) c.o;have hg:=aN 5 c.o;have z5:=Go.aM.cM (i:=5) c.o;have hj:=aN 6 c.o;have eJ:=Go.aM.cM (i:=6) c.o;have PE:=aN 7 c.o;have CF:=Go.aM.cM (i:=7) c.o;have PF:=aN 8 c.o;have r4:=Go.aM.cM (i:=8) c.o;have PG:=aN 9 c.o;have z9:=Go.aM.cM (i:=9) c.o;have Py:=aN 10 c.o;have QS:=Go.aM.cM (i:=10) c.o;have Pz:=aN 11 c.o;have QT:=Go.aM.cM (i:=11) c.o;have PA:=aN 12 c.o;have QU:=Go.aM.cM (i:=12) c.o;have PB:=aN 13 c.o;have QV:=Go.aM.cM (i:=13) c.o;have PC:=aN 14 c.o;have QW:=Go.aM.cM (i:=14) c.o;have PD:=aN 15 c.o;have QX:=Go.aM.cM (i:=15) c.o;have kr:w.heap.size+3<wc.heap.size:=bM c.o;have oH:w.heap.size+1<wc.heap.size:=bM c.i;have cN:=A (c.done [.int .i64 id,.int .i64 cX,.int .i64 fT,.int .i64 cZ,.int .i64 kd,.slice y O u,.int .i64 o,.string bY,.int .i64 K,.int .i64 L,.int .i64 B,.slice C 0 E,.slice G 0 F,.string ae,.string ad,.slice g P r] rfl);go_wp2;refine gd (BV (fn:=f133) rfl _ _ (w.heap.size+3) 47 _ (0,0) _ rfl cN.out.1 CI rfl KH) rfl ?_;exact⟨⟨ae,ad,rfl⟩,cN.out.2⟩
end Go.bE
namespace Go.bE
open Go Go.Proofs.Tryz Go.Proofs Go.RowKit Go.Lib Go.aM
open Go.bk (gS)
def af_:(prog.info? 3).map (λi=>(i.zero,i.size,i.bytes))=some (some (.int .i64 0),1,8):=aw
def qD(B:Nat->Prop)(w:Γ)(a:Θ)(l:List Int):Prop:=l.length<=40/\(0<l.length->∃b o,a=some ⟨b,o,none⟩/\B b/\b<w.heap.size/\∀i (hi:i<l.length),w ⟨b,o+i,none⟩=some (.int .i64 l[i]))
variable{B:Nat->Prop}{w:Γ}{a:Θ}{l:List Int}
def qD.eB{w':Γ}(h:qD B w a l)(G:eR B w w'):qD B w' a l:=
 ⟨h.1,λaf=>by
  let⟨b,o,e,d,c,f⟩:=h.2 af
  exact⟨b,o,e,d,i4 c G.1,λi hi=>(G.cell d c).trans (f i hi)⟩⟩
def qD.low{B':Nat->Prop}(c:∀b,B b->B' b)(h:qD B w a l):qD B' w a l:=
 ⟨h.1,λaf=>by
  let⟨b,o,e,H,I⟩:=h.2 af
  exact⟨b,o,e,c _ H,I⟩⟩
def qD.lt(h:qD B w a l):qD (λb=>B b/\b<w) w a l:=
 ⟨h.1,λaf=>by
  let⟨b,o,e,H,I,c⟩:=h.2 af
  exact⟨b,o,e,⟨H,I⟩,I,c⟩⟩
def aDx{w:Γ}{ad:Addr}{l:List Int}{b o:Nat}(e:ad=⟨b,o,none⟩)(c:∀i (hi:i<l.length),w ⟨b,o+i,none⟩=some (.int .i64 l[i])):∀j u,(gS l)[j]? =some u->w.cell? (ad.add j)=some u:=λj u hu=>by
 subst e
 rw[AD]
 rw[gS,ou]at hu
 by_cases a:j<l.length
 .rw[j_ a]at hu
  injection hu with hu
  subst hu
  exact c j a
 .rw[rh z]at hu
  cases hu
def aDw{base:Nat}{g n cap:Nat}(f:l.length<=40)(h:w.ownsRow base 3 1 (.slice (some ⟨g,0,none⟩) n cap) n (gS l)):qD (fj base) w (some ⟨g,0,none⟩) l:=
 ⟨f,λaf=>by
  have c:=h
  rcases h.2 with⟨b,i⟩|⟨m,o,k,ak,a,e,_⟩
  .cases b
  .injection ak with ak
   injection ak with ak
   injection ak with ak
   subst ak
   refine⟨_,0,rfl,a,bM e,λj d=>?_⟩
   have:=c.cells (g:=g) rfl j (.int .i64 l[j]) (by simp[gS,d])
   rw[AD]at this
   exact this⟩
def av5(base:Nat)(l:List Ψ)(e:Ending)(w':Γ):Prop:=∃a c,e=.returned (.slice a l.length c)/\g0 (fj base) w' a l
def avN(base:Nat)(l:List Int)(e:Ending)(w':Γ):Prop:=∃a c,e=.returned (.slice a l.length c)/\qD (fj base) w' a l
def axN(w:Γ)(a:Θ)(c:Nat)(l:List Ψ)(h:g0 aD w a l):χ 145 #[.slice a l c] w (av5 w l):=by
 let⟨g,f,C,D,E⟩:=iz am1;have G:∀(w:Γ) (a:Θ) (n c n' d:Nat),(binOp .eql 42 (.slice a n c) (.slice none n' d)).run prog w=.ok (.bool a.isNone) w:=λw a n c n' d=>ate w _ _ a n c n' d HV;by_cases af:l=[]
 .subst af;simp only[tV];rcases a with _|ad
  .go_enter VV,ntmps145;exact an7
  .go_enter VV,ntmps145;go_wp2_with (at_builtin;refine aeu rfl _ _ 42 rfl 9 g HV f w 0 0 0 (aY _) (some ad) c rfl rfl ?_);exact ao6
 .have t:0<l.length:=by rcases l with _|⟨x,l⟩;exact absurd rfl af;simp
  have r:=h.1;obtain⟨k,m,rfl,_,F,j⟩:=h.2 t;have s:=A (asm (w:=w.alloc (.cells #[] 9)) (ad:=⟨k,m,none⟩) (l:=l) rfl λi hi=>((fu w _).cell F).trans (j i hi));have u:=Go.bk.N.xp w w 9 1 (aY _);clear h j;go_enter VV,ntmps145;go_wp2_with (at_builtin;refine lP _ rfl _ _ 42 rfl w 9 g _ 1 16 HV f C D E rfl al (.slice (some ⟨w,0,none⟩) 0 0) 0 [] rfl u ⟨k,m,none⟩ l c (Ap l) rfl (by simp[Ap]) s (by simp[Ap,Value.oneCell']) (by unfold maxLen;omega) z aq ?_;intro J H b o q;rw[gy,vf]at b;obtain⟨I,K,rfl⟩:=Go.bk.N.G3 b (λe=>by have:=(q.1 e).1;cases this);have B:=A (Go.bk.N.Jp o);have y:=A (asl r b);clear b o q);go_ret;exact⟨⟨_,_,rfl,y⟩,B⟩
def axM(w:Γ)(a:Θ)(c:Nat)(l:List Int)(h:qD aD w a l):Calls prog 61 #[.slice a l.length c] w λe w'=>avN w.heap.size l e w'/\β w w':=by
 obtain⟨g,f,C,D,E⟩:=iz af_;have G:∀(w:Γ) (a:Θ) (n c n' d:Nat),(binOp .eql 22 (.slice a n c) (.slice none n' d)).run prog w=.ok (.bool a.isNone) w:=λw a n c n' d=>ate w _ _ a n c n' d pj;by_cases af:l=[]
 .subst af;simp only[tV];rcases a with _|ad
  .go_enter func61,ntmps61;exact an7
  .go_enter func61,ntmps61;go_wp2_with (at_builtin;refine aeu rfl _ _ 22 rfl 3 g pj f w.heap.size 0 0 0 (aY _) (some ad) c rfl rfl ?_);exact ao6
 .have t:0<l.length:=by(rcases l with _|⟨x,l⟩);{exact absurd rfl af};{simp}
  have r:=h.1;obtain⟨k,m,rfl,_,F,j⟩:=h.2 t;have s:=A (aDx (w:=w.alloc (.cells #[] 3)) (ad:=⟨k,m,none⟩) (l:=l) rfl λi hi=>((fu w _).cell F).trans (j i hi));have u:=Go.bk.N.xp w w.heap.size 3 1 (aY _);clear h j;go_enter func61,ntmps61;go_wp2_with (at_builtin;refine lP _ rfl _ _ 22 rfl w.heap.size 3 g _ 1 8 pj f C D E rfl al (.slice (some ⟨w.heap.size,0,none⟩) 0 0) 0 [] rfl u ⟨k,m,none⟩ l.length c (gS l) rfl (by simp[gS]) s.out (by simp[gS,Value.oneCell']) (by unfold maxLen;omega) z aq ?_;intro J H b o q;rw[gy,vf]at b;obtain⟨I,K,rfl⟩:=Go.bk.N.G3 b (λe=>by have:=(q.1 e).1;cases this);have B:=A (Go.bk.N.Jp o);have y:=A (aDw r b);clear b o q);go_ret;exact⟨⟨_,_,rfl,y.out⟩,B.out⟩
def aD1(bi c1 c2 c3 c4 c5 fe u t x ca m cc z c g o C n D r s y i d f kD B j k l kb:Φ)(cX cZ b a:Int)(w:Γ):χ 24 #[.agg #[bi,cX,c2,cZ,c4,c5,fe,u,t,x,ca,m,cc,z,c,g],.agg #[o,b,n,a,r,s,y,i,d,f,kD,B,j,k,l,kb]] w λe w'=>e=.returned (.bool (decide (a<cZ∨cZ=a/\b<cX))):=by
 have T:=A (k0 w (.cells #[bi,cX,c2,cZ,c4,c5,fe,u,t,x,ca,m,cc,z,c,g] 47 (0,0)) (.cells #[o,b,n,a,r,s,y,i,d,f,kD,B,j,k,l,kb] 47 (0,0)));go_enter func24,ntmps24;by_cases H:cZ=a
 .subst H;go_wp2;go_ret;exact⟨aq,T.out.h⟩
 .have q:(cZ==a)=false:=by rw[mx];exact H
  go_wp2;go_ret;exact⟨by simp[H],T.out.h⟩
end Go.bE
namespace Go.bE
open Go Go.Proofs.Tryz Go.Proofs Go.RowKit Go.Lib Go.aM
variable{w w':Γ}{b n:Nat}{a:Θ}{N:Int}{e:Ending}
def eR.next(c:vq w b a n N e w'){base:Nat}(G:b<base):eR (fj base) w w':=
 ⟨by have:=c.2.2.1;omega,λg ar _=>c.2.2.2.1 g (by have:base<=g:=ar;omega)⟩
variable{r:Nat}
def eR.aIT{base:Nat}(b:r<base)(i:Nat)(u:Φ):eR (fj base) w (w.setCell ⟨r,i,none⟩ u):=
 (eR.refl (fj base) w).set (λ(h:base<=r)=>z) i u
structure s1 (w:Γ) (a:Θ) (n:Nat) (aF:Ω) (wr:Γ):Prop where
 g:wr.heap[w.heap.size]? =some (.cells aF 29 (0,0))
 m:∃c cf:Nat,wr.heap[w.heap.size+1]? =some (.cells #[.slice a n c,.int .i64 cf] 53 (0,0))
 b:Below w.heap.size w wr
variable{wr:Γ}{aF:Ω}
def s1.num(h:s1 w a n aF wr)(d:k_ w a n)(f:∀q,a=some q->0<n->q.block<w):er wr (w.heap.size+1) a n:=by
 let⟨c,m,l⟩:=h.m;refine⟨c,m,l,?_,λq j af e=>?_⟩;rcases d with d|⟨b,o,rfl,g⟩;exact .inl d;exact .inr ⟨b,o,rfl,λi hi=>by let⟨x,k⟩:=g i hi;exact⟨x,aA h.b (show b<w from f _ rfl z) k⟩⟩
 have:=f q j af;omega
def s1.next(h:s1 w a n aF wr)(d:vq wr (w.heap.size+1) a n N e w'):s1 w a n aF w':=by let⟨_,⟨c,j,f,_⟩,g,b,i,aj,ag⟩:=d;refine⟨by rw[b _ z];exact h.g,⟨c,j,f⟩,⟨i.trans h.b.os,aj.trans h.b.tape,ag.trans h.b.output,by rw[g];exact h.b.size,λk l=>by rw[b _ z];exact h.b.block k l⟩⟩
def s1.K(h:s1 w a n aF wr)(G:Below (w.heap.size+2) wr w'):s1 w a n aF w':=by let⟨c,d,b⟩:=h.m;exact⟨by rw[G.block _ z];exact h.g,⟨c,d,by rw[G.block _ z];exact b⟩,h.b.trans (G.mono z)⟩
def s1.lt(h:s1 w a n aF wr):w.heap.size+2<=wr.heap.size:=by let⟨c,d,b⟩:=h.m;have:=bM b;omega
def s1.start(w:Γ)(a:Θ)(n c:Nat)(aF:Ω):s1 w a n aF ((w.alloc (.cells aF 29)).alloc (.cells #[.slice a n c,.int .i64 0] 53)):=by have b:(w.alloc (.cells aF 29)).heap.size=w.heap.size+1:=aq;have I:=c7 (w.alloc (.cells aF 29)) (.cells #[.slice a n c,.int .i64 0] 53);rw[b]at I;have G:=(bl (w.alloc (.cells aF 29)).heap.size (w.alloc (.cells aF 29))).alloc (aY _) (.cells #[.slice a n c,.int .i64 0] 53);exact⟨(G.block _ z).trans (c7 w _),⟨c,0,I⟩,((bl _ _).alloc (aY _) _).alloc aq _⟩
structure np (w:Γ) (a:Θ) (n:Nat) (aF:Ω) (wr:Γ) (aZ:Ω) (c0:Γ):Prop where
 r:s1 w a n aF c0
 k:eR (fj (w.heap.size+2)) wr c0
 lx:w.heap.size+2<=wr.heap.size
 v:c0.heap[wr.heap.size]? =some (.cells aZ 44 (0,0))
section
variable {w wr c0 w':Γ} {a:Θ} {n:Nat} {aF:Ω} {aZ:Ω}
def np.next(h:np w a n aF wr aZ c0)(b:vq c0 (w.heap.size+1) a n N e w'):np w a n aF wr aZ w':=by have c:=h.lx;exact⟨h.r.next b,h.k.trans (eR.next b z),c,by rw[b.2.2.2.1 _ z];exact h.v⟩
def np.K(h:np w a n aF wr aZ c0)(G:β c0 w'):np w a n aF wr aZ w':=
 ⟨h.r.K (G.mono h.r.lt),h.k.trans (.hs G),h.lx,by rw[G.block _ (bM h.v)];exact h.v⟩
def np.alloc(h:np w a n aF wr aZ c0)(o:Obj):np w a n aF wr aZ (c0.alloc o):=h.K ((bl _ _).alloc (aY _) _)
def np.drew(h:np w a n aF wr aZ c0):np w a n aF wr aZ c0.drew:=h.K ((bl _ _).drew)
def np.set(h:np w a n aF wr aZ c0)(i:Nat)(u:Φ):np w a n aF wr (aZ.setIfInBounds i u) (c0.setCell ⟨wr,i,none⟩ u):=
 ⟨h.r.K ((bl _ _).setCell h.lx _),⟨by simpa using h.k.1,λb H I=>by rw[ht _ _ _ _ (λ(e:b=wr.heap.size)=>z)];exact h.k.2 b H I⟩,h.lx,h' h.v _⟩
def np.num(h:np w a n aF wr aZ c0)(b:k_ w a n)(c:∀q,a=some q->0<n->q.block<w):er c0 (w.heap.size+1) a n:=h.r.num b c
end
def xQ(wr:Γ)(aZ:Ω)(c0:Γ):Prop:=∃u,aR (fj (wr.heap.size+1)) 1 c0 aZ u/\e9 1 u
variable{c0:Γ}
def xQ.next{aZ:Ω}(h:xQ wr aZ c0)(b:vq c0 (w.heap.size+1) a n N e w')(c:w.heap.size+2<=wr.heap.size):xQ wr aZ w':=by let⟨u,H,I⟩:=h;exact⟨u,H.eB (eR.next b z),I⟩
def xQ.zero(wr c0:Γ):xQ wr fo c0:=⟨gY 0,aR.jb _ 1 c0 0 bX 0 0 0 none 0 none 0,.gY 0 al al⟩
def xQ.gX{aZ:Ω}(h:xQ wr aZ c0):∃k s N S n ca cl cc ra rl rc,aZ=bC k s N S n ca cl cc ra rl rc:=by let⟨⟨k,s,N,S,n,cs,aG⟩,H,_⟩:=h;let⟨_,_,_,_,e,_⟩:=H.gX;exact⟨_,_,_,_,_,_,_,_,_,_,_,e⟩
variable{d:Nat}{v:Φ}
def iu.next{base:Nat}{l:List (List bs)}(h:iu base d w v l)(c:vq w b a n N e w')(G:b<base):iu base d w' v l:=h.eB (eR.next c G)
def iu.set{i base:Nat}{u:Φ}{l:List (List bs)}(h:iu base d w v l)(b:r<base):iu base d (w.setCell ⟨r,i,none⟩ u) v l:=h.eB (eR.aIT b i u)
def avP(base:Nat)(s:Ψ)(N:Int)(e:Ending)(w':Γ):Prop:=∃p c,e=.returned (.slice p 2 c)/\cm (fj base) (aR (fj base) 0) w' p [hX s,gR N 0]
def anh(s:Ψ)(N:Int)(w:Γ):χ 205 #[s,N] w (avP w s N):=by
 go_enter func205,ntmps205;go_wp2;go_ret;have G:=fu w (.cells ((bC 1 s 0 0 0 none 0 0 none 0 0)++(bC 2 bX N 0 0 none 0 0 none 0 0)) 44);have c:=c7 w (.cells ((bC 1 s 0 0 0 none 0 0 none 0 0)++(bC 2 bX N 0 0 none 0 0 none 0 0)) 44);refine⟨⟨_,_,rfl,aq,λ_=>⟨w.heap.size,0,rfl,aY _,bM c,λj d=>?_⟩⟩,G⟩;have:j=0∨j=1:=by simp at d;omega
 rcases this with rfl|rfl;exact⟨_,_,_,_,_,_,_,_,_,_,_,aR.jb _ 0 _ 1 s 0 0 0 none 0 none 0,aN 0 c,aN 1 c,aN 2 c,aN 3 c,aN 4 c,aN 5 c,aN 6 c⟩;exact⟨_,_,_,_,_,_,_,_,_,_,_,aR.jb _ 0 _ 2 bX N 0 0 none 0 none 0,aN 7 c,aN 8 c,aN 9 c,aN 10 c,aN 11 c,aN 12 c,aN 13 c⟩
end Go.bE
namespace Go.bE
open Go Go.Proofs Go.RowKit Go.Lib Go.aM
variable{w:Γ}{n:Nat}
def atZ{base:Nat}{e t:TypeId}{size:Nat}{v:Φ}{aH:List Φ}(h:w.ownsRow base e size v n aH){b:Nat}{cs:Ω}{fr:Nat×Nat}(G:w.heap[b]? =some (.cells cs t fr))(aj:t≠e):some b≠v.ownBlock:=λak=>by
 rcases h.2 with⟨c,_⟩|⟨g,cap,f,I,d,c,_⟩
 .subst c;simp[Value.ownBlock]at ak
 .subst I
  simp[Value.ownBlock]at ak
  subst ak
  rw[G]at c
  injection c with c
  injection c with _ c _
  exact aj c
def np.grown{wr c0 w':Γ}{a:Θ}{aF:Ω}{aZ:Ω}(h:np w a n aF wr aZ c0)(G:Below (wr.heap.size+1) c0 w'):np w a n aF wr aZ w':=by have c:=h.lx;exact⟨h.r.K (G.mono z),⟨c6 h.k.1 G.size,λb H I=>(G.block b z).trans (h.k.2 b H I)⟩,c,(G.block _ z).trans h.v⟩
structure oX (w:Γ) (a:Θ) (n:Nat) (aF:Ω) (cU:Γ) (bS:Nat) (fU:Φ) (aG:List (List bs)) (c0:Γ):Prop where
 k:np w a n aF cU #[.int .i64 5,.string bX,.int .i64 0,.int .i64 0,.int .i64 0,.slice (some ⟨bS,0,none⟩) 2 2,fU] c0
 o:iu (cU.heap.size+1) 0 c0 fU aG
 s:c0.heap[bS]? =some (.cells #[.string lM,.string lv] 9 (0,0))
 lx:cU.heap.size<bS
section
variable {w cU c0 w':Γ} {a:Θ} {n bS:Nat} {aF:Ω} {fU:Φ} {aG:List (List bs)}
def oX.next(h:oX w a n aF cU bS fU aG c0){N:Int}{e:Ending}(b:vq c0 (w.heap.size+1) a n N e w'):oX w a n aF cU bS fU aG w':=by have d:=h.k.lx;have c:=h.lx;exact⟨h.k.next b,h.o.next b z,by rw[b.2.2.2.1 _ z];exact h.s,c⟩
def oX.K(h:oX w a n aF cU bS fU aG c0)(G:β c0 w'):oX w a n aF cU bS fU aG w':=
 ⟨h.k.K G,h.o.K G,by rw[G.block _ (bM h.s)];exact h.s,h.lx⟩
def oX.alloc(h:oX w a n aF cU bS fU aG c0)(o:Obj):oX w a n aF cU bS fU aG (c0.alloc o):=h.K ((bl _ _).alloc (aY _) _)
def oX.drew(h:oX w a n aF cU bS fU aG c0):oX w a n aF cU bS fU aG c0.drew:=h.K ((bl _ _).drew)
def oX.push{e d:Γ}(f:oX w a n aF cU bS fU aG e)(h:oX w a n aF cU bS fU aG c0){p:Θ}{u:List bs}{c:Nat}(r:cm (fj e.heap.size) (aR (fj e.heap.size) 0) c0 p u){o:Obj}{g cap:Nat}(ar:(c0.alloc o).grownBy d fU.ownBlock)(A:fU.ownBlock=some g∨g=c0.heap.size+1) {ss:List Φ}(i:ss.length=aG.length)(k:∀j (H:j<ss.length) (I:j<aG.length),∃a c,ss[j]=.slice a aG[j].length c/\cm (i_ (cU.heap.size+1) fU) (aR (i_ (cU.heap.size+1) fU) 0) c0 a aG[j]) (s:d.ownsRow (cU.heap.size+1) 45 1 (.slice (some ⟨g,0,none⟩) (aG.length+1) cap) (aG.length+1) (ss++[.slice p u.length c])): oX w a n aF cU bS (.slice (some ⟨g,0,none⟩) (aG.length+1) cap) (aG++[u]) (d.setCell ⟨cU.heap.size,6,none⟩ (.slice (some ⟨g,0,none⟩) (aG.length+1) cap)):=by
 have y:cU.heap.size+1<=c0.heap.size:=bM h.k.v;have l:cU.heap.size+1<=e.heap.size:=bM f.k.v;have q:Below (cU.heap.size+1) c0 d:=((bl _ _).alloc y o).grown ar bw (λb G=>(h.o.lt b G).1);have t:=h.k.grown q;have x:=iu.push h.o (f.o.pf (aY _) l r) ar A i k s;obtain⟨C,H,I,_⟩:=h.o.o;have m:d.heap[bS]? =some (.cells #[.string lM,.string lv] 9 (0,0)):=by rw[ar.block bS (by have:=bM h.s;simp;omega) (atZ I h.s al),CJ c0 _ bS (bM h.s)];exact h.s
 have B:=h.lx;exact⟨t.set 6 _,x.set z,by rw[ht _ _ _ _ (show bS≠cU.heap.size by omega)];exact m,B⟩
def oX.value(h:oX w a n aF cU bS fU aG c0)(d:aG.length<=3)(c:∀r∈aG,t_ r):∃c',c'=#[.int .i64 5,.string bX,.int .i64 0,.int .i64 0,.int .i64 0,.slice (some ⟨bS,0,none⟩) 2 2,fU]/\xQ cU c' c0:=by
 obtain⟨ra,rc,rfl,e⟩:=h.o.aG z;have f:=h.lx;refine⟨_,rfl,jl aG,⟨some ⟨bS,0,none⟩,2,ra,rc,rfl,⟨al,λ_=>⟨bS,0,rfl,f,bM h.s,λi hi=>?_⟩⟩,e⟩,.jl aG d c⟩;have:i=0∨i=1:=by simp at hi;omega
 rcases this with rfl|rfl
 .exact aN 0 h.s
 .exact aN 1 h.s
end
end Go.bE
namespace Go.bE
open Go Go.Proofs.Tryz Go.Proofs Go.RowKit Go.Lib Go.aM
def awT(m:Nat)(op aO:Ψ)(ee:List Nat)(f:yZ)(w:Γ)(C:Φ)(ca:Θ)(cl cc:Nat)(U:Θ)(rl rc:Nat) (P:∀W,β w W->χ 120 #[op,aO,C,.slice ca cl cc] W (Di ee)) (O:∀W,χ 193 #[op,aO] W (Dh f)) (N:∀k∈ee,1<=k)(y:Θ)(ac:Nat)(l:List bs)(x:∀v∈l,∃n,e9 n v)(h:cm aD (aR aD 1) w y l) (Jc:(op.toList==[105,102])=false)(Nt:(op.toList==[99,111,108])=false)(SZ:(op.toList==[116,101,120,116])=true)(ar:e9 m (hX aO)): χ 415 #[op,aO,.slice y l ac,C,.slice ca cl cc,.slice U rl rc] w (e_ w m):=by
 have s:=A (wv.start w);have F:=A P;have D:=A O;have pp:=A λW (t:β w W)=>(cm.K (aR.mono aD 1) h t).2;have sR:=A x;have e8:=h.1;have AX:=A N;have S:=A ar;clear ar;clear P O h x N;go_enter HR,HT;go_upto_region 1 with fail
 generalize w.alloc (.cells fo 44)=am at s|-;have B:=s.out.b;go_upto_region 2 with(go_at_call 120;refine(F.out _ B).mono ?_;rintro e ap ⟨⟨J6,J7,J8,rfl,g'⟩,H⟩;generalize rI:ee.length=ob)
 have e0:=A (s.out.K H);clear F s B H;by_cases I:l.length=ob
 .have dA:((l.length:Int) !=(ob:Int))=false:=by simp[I]
  have gi:=A λW (t:β ap W)=>(g'.K t).2;clear g';go_wp2;go_loopw [20,21] (λi _ wr=>∃k:Nat,k<=l.length/\i=.int .i64 k/\β ap wr/\pu ee l k) (λi _ _=>l.length-(RowKit.intOf i).toNat);case atStart=>exact⟨0,dh _,rfl,bl _ _,pu.zero _ _⟩
  case round=>obtain⟨k,aa,rfl,bm,qO⟩:=hrel;have eS:=A (e0.out.K bm);by_cases au:k<l;exact Ke;{(have rF:wE ee l:=qO.all (I.trans rI.symm) z;have T:=bm.size;clear qO gi pp sR e0 bm;go_upto_region 22 with(go_at_call 193;refine(D.out _).mono ?_;rintro e a ⟨⟨j,g,c,r,d,rfl,Q,R⟩,bJ⟩));have M:=eS.out.K bJ;have L:=A (M.K (fu a (.cells (e3 j f.nm g f.k f.n f.dH f.ds c r d) 251)));have E:=c7 a (.cells (e3 j f.nm g f.k f.n f.dH f.ds c r d) 251);have X:=A (Q.K (fu a (.cells (e3 j f.nm g f.k f.n f.dH f.ds c r d) 251)));have Y:=A (pw.K R (fu a (.cells (e3 j f.nm g f.k f.n f.dH f.ds c r d) 251)));clear M bJ eS Q R D;generalize a.heap.size=jq at*;generalize a.alloc (.cells (e3 j f.nm g f.k f.n f.dH f.ds c r d) 251)=G at*;replace E:=A E;clear X Y rF T;have qv:=A (VA aO G);have zU:w.heap.size<=G.heap.size:=L.out.b.size;go_wp2_with (go_at_call 476;(with_reducible refine qv.out.mono ?_);rintro e Ax ⟨rfl,Z⟩;have J:=A (L.out.K Z);have u:=J.out.o;let⟨hf,dn,dR,fy,gG,hg,hj⟩:=eU u;let⟨z0,cC,dC,z3,z4,z5,eJ⟩:=hp u);refine gd (j5 (fn:=f415) rfl _ _ w 44 _ (0,0) _ _ rfl rfl (iJ u _ _ _ _ _ _ _) k2 rfl jk) rfl ?_;exact⟨e_.some _ _ _ (aR.jb _ 1 _ 1 aO 0 0 0 none 0 none 0) S,iU J.out.b z _ _ _ _ _ _ _⟩}
 exact GR
def awS(m:Nat)(op aO:Ψ)(ee:List Nat)(f:yZ)(w:Γ)(D:Φ)(ca:Θ)(cl cc:Nat)(U:Θ)(rl rc:Nat) (P:∀W,β w W->χ 120 #[op,aO,D,.slice ca cl cc] W (Di ee)) (O:∀W,χ 193 #[op,aO] W (Dh f)) (N:∀k∈ee,1<=k)(B:Θ)(ac:Nat)(l:List bs)(y:∀v∈l,∃n,e9 n v)(h:cm aD (aR aD 1) w B l) (Jc:(op.toList==[105,102])=false)(Nt:(op.toList==[99,111,108])=false)(SZ:(op.toList==[116,101,120,116])=false)(Y0:(op.toList==[110,117,109,98,101,114])=true)(ar:e9 m (gR f.dH f.ds)): χ 415 #[op,aO,.slice B l ac,D,.slice ca cl cc,.slice U rl rc] w (e_ w m):=by
 have s:=A (wv.start w);have F:=A P;have E:=A O;have pp:=A λW (t:β w W)=>(cm.K (aR.mono aD 1) h t).2;have sR:=A y;have e8:=h.1;have AX:=A N;have S:=A ar;clear ar;clear P O h y N;go_enter HR,HT;go_upto_region 1 with fail
 generalize w.alloc (.cells fo 44)=am at s|-;have C:=s.out.b;go_upto_region 2 with(go_at_call 120;refine(F.out _ C).mono ?_;rintro e ap ⟨⟨J6,J7,J8,rfl,g'⟩,H⟩;generalize rI:ee.length=ob)
 have e0:=A (s.out.K H);clear F s C H;by_cases I:l.length=ob
 .have dA:((l.length:Int) !=(ob:Int))=false:=by simp[I]
  have gi:=A λW (t:β ap W)=>(g'.K t).2;clear g';go_wp2;go_loopw [20,21] (λi _ wr=>∃k:Nat,k<=l.length/\i=.int .i64 k/\β ap wr/\pu ee l k) (λi _ _=>l.length-(RowKit.intOf i).toNat);case atStart=>exact⟨0,dh _,rfl,bl _ _,pu.zero _ _⟩
  case round=>obtain⟨k,aa,rfl,bm,qO⟩:=hrel;have eS:=A (e0.out.K bm);by_cases au:k<l;exact Ke;{(have rF:wE ee l:=qO.all (I.trans rI.symm) z;have T:=bm.size;clear qO gi pp sR e0 bm;go_upto_region 22 with(go_at_call 193;refine(E.out _).mono ?_;rintro e a ⟨⟨j,g,c,r,d,rfl,Q,R⟩,bJ⟩));have M:=eS.out.K bJ;have L:=A (M.K (fu a (.cells (e3 j f.nm g f.k f.n f.dH f.ds c r d) 251)));have u:=c7 a (.cells (e3 j f.nm g f.k f.n f.dH f.ds c r d) 251);have X:=A (Q.K (fu a (.cells (e3 j f.nm g f.k f.n f.dH f.ds c r d) 251)));have Y:=A (pw.K R (fu a (.cells (e3 j f.nm g f.k f.n f.dH f.ds c r d) 251)));clear M bJ eS Q R E;generalize a.heap.size=jq at*;generalize a.alloc (.cells (e3 j f.nm g f.k f.n f.dH f.ds c r d) 251)=G at*;replace u:=A u;clear X Y rF T;obtain⟨-,-,-,f3,wW⟩:=ai_ u;have qv:=A (UT f.dH f.ds G);have zU:w.heap.size<=G.heap.size:=L.out.b.size;go_wp2_with (go_at_call 477;(with_reducible refine qv.out.mono ?_);rintro e Ax ⟨rfl,Z⟩;have J:=A (L.out.K Z);have x:=J.out.o;let⟨hf,dn,dR,fy,gG,hg,hj⟩:=eU x;let⟨z0,cC,dC,z3,z4,z5,eJ⟩:=hp x);refine gd (j5 (fn:=f415) rfl _ _ w 44 _ (0,0) _ _ rfl rfl (iJ x _ _ _ _ _ _ _) k2 rfl jk) rfl ?_;exact⟨e_.some _ _ _ (aR.jb _ 1 _ 2 bX f.dH f.ds 0 none 0 none 0) S,iU J.out.b z _ _ _ _ _ _ _⟩}
 exact GR
variable{B:Nat->Prop}{d cl cc rl rc:Nat}{w:Γ}{bN c:Int}{ca ra:Θ}
def aR.kind{v:bs}{b f:Int}{a:Ψ}(h:aR B d w (bC bN a b f c ca cl cc ra rl rc) v):v.kind=bN:=by
 let⟨k,s,N,S,n,cs,aG⟩:=v;let⟨_,_,_,_,e,_⟩:=h.gX;injection e with e
 injection e with e _
 injection e with _ e
 exact e.symm
def aR.arR{v:bs}{F:Ω}(h:aR B d w F v):∃k s N S n ca cl cc ra rl rc,F=bC k s N S n ca cl cc ra rl rc:=by let⟨k,s,N,S,n,cs,aG⟩:=v;let⟨_,_,_,_,e,_⟩:=h.gX;exact⟨_,_,_,_,_,_,_,_,_,_,_,e⟩
def azp{m:Nat}{v:bs}{F:Ω}(ar:e9 m v){w:Γ}(h:aR aD 1 w F v)(a:v.kind=0):χ 475 #[.agg F] w λe w'=>ahF e:=by
 cases ar with
 |gY e af H=>obtain⟨_,_,_,_,rfl,_⟩:=h.gX;exact ajV _ _ _ _ _ af H w
 |_=>exact absurd a (by simp[bs.kind,hX,gR,kD,lX,jl])
def awQ(m:Nat)(op aO:Ψ)(ee:List Nat)(f:yZ)(w:Γ)(bA:Φ)(ca:Θ)(cl cc:Nat)(M:Θ)(rl rc:Nat) (pq:∀W,β w W->Calls prog 120 #[.string op,.string aO,bA,.slice ca cl cc] W λe w'=>Di ee e w'/\β W w') (pn:∀W,Calls prog 193 #[.string op,.string aO] W λe w'=>Dh f e w'/\β W w') (kG:∀k∈ee,1<=k)(Z:Θ)(ac:Nat)(l:List bs)(X:∀v∈l,∃n,e9 n v)(h:cm aD (aR aD 1) w Z l) (Jc:(op.toList==[105,102])=false)(Nt:(op.toList==[99,111,108])=true)(cs:List (Ψ×Nat))(gs:cs.length=cl)(L:Go.di.jy w ca cs)(ai:cs.length<=8)(S:∃x∈cs,x.1=aO)(R:List bs)(i1:R.length=rl)(U:cs.length=R.length)(I:cm aD (aR aD 1) w M R)(P:∀v∈R,e9 m v): Calls prog 415 #[.string op,.string aO,.slice Z l.length ac,bA,.slice ca cl cc,.slice M rl rc] w λe w'=>e_ w.heap.size m e w'/\β w w':=by
 have E:=A (wv.start w);have bp:=A pq;have bP:=A pn;have pp:=A λW (a:β w W)=>(cm.K (aR.mono aD 1) h a).2;have sR:=A X;have e8:=h.1;have AX:=A kG;subst gs;subst i1;have ah:=A λW (a:β w W)=>azD cs R W ca M cc rc (L.K a) ai (λv J=>⟨m,P v J⟩) (cm.K (aR.mono aD 1) I a);have In:=A λW (a:β w W)=>axT W ca cc cs aO (L.K a) ai S;have af:=A λW (a:β w W)=>(cm.K (aR.mono aD 1) I a).2;have aA:=A P;have aB:=A U;have ay:Hid (0<R.length):=A (by obtain⟨x,aa,_⟩:=S;have:=List.length_pos_of_mem aa;omega);clear L S I P U;clear pq pn h X kG;go_enter HR,HT;go_upto_region 1 with fail
 generalize w.alloc (.cells fo 44)=am at E|-;have aV:=E.out.b;go_upto_region 2 with(go_at_call 120;refine(bp.out _ aV).mono ?_;rintro e ap ⟨⟨J6,J7,J8,rfl,g'⟩,bu⟩;generalize rI:ee.length=ob)
 have e0:=A (E.out.K bu);clear bp E aV bu;by_cases df:l.length=ob
 .have dA:((l.length:Int) !=(ob:Int))=false:=by simp[df]
  have gi:=A λW (a:β ap W)=>(g'.K a).2;clear g';go_wp2;go_loopw [20,21] (λi _ wr=>∃k:Nat,k<=l.length/\i=.int .i64 k/\β ap wr/\pu ee l k) (λi _ _=>l.length-(RowKit.intOf i).toNat);case atStart=>exact⟨0,dh _,rfl,bl _ _,pu.zero _ _⟩
  case round=>
   obtain⟨k,aF,rfl,bm,qO⟩:=hrel;have eS:=A (e0.out.K bm);by_cases au:k<l.length
   .exact Ke
   .have rF:wE ee l:=qO.all (df.trans rI.symm) z;have dO:=bm.size;clear qO gi pp sR e0 bm;go_upto_region 22 with(go_at_call 193;refine(bP.out _).mono ?_;rintro e d ⟨⟨u,t,r,C,s,rfl,qR,qg⟩,bJ⟩)
    have jp:=eS.out.K bJ;have O:=A (jp.K (fu d (.cells (e3 u f.nm.length t f.k f.n f.dH f.ds r C s) 251)));have bR:=c7 d (.cells (e3 u f.nm.length t f.k f.n f.dH f.ds r C s) 251);have lG:=A (qR.K (fu d (.cells (e3 u f.nm.length t f.k f.n f.dH f.ds r C s) 251)));have lJ:=A (pw.K qg (fu d (.cells (e3 u f.nm.length t f.k f.n f.dH f.ds r C s) 251)));clear jp bJ eS qR qg bP;generalize d.heap.size=jq at*;generalize d.alloc (.cells (e3 u f.nm.length t f.k f.n f.dH f.ds r C s) 251)=br at*;clear bR lG lJ rF dO;have D:=ah.out br O.out.b;replace D:=A D;go_upto_region 25 with(go_at_call 474;(with_reducible refine D.out.mono ?_);rintro e w7 ⟨⟨aC,rfl⟩,ha⟩)
    have g:=A (O.out.K ha);clear O D ah ha;cases aC with
    |false=>
     have N:=g.out.o;obtain⟨hf,dn,dR,fy,gG,hg,hj⟩:=eU N;obtain⟨z0,cC,dC,z3,z4,z5,eJ⟩:=hp N
     go_wp2;refine gd (j5 (fn:=f415) rfl _ _ w.heap.size 44 _ (0,0) _ _ rfl rfl (iJ N _ _ _ _ _ _ _) k2 rfl jk) rfl ?_;exact⟨e_.none _ _ _ 1 al al,iU g.out.b z _ _ _ _ _ _ _⟩
    |true=>
     go_upto_region 27 with fail
     have ad:=A (In.out w7 g.out.b);obtain⟨rb,aK,rfl,_,iR,kU⟩:=af.out w7 g.out.b ay.out;have ae:=A kU;have ax:rb<w7.heap.size:=iR;clear kU af iR;go_upto_region 28 with(go_at_call 194;(with_reducible refine ad.out.mono ?_);rintro e y ⟨⟨j,ab,rfl,JJ⟩,av⟩;have aj:j<R.length:=(by have:=aB.out;omega);obtain⟨bN,bH,bL,cL,bT,fq,mB,fs,e5,mO,e6,ag,V⟩:=ae.out j aj;have ar:=aA.out _ (fp aj);generalize R[j]=v at*;have ig:=A ag;have cp:=A ar;subst av;have eQ:=V.bi;have dB:=V.c1;have dF:=V.c2;have gB:=V.c3;have hI:=V.c4;have h8:=V.c5;have iI:=V.fe;have gQ:(0:Int)<=(j:Int):=z;have gb:(j:Int)<R.length:=z;clear ag ar V JJ)
     have T:=fu w7 (.cells (bC bN bH bL cL bT fq mB fs e5 mO e6) 44);have F:=A (g.out.K T);have H:=A (ig.out.K T);have Y:=c7 w7 (.cells (bC bN bH bL cL bT fq mB fs e5 mO e6) 44);clear eQ dB dF gB hI h8 iI ig g ae ax T gQ gb ad;generalize w7.heap.size=wk at*;generalize w7.alloc (.cells (bC bN bH bL cL bT fq mB fs e5 mO e6) 44)=y at*;obtain⟨fi,b_,cv,ek,il,lm,kJ⟩:=eU Y;clear Y;by_cases TP:bN=0
     .subst TP;have CR:=A (azp cp.out H.out H.out.kind)
      go_wp2_with (go_at_call 475;(with_reducible refine CR.out.mono ?_);rintro e Ax ⟨⟨sp,rfl,an,aq⟩,Q⟩;have B:=A (F.out.K Q);have c:=B.out.o;obtain⟨hf,dn,dR,fy,gG,hg,hj⟩:=eU c;obtain⟨z0,cC,dC,z3,z4,z5,eJ⟩:=hp c);refine gd (j5 (fn:=f415) rfl _ _ w.heap.size 44 _ (0,0) _ _ rfl rfl (iJ c _ _ _ _ _ _ _) k2 rfl jk) rfl ?_;exact⟨e_.none _ _ _ sp an aq,iU B.out.b z _ _ _ _ _ _ _⟩
     .have aG:(bN==0)=false:=by simpa using TP
      have zU:w.heap.size<=y.heap.size:=F.out.b.size;have kr:w.heap.size<y.heap.size:=bM F.out.o;have yW:=A (I4 0 y _ _ H.out)
      go_wp2_with (go_at_call 67;(with_reducible refine yW.out.mono ?_);rintro e Ax ⟨⟨aH,rfl,G⟩,Q⟩;obtain⟨ii,bU,kl,mf,kE,mD,mh,mE,mF,mj,mG,rfl⟩:=G.arR;have AV:=A G;clear G;have B:=A (F.out.K Q);have c:=B.out.o;obtain⟨hf,dn,dR,fy,gG,hg,hj⟩:=eU c;obtain⟨z0,cC,dC,z3,z4,z5,eJ⟩:=hp c);refine gd (j5 (fn:=f415) rfl _ _ w.heap.size 44 _ (0,0) _ _ rfl rfl (iJ c _ _ _ _ _ _ _) k2 rfl jk) rfl ?_;exact⟨e_.put (base:=y.heap.size) (e_.some _ _ _ AV.out cp.out) kr zU,iU B.out.b z _ _ _ _ _ _ _⟩
 .exact GR
def aw8{m:Nat}{a N S n:Int}{s:Ψ}{cs:List Ψ}{aG:List (List bs)}(ar:e9 m (.mk a s N S n cs aG))(d:a=4){g i:Int}{f:Ψ}(h:aR aD 1 w (bC bN f g i c ca cl cc ra rl rc) (.mk a s N S n cs aG)):c=0∨c=1:=by
 let⟨_,_,_,_,e,_⟩:=h.gX;injection e with e
 injection e with _ e
 injection e with _ e
 injection e with _ e
 injection e with _ e
 injection e with e _
 injection e with _ e
 subst d e;cases ar with
 |lX b G=>exact G
def awR(m:Nat)(op aO:Ψ)(g:List Nat)(f:yZ)(w:Γ)(bA:Φ)(ca:Θ)(cl cc:Nat)(fv:Θ)(rl rc:Nat) (pq:∀W,β w W->χ 120 #[op,aO,bA,.slice ca cl cc] W (Di g)) (pn:∀W,χ 193 #[op,aO] W (Dh f)) (kG:∀k∈g,1<=k)(Y:Θ)(ac:Nat)(l:List bs)(V:∀v∈l,∃n,e9 n v)(h:cm aD (aR aD 1) w Y l) (Jc:(op.toList==[105,102])=true)(Gp:g.length=3)(U:∀v∈l,e9 m v): χ 415 #[op,aO,.slice Y l ac,bA,.slice ca cl cc,.slice fv rl rc] w (e_ w m):=by
 have y:=A (wv.start w);have bp:=A pq;have bP:=A pn;have R:=A λW (M:β w W)=>(cm.K (aR.mono aD 1) h M).2;have sR:=A V;have e8:=h.1;have T:=A kG;have D:=A U;clear U;clear pq pn h V kG;go_enter HR,HT;go_upto_region 1 with fail
 generalize w.alloc (.cells fo 44)=am at y|-;have Z:=y.out.b;go_upto_region 2 with(go_at_call 120;refine(bp.out _ Z).mono ?_;rintro e u ⟨⟨J6,J7,J8,rfl,g'⟩,bu⟩;generalize rI:g.length=ob)
 have e0:=A (y.out.K bu);clear bp y Z bu;by_cases df:l.length=ob
 .have dA:((l.length:Int) !=(ob:Int))=false:=by simp[df]
  have P:=A λW (M:β u W)=>(g'.K M).2;clear g';have n6:l.length=3:=z;have aa:ob=3:=z;subst aa;obtain⟨dK,c,rfl,_,iE,h4⟩:=R.out _ e0.out.b z;obtain⟨C,aq,rfl,X,Gq⟩:=P.out _ (bl _ _) z;let⟨bN,bH,bL,cL,bT,fq,mB,fs,e5,mO,e6,ag,d⟩:=h4 0 z;have eQ:=d.bi;have dB:=d.c1;have dF:=d.c2;have gB:=d.c3;have Q:=d.c4;have h8:=d.c5;have iI:=d.fe;simp only[vh,hY]at eQ dB dF gB Q h8 iI;have wb:dK<u.heap.size:=iE;have ad:C<u.heap.size:=X;have B:=D.out l[0] (fp _);have C7:=A d;clear d;rw[n6];generalize BJ:l[0]=v0 at*;let⟨HL,vs,ae,af,ai,ah,aj⟩:=v0;have p0:=A (Sr HL ae af ai vs ah aj B 4 z _ _ ag);go_upto_region 8 with(go_at_call 473;refine(p0.out).mono ?_;rintro e bh ⟨⟨S,rfl,oF,lD,l3⟩,x⟩)
  have nk:=A (e0.out.K x);by_cases qP:S=0
  .subst qP;have tu:=aw8 B (l3 rfl) ag;have i7:=A x;let⟨cQ,kX,Y4,_,s,t⟩:=R.out _ nk.out.b z;let⟨au,ar,an,q,r⟩:=P.out _ i7 z;cases Y4;cases an;have az8:=aA x wb Q;clear h4 Gq R P ag B C7 iE X eQ dB dF gB Q h8 iI x wb ad p0 BJ;rcases tu with rfl|rfl
   .obtain⟨dx,g6,dd,eb,eW,nt,FE,n0,ln,G',lo,i,a⟩:=t 2 z;have j:=D.out l[2] (fp _);have ab:=T.out g[2] (fp _);have t0:=r 2 z;generalize l[2]=O at*;generalize g[2]=N at*;have gg:=a.bi;have cr:=a.c1;have dy:=a.c2;have ew:=a.c3;have im:=a.c4;have uY:=a.c5;have xt:=a.fe;have abJ:dK<bh.heap.size:=s;have anO:C<bh.heap.size:=q;have ru:=A i;have ni:=A j;clear a t r i j s q;simp only[Nat.reduceMul]at gg cr dy ew im uY xt;let⟨H,L,E,F,I,G,J⟩:=O;go_upto_region 11 with fail
    go_still_tail 8,aw;change wpList _ _ _ _ _ bh.drew;have bJ:=lk bh;have qC:=A (nk.out.K bJ);have vn:=A (ru.out.K bJ);have AP:=A (Sr H E F I L G J ni (N:Int) z _ _ vn);have gW:bh.drew.cell? ⟨dK,c+14,none⟩=_:=gg;have eM:bh.drew.cell? ⟨dK,c+14+1,none⟩=_:=cr;have ft:bh.drew.cell? ⟨dK,c+14+2,none⟩=_:=dy;have hJ:bh.drew.cell? ⟨dK,c+14+3,none⟩=_:=ew;have kR:bh.drew.cell? ⟨dK,c+14+4,none⟩=_:=im;have mC:bh.drew.cell? ⟨dK,c+14+5,none⟩=_:=uY;have p':bh.drew.cell? ⟨dK,c+14+6,none⟩=_:=xt;exact aoV
   .obtain⟨dx,g6,dd,eb,eW,nt,FE,n0,ln,G',lo,i,a⟩:=t 1 z;have j:=D.out l[1] (fp _);have ab:=T.out g[1] (fp _);have t0:=r 1 z;generalize l[1]=O at*;generalize g[1]=N at*;have gg:=a.bi;have cr:=a.c1;have dy:=a.c2;have ew:=a.c3;have im:=a.c4;have uY:=a.c5;have xt:=a.fe;have abJ:dK<bh.heap.size:=s;have anO:C<bh.heap.size:=q;have ru:=A i;have ni:=A j;clear a t r i j s q;simp only[Nat.reduceMul]at gg cr dy ew im uY xt;let⟨H,L,E,F,I,G,J⟩:=O;go_upto_region 11 with fail
    go_still_tail 8,aw;change wpList _ _ _ _ _ bh.drew;have bJ:=lk bh;have qC:=A (nk.out.K bJ);have vn:=A (ru.out.K bJ);have AP:=A (Sr H E F I L G J ni (N:Int) z _ _ vn);have gW:bh.drew.cell? ⟨dK,c+7,none⟩=_:=gg;have eM:bh.drew.cell? ⟨dK,c+7+1,none⟩=_:=cr;have ft:bh.drew.cell? ⟨dK,c+7+2,none⟩=_:=dy;have hJ:bh.drew.cell? ⟨dK,c+7+3,none⟩=_:=ew;have kR:bh.drew.cell? ⟨dK,c+7+4,none⟩=_:=im;have mC:bh.drew.cell? ⟨dK,c+7+5,none⟩=_:=uY;have p':bh.drew.cell? ⟨dK,c+7+6,none⟩=_:=xt;exact aoV
  .have ak:(S !=0)=true:=by simpa using qP
   have ec:=nk.out.o;let⟨hf,dn,dR,fy,gG,hg,hj⟩:=eU ec;let⟨z0,cC,dC,z3,z4,z5,eJ⟩:=hp ec;go_wp2;refine gd (j5 (fn:=f415) rfl _ _ w 44 _ (0,0) _ _ rfl rfl (iJ ec _ _ _ _ _ _ _) k2 rfl jk) rfl ?_;exact⟨e_.none _ _ _ S z lD,iU nk.out.b z _ _ _ _ _ _ _⟩
 exact GR
end Go.bE
namespace Go.bE
open Go Go.Proofs Go.RowKit Go.Lib Go.aM
open Go.di (c8 bD jy)
open Go.bk.N (l_)
def aF'(S:c8)(g:Nat)(j:List Nat)(z:fZ S ⟨g,⟨#[99,111,110,99,97,116]⟩,⟨#[]⟩,j⟩ [1,1]=true)(B:g4 ⟨[],0,0,0,0,none⟩ (g5 ⟨#[99,111,110,99,97,116]⟩ ⟨#[]⟩)=true):l9 S ⟨g,⟨#[99,111,110,99,97,116]⟩,⟨#[]⟩,j⟩:=by intro m w f ca cc q t y rc R L P Q e ac l fS i c;have u:=λW (d:β w W)=>q_ S _ _ z W f ca cc (q.K d) (t.K d);have A:=λW=>q6 _ _ _ B W;refine Sq m ⟨#[99,111,110,99,97,116]⟩ ⟨#[]⟩ [1,1] ⟨[],0,0,0,0,none⟩ w f ca _ cc y _ rc u A al e ac l i.any c dV dV dV dV dV dV (by simp only[j7,gJ,k3];decide) (λk W K J E M G d D ag=>?_);have c:=cm.K (aR.mono aD 1) c d;obtain⟨N,O,a,b,rfl,x,bN,r,n,H,I,C,F⟩:=i.k0 k;obtain⟨bY,rfl,t0⟩:=r.GY x;obtain⟨o,rfl,s⟩:=n.GY bN;exact aKO _ _ _ _ _ _ _ _ _ _ _ m bY o t0 s W e ac c
def apY(S:c8)(g:Nat)(i:List Nat)(t:fZ S ⟨g,⟨#[117,112,112,101,114]⟩,⟨#[]⟩,i⟩ [1]=true)(x:g4 ⟨[],0,0,0,0,none⟩ (g5 ⟨#[117,112,112,101,114]⟩ ⟨#[]⟩)=true):l9 S ⟨g,⟨#[117,112,112,101,114]⟩,⟨#[]⟩,i⟩:=by intro m w e ca cc k o s rc R E G J d ac l fS f b;have q:=λW (c:β w W)=>q_ S _ _ t W e ca cc (k.K c) (o.K c);have u:=λW=>q6 _ _ _ x W;refine Sq m ⟨#[117,112,112,101,114]⟩ ⟨#[]⟩ [1] ⟨[],0,0,0,0,none⟩ w e ca _ cc s _ rc q u al d ac l f.any b dV dV dV dV dV dV (by simp only[j7,gJ,k3];decide) (λj W D C z F B c y ag=>?_);have b:=cm.K (aR.mono aD 1) b c;obtain⟨v,a,rfl,r,n,H,I,A⟩:=f.xn j;obtain⟨bY,rfl,t0⟩:=n.GY r;exact aKR _ _ _ _ _ _ _ _ _ _ _ m bY t0 W d ac b
def aGc(S:c8)(g:Nat)(i:List Nat)(t:fZ S ⟨g,⟨#[101,120,116,114,97,99,116]⟩,⟨#[92,100,43,35,49]⟩,i⟩ [1]=true)(x:g4 ⟨[],0,1,0,0,some 1⟩ (g5 ⟨#[101,120,116,114,97,99,116]⟩ ⟨#[92,100,43,35,49]⟩)=true):l9 S ⟨g,⟨#[101,120,116,114,97,99,116]⟩,⟨#[92,100,43,35,49]⟩,i⟩:=by intro m w e ca cc k o s rc R E G J d ac l fS f b;have q:=λW (c:β w W)=>q_ S _ _ t W e ca cc (k.K c) (o.K c);have u:=λW=>q6 _ _ _ x W;refine Sq m ⟨#[101,120,116,114,97,99,116]⟩ ⟨#[92,100,43,35,49]⟩ [1] ⟨[],0,1,0,0,some 1⟩ w e ca _ cc s _ rc q u al d ac l f.any b dV dV dV dV dV dV (by simp only[j7,gJ,k3];decide) (λj W D C z F B c y ag=>?_);have b:=cm.K (aR.mono aD 1) b c;obtain⟨v,a,rfl,r,n,H,I,A⟩:=f.xn j;obtain⟨bY,rfl,t0⟩:=n.GY r;obtain⟨rfl,ag⟩:=ag;exact aKP _ _ _ _ 0 _ _ _ 0 _ _ m bY t0 1 (.inl rfl) W d ac b ag
def aGg(S:c8)(g:Nat)(i:List Nat)(t:fZ S ⟨g,⟨#[109,97,116,99,104]⟩,⟨#[92,117,43]⟩,i⟩ [1]=true)(x:g4 ⟨[],0,0,0,0,some 2⟩ (g5 ⟨#[109,97,116,99,104]⟩ ⟨#[92,117,43]⟩)=true):l9 S ⟨g,⟨#[109,97,116,99,104]⟩,⟨#[92,117,43]⟩,i⟩:=by intro m w e ca cc k o s rc R E G J d ac l fS f b;have q:=λW (c:β w W)=>q_ S _ _ t W e ca cc (k.K c) (o.K c);have u:=λW=>q6 _ _ _ x W;refine Sq m ⟨#[109,97,116,99,104]⟩ ⟨#[92,117,43]⟩ [1] ⟨[],0,0,0,0,some 2⟩ w e ca _ cc s _ rc q u al d ac l f.any b dV dV dV dV dV dV (by simp only[j7,gJ,k3];decide) (λj W D C z F B c y ag=>?_);have b:=cm.K (aR.mono aD 1) b c;obtain⟨v,a,rfl,r,n,H,I,A⟩:=f.xn j;obtain⟨bY,rfl,t0⟩:=n.GY r;obtain⟨rfl,ag⟩:=ag;exact aKQ _ _ _ _ _ _ _ _ 0 _ _ m bY t0 2 (.inr rfl) W d ac b ag
def aGd(S:c8)(g:Nat)(d:List Nat)(o:fZ S ⟨g,⟨#[105,102]⟩,⟨#[116,101,120,116]⟩,d⟩ [4,1,1]=true)(r:g4 ⟨[],1,0,0,0,none⟩ (g5 ⟨#[105,102]⟩ ⟨#[116,101,120,116]⟩)=true):l9 S ⟨g,⟨#[105,102]⟩,⟨#[116,101,120,116]⟩,d⟩:=by intro m w b ca cc i j n rc R s t u f ac l fS c e;have k:=λW (a:β w W)=>q_ S _ _ o W b ca cc (i.K a) (j.K a);have q:=λW=>q6 _ _ _ r W;exact awR m ⟨#[105,102]⟩ _ [4,1,1] ⟨[],1,0,0,0,none⟩ w b ca _ cc n _ rc k q al f ac l c.any e dV rfl c.all
def PL(S:c8)(g:Nat)(aO:Ψ)(c:List Nat)(o:fZ S ⟨g,⟨#[116,101,120,116]⟩,aO,c⟩ []=true)(r:g4 ⟨[],0,0,0,0,none⟩ (g5 ⟨#[116,101,120,116]⟩ aO)=true)(ar:kC aO):l9 S ⟨g,⟨#[116,101,120,116]⟩,aO,c⟩:=by intro m w b ca cc f j n rc R s t u e ac l fS i d;have k:=λW (a:β w W)=>q_ S _ _ o W b ca cc (f.K a) (j.K a);have q:=λW=>q6 _ _ _ r W;exact awT m ⟨#[116,101,120,116]⟩ _ [] ⟨[],0,0,0,0,none⟩ w b ca _ cc n _ rc k q aq e ac l i.any d dV dV dV (.hX aO ar)
def acE(n:Nat)(S:c8)(g:Nat)(aO:Ψ)(d:List Nat)(q:fZ S ⟨g,⟨#[110,117,109,98,101,114]⟩,aO,d⟩ []=true)(s:g4 ⟨[],0,0,n,0,none⟩ (g5 ⟨#[110,117,109,98,101,114]⟩ aO)=true)(u:n<=1000):l9 S ⟨g,⟨#[110,117,109,98,101,114]⟩,aO,d⟩:=by intro m w b ca cc i j o rc R x y A f ac l fS c e;have k:=λW (a:β w W)=>q_ S _ _ q W b ca cc (i.K a) (j.K a);have r:=λW=>q6 _ _ _ s W;have t:=c.sum;exact awS m ⟨#[110,117,109,98,101,114]⟩ _ [] ⟨[],0,0,n,0,none⟩ w b ca _ cc o _ rc k r aq f ac l c.any e dV dV dV dV (e9.mono (n:=1) (.gR n 0 (by simp only[hC];omega) z z) z)
def rV(S:c8)(g:Nat)(aO:Ψ)(e:List Nat)(r:fZ S ⟨g,⟨#[99,111,108]⟩,aO,e⟩ []=true)(t:g4 ⟨[aO],0,0,0,0,none⟩ (g5 ⟨#[99,111,108]⟩ aO)=true)(A:∃x∈S.bB,x.1=aO)(n:S.bB.length<=8):l9 S ⟨g,⟨#[99,111,108]⟩,aO,e⟩:=by intro m w b ca cc j d q rc R k u y i ac l fS c f;have o:=λW (a:β w W)=>q_ S _ _ r W b ca cc (j.K a) (d.K a);have s:=λW=>q6 _ _ _ t W;have B:=c.sum;exact awQ m ⟨#[99,111,108]⟩ _ [] ⟨[aO],0,0,0,0,none⟩ w b ca _ cc q _ rc o s aq i ac l c.any f dV dV S.bB rfl d n A R rfl u k (λv J=>(y v J).mono z)
end Go.bE
namespace Go.bE
open Go Go.Proofs.Tryz Go.Proofs Go.RowKit Go.Lib Go.aM
def Sp(m:Nat)(op aO:Ψ)(ee:List Nat)(f:yZ)(w:Γ)(H:Φ)(ca:Θ)(cl cc:Nat)(fv:Θ)(rl rc:Nat) (pq:∀W,β w W->χ 120 #[op,aO,H,.slice ca cl cc] W (Di ee)) (pn:∀W,χ 193 #[op,aO] W (Dh f)) (kG:∀k∈ee,1<=k)(G:Θ)(ac:Nat)(l:List bs)(Q:∀v∈l,∃n,e9 n v)(h:cm aD (aR aD 1) w G l) (Jc:(op.toList==[105,102])=false)(Nt:(op.toList==[99,111,108])=false)(SZ:(op.toList==[116,101,120,116])=false)(Y0:(op.toList==[110,117,109,98,101,114])=false)(ab:(op.toList==[100,97,116,101])=false)(ad:(op.toList==[98,111,111,108])=false)(mq:op∉j7)(w_:op∈nK) (iv:wE ee l->∀W j t g r s,β w W->g0 aD W j f.nm->pw W g r f.p->χ 482 #[op,.agg (e3 j f.nm t f.k f.n f.dH f.ds g r s),H,.slice G l ac] W (e_ W m)): χ 415 #[op,aO,.slice G l ac,H,.slice ca cl cc,.slice fv rl rc] w (e_ w m):=by
 have E:=A (wv.start w);have bp:=A pq;have bP:=A pn;have qx:=A iv;have pp:=A λW (d:β w W)=>(cm.K (aR.mono aD 1) h d).2;have sR:=A Q;have e8:=h.1;have AX:=A kG;have Mf:=A mq;clear mq;have Xp:=A w_;clear w_;clear pq pn iv h Q kG;go_enter HR,HT;go_upto_region 1 with fail
 generalize w.alloc (.cells fo 44)=am at E|-;have Z:=E.out.b;go_upto_region 2 with(go_at_call 120;refine(bp.out _ Z).mono ?_;rintro e ap ⟨⟨J6,J7,J8,rfl,g'⟩,bu⟩;generalize rI:ee.length=ob)
 have e0:=A (E.out.K bu);clear bp E Z bu;by_cases I:l.length=ob
 .have dA:((l.length:Int) !=(ob:Int))=false:=by simp[I]
  have gi:=A λW (d:β ap W)=>(g'.K d).2;clear g';go_wp2;go_loopw [20,21] (λi _ wr=>∃k:Nat,k<=l.length/\i=.int .i64 k/\β ap wr/\pu ee l k) (λi _ _=>l.length-(RowKit.intOf i).toNat);case atStart=>exact⟨0,dh _,rfl,bl _ _,pu.zero _ _⟩
  case round=>obtain⟨k,aa,rfl,bm,qO⟩:=hrel;have eS:=A (e0.out.K bm);by_cases au:k<l;exact Ke;{(have rF:wE ee l:=qO.all (I.trans rI.symm) z;have dO:=bm.size;clear qO gi pp sR e0 bm;go_upto_region 22 with(go_at_call 193;refine(bP.out _).mono ?_;rintro e C ⟨⟨j,t,g,r,s,rfl,qR,qg⟩,bJ⟩));(have jp:=eS.out.K bJ;have c:=A (jp.K (fu C (.cells (e3 j f.nm t f.k f.n f.dH f.ds g r s) 251)));have a:=c7 C (.cells (e3 j f.nm t f.k f.n f.dH f.ds g r s) 251);have u:=A (qR.K (fu C (.cells (e3 j f.nm t f.k f.n f.dH f.ds g r s) 251)));have x:=A (pw.K qg (fu C (.cells (e3 j f.nm t f.k f.n f.dH f.ds g r s) 251)));clear jp bJ eS qR qg bP;generalize C.heap.size=jq at*;generalize C.alloc (.cells (e3 j f.nm t f.k f.n f.dH f.ds g r s) 251)=D at*;replace a:=A a;go_upto_region 39 with fail);(have P:g0 aD (D.alloc (.cells (j7.map Value.string).toArray 9)) (some ⟨D,0,none⟩) j7:=Qf D j7 al;have N:=A (MG _ _ 9 j7 op P false ⟨λh=>absurd h al,λh=>absurd h Mf⟩);have y:=A (λ(W:Γ) (e:D.alloc (.cells (j7.map Value.string).toArray 9)=W)=>e▸fu D (.cells (j7.map Value.string).toArray 9));clear P;go_upto_region 41 with(go_at_call 480;refine(N.out).mono ?_;rintro e w7 ⟨rfl,d⟩;replace y:=A (y.out _ d);clear d N));(have J:=A (c.out.K y);have O:=A (LA.PI a y);have L:=A (u.out.K y);have M:=A (pw.K x y);clear y c a u x;have c:=J;have a:=O;have u:=L;have x:=M;clear J O L M;go_upto_region 41 with fail);(have Y:g0 aD (w7.alloc (.cells (nK.map Value.string).toArray 9)) (some ⟨w7,0,none⟩) nK:=Qf w7 nK al;have U:=A (MG _ _ 8 nK op Y true ⟨λ_=>Xp.out,λ_=>rfl⟩);have B:=A (λ(W:Γ) (e:w7.alloc (.cells (nK.map Value.string).toArray 9)=W)=>e▸fu w7 (.cells (nK.map Value.string).toArray 9));clear Y;go_upto_region 42 with(go_at_call 480;refine(U.out).mono ?_;rintro e dc ⟨rfl,d⟩;replace B:=A (B.out _ d);clear d U));have X:=A (c.out.K B);have S:=A (LA.PI a B);have T:=A (u.out.K B);have R:=A (pw.K x B);clear B c a u x;have c:=X;have a:=S;have u:=T;have x:=R;clear X S T R;let⟨lw,h3,hK,f3,wW,f5⟩:=gp a;have F:=qx.out rF dc j t g r s c.out.b u x;rw[I]at F;replace F:=A F;have zU:w.heap.size<=dc.heap.size:=c.out.b.size;have kr:w.heap.size<dc.heap.size:=bM c.out.o;clear qx u x a rF dO;go_wp2_with (go_at_call 482;(with_reducible refine F.out.mono ?_);rintro e Ax ⟨⟨ii,bU,kl,mf,kE,mD,mh,mE,mF,mj,mG,err,rfl,oF,lD,l3⟩,oE⟩;have dv:=A (c.out.K oE);have hF:=dv.out.o;let⟨hf,dn,dR,fy,gG,hg,hj⟩:=eU hF;let⟨z0,cC,dC,z3,z4,z5,eJ⟩:=hp hF);exact apr}
 exact GR
end Go.bE
