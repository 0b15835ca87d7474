/- ItemInForce, one part of the proof. -/
import Derived.Test.YtdhifebhlocikaaGreatDoorP09
set_option linter.all false
set_option maxRecDepth 100000
set_option maxHeartbeats 16000000
namespace Go.bk.N
open Go Go.Proofs.Tryz Go.Proofs Go.RowKit Go.di
variable{w:Γ}{a:Θ}
def _root_.Go.di.rp.am5{l:List Nat}(h:rp w a l)(c:l.length<=1000):Db w a l:=
 ⟨c,λaf=>by
  let⟨b,o,e,G,d⟩:=h af
  exact⟨b,o,e,G,λi hi=>⟨_,d i hi⟩⟩⟩
def at9(r q:bD)(d f:Θ)(ac g:Nat)(w:Γ)(aL:rp w d r.args)(G:rp w f q.args)(H:r.args.length<=3)(I:q.args.length<=3)(hd:Lz r q): χ 190 #[.agg #[r.h,r.op,r.aO,.slice d r.args ac],.agg #[q.h,q.op,q.aO,.slice f q.args g]] w λe w'=>e=.returned (.bool false):=by
 by_cases a:r.args=q.args
 .have k8:=A (λW (c:β w W)=>aDs d f r.args q.args ac g W ((aL.K c).am5 z) ((G.K c).am5 z));by_cases ak:r.h=q.h
  .have c1:((r.h:Int)==(q.h:Int))=true:=by simp[ak]
   by_cases b:r.op=q.op
   .have j:(r.op.toList==q.op.toList)=true:=by simp[b]
    have i:r.aO≠q.aO:=by rcases hd with h|h|h|h;exact absurd ak h;exact absurd b h;exact h;exact absurd a h
    have k:(r.aO.toList==q.aO.toList)=false:=Yc i;clear hd ak b i a;exact ach
   have j:(r.op.toList==q.op.toList)=false:=Yc b;clear hd ak b a;exact ach
  have c1:((r.h:Int)==(q.h:Int))=false:=bw;clear hd ak a;exact ach
 .have k8:=A (λW (c:β w W)=>aDv d f ac g r.args q.args W (aL.K c) (G.K c) z z a);clear hd a;go_enter func190,ntmps190;go_wp2_with (go_at_call 278;refine(k8.out _ (Su _ _ _)).mono ?_;rintro e w' ⟨rfl,YV,rfl⟩);all_goals(go_ret;exact⟨by first|rfl|simp,(Su _ _ _).trans (rq.K ⟨YV,rfl⟩ _)⟩)
def asL(a:Θ)(n c:Nat)(w:Γ)(N:Nat->Ψ)(H:n<=1000)(h:0<n->∃b o,a=some ⟨b,o,none⟩/\b<w/\∀i,i<n->w ⟨b,o+i,none⟩=some (.string (N i)))(f:∀i,i<n->uf (N i))(hd:∀i j,i<j->j<n->N i≠N j):Calls prog 118 #[.slice a n c] w λe w'=>e=.returned (.bool true)/\rq w w':=by
 have l:=A f;have r:=A hd;clear f hd;go_enter func118,ntmps118;go_wp2;go_loopw [3] (λi wr=>∃k:Nat,k<=n/\i=.int .i64 k/\rq w wr) (λi _=>n-(RowKit.intOf i).toNat);case atStart=>exact⟨0,dh _,rfl,0,rfl⟩
 case round=>
  obtain⟨k,t,rfl,q,rfl⟩:=hrel;by_cases au:k<n
  .obtain⟨b,o,rfl,G,d⟩:=h z;have x:=d k au;have g:=A (l.out k au);have D:(k:Int)<n:=z;go_wp2_with (go_at_call 116;refine(Ps _ _ g).mono ?_;rintro e w' ⟨rfl,rfl⟩)
   .go_loopw [5] (λj wr=>∃m:Nat,m<=k/\j=.int .i64 m/\rq w wr) (λj _=>k-(RowKit.intOf j).toNat);case atStart=>exact⟨0,dh _,rfl,q,rfl⟩
    case round=>
     obtain⟨m,y,rfl,C,rfl⟩:=hrel;by_cases s:m<k
     .have u:=d m z;have B:=Yc (r.out m k s au);have F:(0:Int)<=(m:Int):=z;have E:(m:Int)<n:=z;have I:(0:Int)<=(k:Int):=z;go_wp2;go_quiet (fail)
      go_wp2;all_goals first
       |(
        go_roundw
        case rel=>exact⟨m+1,z,bz,_,(by first|rfl|exact World.drewN_drewN _ _ _)⟩
        case measure=>simp[RowKit.intOf];omega)
       |(refine⟨⟨m+1,z,bz,_,rfl⟩,?_⟩;simp[intOf];omega)
     exact aEH
  .go_wp2;all_goals(go_ret;exact⟨rfl,q,rfl⟩)
def at8(nm dk cs an:Φ)(l ra:Θ)(ss:List (Ψ×Nat))(M:Nat->Nat)(rs:List bD)(s rc k:Nat)(w:Γ)(T:s4 w l ss M)(Q:∀c∈ss,uf c.1)(o2:ss.length<=12)(dE:wH w ra rs)(vV:rs.length<=40)(C:∀r∈rs,ahI ss.length r)(S:∀i j (hi:i<rs.length) (ab:j<rs.length),i<j->Lz rs[i] rs[j])(B:k<rs.length): Calls prog 119 #[.agg #[nm,dk,cs,.slice l ss.length s,.slice ra rs.length rc,an],.int .i64 k] w λe w'=>e=.returned (.bool true)/\β w w':=by
 obtain⟨b,o,rfl,G,x⟩:=dE;obtain⟨D,ac,r⟩:=x k B;have N:=A (λW (u:β w W) (i:Nat) (hi:i<ss.length)=>aKg nm dk cs (.slice (some ⟨b,o,none⟩) rs.length rc) an l ss M s i W (T.K u) Q hi o2);have a:=C _ (fp B);have af:=A a.op;have O:=A a.aO;have ag:=A a.args;have Y:=a.iZ;have ck:=a.h;have X:=A (λi (hi:i<rs.length)=>(C _ (fp hi)).iZ);have iK:=A S;have gM:=A x;have K:=A r.args;have gQ:(k:Int)<rs.length:=z;have dZ:(0:Int)<=(k:Int):=z;have bi:=r.bi;have c1:=r.c1;have c2:=r.c2;have c3:=r.c3;have o4:decide (3<(rs[k].args.length:Int))=false:=bw;have U:∀R P,β w ((w.alloc R).alloc P):=λR P=>((bl _ _).alloc (aY _) _).alloc aq _;clear T Q C a S x r;go_enter func119,ntmps119
 go_wp2_with (first
  |(go_at_call 116;refine(Ps _ _ af.out).mono ?_;rintro e w' ⟨rfl,rfl⟩)
  |(go_at_call 189;refine(aGR _ _ O.out.1 O.out.2).mono ?_;rintro e w' ⟨rfl,rfl⟩)
  |(go_at_call 191;refine(N.out _ (U _ _) _ ck).mono ?_;rintro e w3 ⟨⟨aa,rfl,jc⟩,bj⟩))
 have JY:w.heap.size+2<=w3.heap.size:=by have:=bj.size;simp at this;omega
 have aQ:Lr w3 w.heap.size (w.heap.size+1) #[nm,dk,cs,.slice l ss.length s,.slice (some ⟨b,o,none⟩) rs.length rc,an] #[.int .i64 rs[k].h,.string rs[k].op,.string rs[k].aO,.slice D rs[k].args.length ac]:=by refine⟨z,z,?_,?_⟩;{exact aEN};{rw[bj.block _ (by simp only[jt];omega)];have:=c7 (w.alloc (.cells #[nm,dk,cs,.slice l ss.length s,.slice (some ⟨b,o,none⟩) rs.length rc,an] 29)) (.cells #[.int .i64 rs[k].h,.string rs[k].op,.string rs[k].aO,.slice D rs[k].args.length ac] 101);exact ao4}
 have t':β w w3:=(U _ _).trans (bj.mono bw);clear bj;try rw[show(aa.toList==[32])=false by assumption]
 go_loopw [8] (λi wr=>∃j:Nat,j<=rs[k].args.length/\i=.int .i64 j/\β w3 wr) (λi _=>rs[k].args.length-(RowKit.intOf i).toNat);case atStart=>exact⟨0,dh _,rfl,bl _ _⟩
 case round=>
  obtain⟨q,rfl⟩:∃q:Γ,q=wr:=⟨_,rfl⟩;obtain⟨j,ab,rfl,d⟩:=hrel;have F:=aQ.K d;have I:β w q:=t'.trans (d.mono z);have hJ:=aN 3 F.2.2.2;by_cases au:j<rs[k].args.length
  .obtain⟨dK,eL,rfl,iE,V⟩:=(K.out.K I) z;have lC:=V j au;have Z:=ag.out _ (fp au);obtain⟨dA,ak,aI,bv,cI,h2⟩:=gp F.2.2.1;have m':(0:Int)<=(j:Int):=z;have l4:(j:Int)<(rs[k].args.length:Int):=z;have pa:(j:Int)<=1000:=z;clear V;go_wp2;go_still_tail 6,aw
   go_wp2_with (go_at_call 191;refine(N.out _ I.drew _ Z).mono ?_;rintro e bh ⟨⟨aj,rfl,ai⟩,n⟩);all_goals(
    go_roundw
    case rel=>first|exact⟨j+1,z,bz,(d.drew).trans (n.mono d.size)⟩|((repeat apply Exists.intro);refine⟨?_,rfl⟩;exact⟨j+1,z,bz,(d.drew).trans (n.mono d.size)⟩)
    case measure=>simp[RowKit.intOf];omega)
  .go_wp2;go_loopw [9] (λi cU=>∃m:Nat,m<=k/\i=.int .i64 m/\β q cU) (λi _=>k-(RowKit.intOf i).toNat);case atStart=>exact⟨0,dh _,rfl,bl _ _⟩
   case round=>
    obtain⟨m,av,rfl,f⟩:=hrel;have L:=F.K f;have H:β w wr:=b3 I f;by_cases nB:m<k
    .have E:m<rs.length:=z;obtain⟨ad,ae,y⟩:=gM.out m E;have g:=y.K G H;have lw:=g.bi;have h3:=g.c1;have hK:=g.c2;have f3:=g.c3;have ah:=A (λW (u:β w W)=>at9 rs[m] rs[k] ad D ae ac W (y.args.K u) (K.out.K u) (X.out m E) Y (iK.out m k E B nB));have cI:=aN 4 L.2.2.1;obtain⟨ct,a_,bb,bI⟩:=YG L.2.2.2;have m':(0:Int)<=(m:Int):=z;have l4:(m:Int)<rs.length:=z;have pa:(m:Int)<=1000:=z;clear g y;go_wp2;go_still_tail 6,aw
     go_wp2_with (go_at_call 190;refine(ah.out _ H.drew).mono ?_;rintro e bh ⟨rfl,n⟩);all_goals(
      go_roundw
      case rel=>first|exact⟨m+1,z,bz,(f.drew).trans (n.mono f.size)⟩|((repeat apply Exists.intro);refine⟨?_,rfl⟩;exact⟨m+1,z,bz,(f.drew).trans (n.mono f.size)⟩)
      case measure=>simp[RowKit.intOf];omega)
    .go_wp2;all_goals(go_ret;exact⟨rfl,H⟩)
def oV(base:Nat)(l:List (Ψ×Nat))(k:Nat)(v:Φ)(w:Γ):Prop:=w.ownsRow base 9 1 v k ((l.take k).map λc=>.string c.1)
variable{l:List (Ψ×Nat)}{k:Nat}{v:Φ}
def oV.K{base:Nat}{w':Γ}(h:oV base l k v w)(G:β w w'):oV base l k v w':=Ab h G
def oV.lx{base:Nat}(h:oV base l k v w):∀g,v.ownBlock=some g->base<=g:=λg ar=>by
 rcases xN g base with a|a
 .exact absurd ar.symm (yH h a)
 .exact a
def oV.gX{base:Nat}(h:oV base l k v w):∃a c,v=.slice a k c:=by
 rcases h.2 with⟨e,af⟩|⟨g,cap,b,e,_⟩
 exact⟨_,_,by rw[e,af]⟩;exact⟨_,_,e⟩
def oV.xu{base:Nat}(a:k<l)(h:w.ownsRow base 9 1 v (k+1) (((l.take k).map λc=>.string c.1)++[.string l[k].1])):oV base l (k+1) v w:=by unfold oV;rw[r6 a,yO];exact h
def oV.asj{base:Nat}{c:Nat}(h:oV base l l (.slice a l c) w):0<l.length->∃b o,a=some ⟨b,o,none⟩/\b<w/\∀i,i<l.length->w ⟨b,o+i,none⟩=some (.string (l.getD i (⟨#[]⟩,0)).1):=λaf=>by
 unfold oV at h
 rw[sL]at h
 rcases h.2 with⟨_,dA⟩|⟨g,cap,e,ak,j,d,k,m,n,f⟩
 .omega
 .cases ak
  refine⟨g,0,rfl,de d,λi hi=>?_⟩
  have:(e.toList.take (l.length*1))[i]? =some (Value.string (l.getD i (⟨#[]⟩,0)).1):=by
   rw[f,ou,j_ hi,qt,j_ hi];rfl
  rw[pk,ci z]at this
  rw[gy]
  exact kQ d (by simpa using this)
def ac8(S:c8)(a:rx S)(dX:Fm S)(w:Γ)(M:Nat->Nat)(fx:∀i,1<=M i/\M i<=5)(rs:List bD)(y:rs.Sublist S.dp)(ca f ra:Θ)(cc l rc:Nat)(eD:jy w ca S.bB)(O:s4 w f S.aJ M)(dE:wH w ra rs): Calls prog 51 #[.agg #[.string S.nm,.int .i64 S.dk,.slice ca S.bB.length cc,.slice f S.aJ.length l,.slice ra rs.length rc,.int .i64 S.an]] w λe w'=>e=.returned (.bool true)/\β w w':=by
 obtain⟨hc,bT,eW,he,Q,n5,rT,ag⟩:=dX;have bL:=A bT;have dd:=A eW;have wF:=A he;have X:=A Q;have Xs:=A n5;have Y:=λr (ae:r∈rs)=>rT r (y.subset ae);have af:=Lh.1 (ag.sublist y);have Fc:=A (λW (d:β w W) (q:Nat) (Z:q<rs.length)=>at8 (.string S.nm) (.int .i64 S.dk) (.slice ca S.bB.length cc) (.int .i64 S.an) f ra S.aJ M rs l rc q W (O.K d) (λc ah=>(Q c ah).1) a.aJ (dE.K d) (c6 y.length_le a.dp) Y af Z);have aK:=A a.ayh;have dO:=A a.l6;have aH:=a.dk;have aJ:=a.bB;have uL:=a.xw;have sx:=a.aJ;have vV:rs.length<=40:=c6 y.length_le a.dp;have fb:=a.an;have ar:=A fx;have gM:=A (λW (d:β w W)=>eD.K d);have Xl:=A (λW (d:β w W)=>O.K d);clear hc bT eW he Q n5 rT ag Y af a eD O dE fx y;have el:decide ((S.dk:Int)<0)=false:=aq;have eq:decide (1000000000<(S.dk:Int))=false:=bw;have v3:decide (8<(S.bB.length:Int))=false:=bw;have v4:decide ((S.aJ.length:Int)<1)=false:=bw;have v5:decide (12<(S.aJ.length:Int))=false:=bw;have hh:decide (40<(rs.length:Int))=false:=bw;have nM:decide ((S.an:Int)<0)=false:=aq;have mS:decide ((S.aJ.length:Int)<=(S.an:Int))=false:=bw;have v9:decide (S.aJ.length<=S.an)=false:=bw;have i6:∀dn,β w (w.alloc dn):=λdn=>(bl _ _).alloc (aY _) _;obtain⟨dZ,ld,n_,jf,lj⟩:=iz aDj;go_enter func51,ntmps51;go_wp2_with (go_at_call 116;refine(Ps _ _ bL.out).mono ?_;rintro e w' ⟨rfl,rfl⟩);have aQ:AO (w.alloc (.cells #[.string S.nm,.int .i64 S.dk,.slice ca S.bB.length cc,.slice f S.aJ.length l,.slice ra rs.length rc,.int .i64 S.an] 29)) w.heap.size #[.string S.nm,.int .i64 S.dk,.slice ca S.bB.length cc,.slice f S.aJ.length l,.slice ra rs.length rc,.int .i64 S.an]:=⟨aq,c7 w _⟩;have co:=i6 (.cells #[.string S.nm,.int .i64 S.dk,.slice ca S.bB.length cc,.slice f S.aJ.length l,.slice ra rs.length rc,.int .i64 S.an] 29);have ik:=jt w (.cells #[.string S.nm,.int .i64 S.dk,.slice ca S.bB.length cc,.slice f S.aJ.length l,.slice ra rs.length rc,.int .i64 S.an] 29);generalize w.alloc (.cells #[.string S.nm,.int .i64 S.dk,.slice ca S.bB.length cc,.slice f S.aJ.length l,.slice ra rs.length rc,.int .i64 S.an] 29)=am at*;try rw[v9]
 go_loopw [4,5] (λv i wr=>∃k:Nat,k<=S.bB.length/\i=.int .i64 k/\oV (w.heap.size+1) S.bB k v wr/\Below (w.heap.size+1) am wr) (λ_ i _=>S.bB.length-(RowKit.intOf i).toNat);case atStart=>exact⟨0,dh _,rfl,ne _ _ _ _,bl _ _⟩
 case round=>
  obtain⟨k,az,rfl,C,L⟩:=hrel;have D:=aQ.K z L;have ls:β w wr:=co.trans (L.mono z);have aI:=aN 2 D.2;have BA:=D.1;by_cases au:k<S.bB.length
  .obtain⟨dw,fW,rfl,lA,x⟩:=jy.cell (gM.out _ ls);obtain⟨lw,h3⟩:=x k au;obtain⟨_,P,R⟩:=dd.out _ (fp au);have m':(0:Int)<=(k:Int):=z;have l4:(k:Int)<S.bB.length:=z;have pa:(k:Int)<=1000:=z;clear x
   go_wp2_with (first
    |(go_at_call 117;refine(aga _ _ P R).mono ?_;rintro e s ⟨⟨an,rfl,jc⟩,bJ⟩;obtain⟨aao,Oo⟩:=aip bJ;have g2:=C.K bJ)
    |(at_builtin;refine lP _ rfl _ _ 42 rfl (w.heap.size+1) 9 dZ (.string ⟨#[]⟩) 1 16 HV ld n_ jf lj rfl al _ _ _ rfl (afp g2 _) ⟨s.heap.size,0,none⟩ 1 1 [.string S.bB[k].1] rfl rfl ?c1 ?c2 ?c3 ?c4 ?c5 ?_))
   case c1=>exact apD s _
   case c2=>simp[Value.oneCell']
   case c3=>unfold maxLen;omega
   case c4=>omega
   case c5=>have:=bJ.size;simp;omega
   intro N u gA ga _;have gn:Below (w.heap.size+1) am u:=((L.trans (bJ.mono z)).alloc (by have:=bJ.size;omega) _).grown ga (by have:=bJ.size;simp;omega) C.lx;have lS:oV (w.heap.size+1) S.bB (k+1) N u:=oV.xu au (by rw[Wi];exact gA);clear gA ga g2 aao Oo bJ;go_wp2;go_roundw;case rel=>first|exact⟨k+1,z,bz,lS,gn⟩|((repeat apply Exists.intro);refine⟨?_,rfl⟩;exact⟨k+1,z,bz,lS,gn⟩)
   case measure=>simp[RowKit.intOf];omega
  .obtain⟨g,rfl⟩:∃g:Γ,g=wr:=⟨_,rfl⟩;obtain rfl:k=S.bB.length:=z;obtain⟨a4,c4,rfl⟩:=C.gX;have aj:=D.1;go_wp2;go_loopw [6,7] (λv i cU=>∃m:Nat,m<=S.aJ.length/\i=.int .i64 m/\oV g.heap.size S.aJ m v cU/\β g cU) (λ_ i _=>S.aJ.length-(RowKit.intOf i).toNat);case atStart=>exact⟨0,dh _,rfl,ne _ _ _ _,bl _ _⟩
   case round=>
    obtain⟨m,av,rfl,B,n⟩:=hrel;have F:=D.K aj n;have jo:β w wr:=b3 ls n;have bv:=aN 3 F.2;have aC:=F.1;by_cases I:m<S.aJ.length
    .obtain⟨bS,eI,rfl,j3,x⟩:=Xl.out _ jo;obtain⟨lw,h3,hK⟩:=x m I;obtain⟨_,P,R⟩:=X.out _ (fp I);have aD:=ar.out m;have m':(0:Int)<=(m:Int):=z;have l4:(m:Int)<S.aJ.length:=z;have pa:(m:Int)<=1000:=z;have aF:¬(M m:Int)<1:=z;have aG:¬9<(M m:Int):=z;clear x
     go_wp2_with (first
      |(go_at_call 117;refine(aga _ _ P R).mono ?_;rintro e s ⟨⟨an,rfl,jc⟩,bJ⟩;obtain⟨aao,Oo⟩:=aip bJ;have g2:=B.K bJ)
      |(at_builtin;refine lP _ rfl _ _ 42 rfl g.heap.size 9 dZ (.string ⟨#[]⟩) 1 16 HV ld n_ jf lj rfl al _ _ _ rfl (afp g2 _) ⟨s.heap.size,0,none⟩ 1 1 [.string S.aJ[m].1] rfl rfl ?c1 ?c2 ?c3 ?c4 ?c5 ?_))
     case c1=>exact apD s _
     case c2=>simp[Value.oneCell']
     case c3=>unfold maxLen;omega
     case c4=>omega
     case c5=>have:=bJ.size;have:=n.size;simp;omega
     intro N u gA ga _;have gn:β g u:=((b3 n bJ).alloc (by have:=bJ.size;have:=n.size;omega) _).grown ga (by have:=bJ.size;have:=n.size;simp;omega) B.lx;have lS:oV g.heap.size S.aJ (m+1) N u:=oV.xu I (by rw[Wi];exact gA);exact aEF
    .obtain⟨wp,rfl⟩:∃wp:Γ,wp=wr:=⟨_,rfl⟩;obtain rfl:m=S.aJ.length:=z;obtain⟨e1,fe,rfl⟩:=B.gX;have ax:=A (λW (d:β wp W)=>asL a4 S.bB.length c4 W (λi=>(S.bB.getD i (⟨#[]⟩,0)).1) z (oV.asj ((C.K n).K d)) (λi hi=>by
      rw[qt,j_ hi];exact(dd.out _ (fp hi)).1) (λi j T K=>by
      rw[qt,j_ z,qt,j_ K];exact wF.out i j _ _ T))
     have ay:=A (λW (d:β wp W)=>asL e1 S.aJ.length fe W (λi=>(S.aJ.getD i (⟨#[]⟩,0)).1) z (oV.asj (B.K d)) (λi hi=>by
      rw[qt,j_ hi];exact(X.out _ (fp hi)).1) (λi j T K=>by
      rw[qt,j_ z,qt,j_ K];exact Xs.out i j _ _ T))
     go_wp2_with (first
      |(have _:=U;go_at_call 118;((with_reducible refine(ay.out _ (rq.K U _)).mono ?_);rintro e w' ⟨rfl,G,rfl⟩))
      |(go_at_call 118;((with_reducible refine(ax.out _ (bl _ _)).mono ?_);rintro e w' ⟨rfl,o,rfl⟩;have U:rq wp (wp.drewN o):=⟨o,rfl⟩)))
     have H:AO (wp.drewN (o+G)) w.heap.size #[.string S.nm,.int .i64 S.dk,.slice ca S.bB.length cc,.slice f S.aJ.length l,.slice ra rs.length rc,.int .i64 S.an]:=F;have ad:β w (wp.drewN (o+G)):=jo.trans (rq.K ⟨_,rfl⟩ _);generalize wp.drewN (o+G)=V at H ad|-;go_loopw [10] (λi ap=>∃q:Nat,q<=rs.length/\i=.int .i64 q/\β V ap) (λi _=>rs.length-(RowKit.intOf i).toNat);case atStart=>exact⟨0,dh _,rfl,bl _ _⟩
     case round=>obtain⟨q,Z,rfl,E⟩:=hrel;have aw:=H.K H.1 E;have aa:β w wr:=b3 ad E;obtain⟨dA,ak,aA,aB,cI,h2⟩:=gp aw.2;by_cases ai:q<rs.length;{have pa:(q:Int)<=1000:=z;(go_wp2_with (go_at_call 119;refine(Fc.out _ aa q ai).mono ?_;rintro e w7 ⟨rfl,ha⟩);go_roundw;case rel=>first|exact⟨q+1,z,bz,b3 E ha⟩|((repeat apply Exists.intro);refine⟨?_,rfl⟩;exact⟨q+1,z,bz,b3 E ha⟩));case measure=>simp[RowKit.intOf];omega};{go_wp2;all_goals(go_ret;exact⟨rfl,aa⟩)}
end Go.bk.N
namespace Go.bE
open Go Go.Proofs.Tryz Go.Proofs Go.RowKit Go.di Go.bk
section
variable {S:c8} {M:Nat->Nat} {rs:List bD} {ca be:Θ} {cc aW rb aK rc:Nat} {w:Γ}
structure Dm (rs:List bD) (s:Nat) (p:List Int):Prop where
 gD:gD rs [s] p=some p.length
 ok:∀x∈p,0<=x/\x<(rs.length:Int)
def Dm.first{s:Nat}{p:List Int}(h:Dm rs s p):∃(k:Nat) (a:k<rs.length) (q:List Int),p=(k:Int)::q/\rs[k].h=s/\Go.bk.gD rs rs[k].args q=some q.length:=by
 obtain⟨x,q,rfl,e⟩:=FT h.gD;rcases e with⟨rfl,_⟩|⟨k,a,rfl,d,m,b,c⟩
 .exact absurd (h.ok _ (ri)).1 al
 .refine⟨k,a,q,rfl,d,?_⟩;rw[rf]at c;simp at b;rw[c,b]
attribute [local irreducible] wpStill in
def asy(h:p1 S M rs ca be cc aW rb aK rc w)(aO:Θ)(C s:Nat)(p:List Int)(ag:lT w aO p)(j:p.length<=100)(n:Dm rs s p): χ 297 #[.agg (en S rs ca be cc aW rb aK rc),.slice aO p C] w λe w'=>e=.returned (.tuple #[s,.bool true]):=by
 have K:=A λW (m:β w W)=>Go.bk.N.ac8 S h.ok h.UQ W M h.yz rs h.sub ca be (some ⟨rb,aK,none⟩) cc aW rc (h.c.K m) (h.y.K m) (h.r.K m);have H:=A (ad0 (.string S.nm) S.dk (.slice ca S.bB cc) (.slice be S.aJ aW) S.an rs rb aK rc aO C p w h.r ag h.iZ h.rX j p 0 s p);have l:=ie.d_ w (en S rs ca be cc aW rb aK rc);obtain⟨k,U,q,rfl,r,Z⟩:=n.first;have L:=A n.gD;obtain⟨pb,po,rfl,O,P⟩:=ag aq;have o:=P 0 aq;rw[AG,hY]at o;have Q:=h.r;let⟨uZ,Kz,cg,I,N⟩:=Q;cases cg;let⟨aU,ac,y⟩:=N k U;have fi:=y.bi;rw[r]at fi;rw[l8]at j;have ab:q.length<=99:=z;have gb:0<(q.length:Int)+1:=z;have z0:((q.length:Int)+1==0)=false:=bw;have jg:(0:Int)<=(k:Int):=z;have kV:(k:Int)<rs.length:=z;have vV:=h.rX;clear P Z h ag j N y r n;rw[l8]at*;go_enter func297,ntmps297;go_upto_region 2 with(go_at_call 51;refine(K.out _ l.b).mono ?_;rintro e a ⟨rfl,u⟩)
 have g:=l.K u;have aI:decide ((k:Int)<0)=false:=aq;have bv:decide ((rs.length:Int)<=(k:Int))=false:=bw;have cI:decide ((k:Int)<rs)=true:=bw;have h2:decide ((0:Int)<=(k:Int))=true:=aq;clear l u K;go_upto_region 4 with fail
 have a5:=aN 5 g.g;go_upto_region 5 with fail
 have d:=g.Jb;have R:a.drew.cell? ⟨pb,po,none⟩=_:=(d.b.cell O).trans o;have T:a.drew.cell? ⟨rb,aK+k*4,none⟩=_:=(d.b.cell I).trans fi;refine wt aw aw ?_;change wpStill _ _ a.drew (λa'=>Exit.then _ _ Exit.normal a' a.drew) _ _;clear g a5;generalize a.drew=c at*;let⟨E,x,D,B,G,F⟩:=gp d.g;repeat still_step
 refine tU ?_;go_wp2;have f:=d.Jb;have aa:c.drew.cell? ⟨pb,po,none⟩=_:=(f.b.cell O).trans o;have ad:c.drew.cell? ⟨rb,aK+k*4,none⟩=_:=(f.b.cell I).trans fi;refine wt aw aw ?_;change wpStill _ _ c.drew (λa'=>Exit.then _ _ Exit.normal a' c.drew) _ _;clear d R T E x D B G F;generalize c.drew=w3 at*;let⟨E,x,D,B,G,F⟩:=gp f.g;repeat still_step
 refine tU ?_;have V:=A (H.out w3 (afK _ _) (by rw[La];exact L.out) f.b);clear H L;have Y:(((0+(q.length+1):Nat):Int))=(q.length:Int)+1:=z;go_wp2_with (go_at_call 204;refine(V.out).mono ?_;rintro e bh ⟨aP,X⟩;rw[Y]at aP;subst aP);go_ret2;exact⟨rfl,b3 f.b X⟩
end
def axO(w:Γ)(aO:Θ)(f:Nat)(p:List Int)(ag:lT w aO p)(j:p.length<=100)(af:∀x∈p,0<=x): χ 298 #[.slice aO p f] w λe w'=>e=.returned (.bool true):=by
 have g:=A λW (d:β w W)=>ag.K d;have c:=A af;clear ag af;go_enter func298,ntmps298;go_wp2;go_loopw [3] (λi wr=>∃k:Nat,k<=p.length/\i=.int .i64 k/\β w wr) (λi _=>p.length-(RowKit.intOf i).toNat);case atStart=>exact⟨0,dh _,rfl,bl _ _⟩
 case round=>obtain⟨k,l,rfl,a⟩:=hrel;by_cases au:k<p;{obtain⟨pb,po,rfl,r,b⟩:=g.out _ a z;have q:=b k au;have m:=c.out _ (fp au);have n:(0:Int)<=(k:Int):=z;have o:(k:Int)<p.length:=z;clear b;generalize p[k]=x at*;have dA:(x== -1)=false:=bw;(go_wp2;go_roundw;case rel=>first|exact⟨k+1,z,bz,a⟩|exact⟨k+1,z,z⟩|exact⟨k+1,z,z,a⟩|((repeat apply Exists.intro);refine⟨?_,rfl⟩;exact⟨k+1,z,bz,a⟩));case measure=>simp[RowKit.intOf];omega};{go_wp2;go_ret;exact⟨rfl,a⟩}
end Go.bE
namespace Go.bk
open Go Go.Proofs.Tryz Go.Proofs Go.RowKit Go.di
def at_(e:Ending):Prop:=∃r:Bool,e=.returned (.bool r)
attribute [local irreducible] wpStill in
def aEd(aO l:Θ)(u C:Nat)(p q:List Int)(w:Γ)(ag:lT w aO p)(f:lT w l q)(L:p.length<=100)(O:q.length<=100): χ 296 #[.slice aO p u,.slice l q C] w λe w'=>at_ e:=by
 by_cases d:p.length=q.length
 .have dA:((p.length:Int) !=(q.length:Int))=false:=by simp[d]
  have s:(q.length:Int)=p.length:=z;have H:=A (λW (g:β w W)=>ag.K g);have I:=A (λW (g:β w W)=>f.K g);have c:=A d;clear ag f d s;go_enter func296,ntmps296;go_wp2;go_loopw [5] (λv wr=>∃k:Nat,k<=p.length/\v=.int .i64 k/\β w wr) (λv _=>p.length-(RowKit.intOf v).toNat);case atStart=>exact⟨0,dh _,rfl,bl _ _⟩
  case round=>obtain⟨k,M,rfl,G⟩:=hrel;by_cases au:k<p;{(have b:=G.drew;obtain⟨m,B,rfl,E,n⟩:=H.out _ b z;obtain⟨j,lX,rfl,F,o⟩:=I.out _ b (by have:=c.out;omega);have ca:=n k au;have i:=o k (by have:=c.out;omega);have Q:(0:Int)<=(k:Int):=z;have D:(k:Int)<p.length:=z;have R:(k:Int)<q.length:=by have:=c.out;omega);have T:m<wr.heap.size:=E;have K:j<wr.heap.size:=F;generalize t:p[k]=x at ca;generalize q[k]'(by have:=c.out;omega)=y at i;clear n o t;go_wp2;refine wt aw aw ?_;change wpStill _ _ wr.drew (λa'=>Exit.then _ _ Exit.normal a' wr.drew) _ _;generalize wr.drew=a at*;by_cases r:x=y;{(subst r;have ak:(x !=x)=false:=aq;repeat still_step);refine tU ?_;(go_wp2;go_roundw;case rel=>first|exact⟨k+1,z,bz,b⟩|((repeat apply Exists.intro);refine⟨?_,rfl⟩;exact⟨k+1,z,bz,b⟩));case measure=>simp[RowKit.intOf];omega};{(have ak:(x !=y)=true:=by simpa using r);(repeat still_step);refine tU ?_;(go_wp2;have J:=b.drew;have S:a.drew.cell? ⟨m,B+k,none⟩=_:=ca;have N:a.drew.cell? ⟨j,lX+k,none⟩=_:=i;refine wt aw aw ?_;change wpStill _ _ a.drew (λa'=>Exit.then _ _ Exit.normal a' a.drew) _ _;clear ca i;generalize a.drew=P at*;repeat still_step);refine tU ?_;go_wp2;go_ret;exact⟨⟨_,rfl⟩,J⟩}};{have D:¬(k:Int)<p.length:=z;go_wp2;go_ret;exact⟨⟨_,rfl⟩,G⟩}
 .have dA:((p.length:Int) !=(q.length:Int))=true:=bw;clear ag f;go_enter func296,ntmps296;go_wp2;go_ret;exact⟨⟨_,rfl⟩,bl _ _⟩
def xW(w w':Γ):Prop:=∀(b:Nat) (arr:Ω) (bd:Nat×Nat),w.heap[b]? =some (Obj.cells arr 3 bd)->w'.heap[b]? =some (Obj.cells arr 3 bd)
def p3(w:Γ)(a:Θ)(q:List Int):Prop:=0<q.length->∃b o arr bd,a=some ⟨b,o,none⟩/\w.heap[b]? =some (.cells arr 3 bd)/\∀i (hi:i<q.length),arr[o+i]? =some (.int .i64 q[i])
variable{w:Γ}{c:Θ}{q:List Int}
def p3.kP(h:p3 w c q):lT w c q:=λaf=>by
 let⟨b,o,arr,bd,e,a,d⟩:=h af
 exact⟨b,o,e,de a,λi hi=>by simp only[World.cell?,a];exact d i hi⟩
variable{w':Γ}
def p3.kept{a:Θ}(h:p3 w a q)(f:xW w w'):p3 w' a q:=λaf=>by
 let⟨b,o,arr,bd,e,c,d⟩:=h af
 exact⟨b,o,arr,bd,e,f _ _ _ c,d⟩
def p3.K(h:p3 w c q)(G:β w w'):p3 w' c q:=
 h.kept λb arr bd a=>by rw[G.block b (de a)];exact a
def mZ(T:List Int->Prop)(w:Γ)(v:Φ):Prop:=∃a b q,v=.slice a (q:List Int).length b/\p3 w a q/\T q
variable{v:Φ}
def mZ.K{T:List Int->Prop}(h:mZ T w v)(G:β w w'):mZ T w' v:=by let⟨a,b,q,e,H,I⟩:=h;exact⟨a,b,q,e,H.K G,I⟩
def x3(T:List Int->Prop)(w:Γ)(va:Θ)(n:Nat):Prop:=0<n->∃b o,va=some ⟨b,o,none⟩/\b<w.heap.size/\∀i,i<n->∃v,w ⟨b,o+i,none⟩=some v/\mZ T w v
variable{n:Nat}
def x3.K{T:List Int->Prop}{va:Θ}(h:x3 T w va n)(G:β w w'):x3 T w' va n:=λaf=>by
 let⟨b,o,e,a,c⟩:=h af
 refine⟨b,o,e,cT G a,λi hi=>?_⟩
 let⟨v,H,I⟩:=c i hi
 exact⟨v,by rw[G.cell a];exact H,I.K G⟩
def O4:(prog.info? 22).map (λi=>(i.zero,i.size,i.bytes))=some (some (.slice none 0 0),1,24):=aw
def avY(T:List Int->Prop)(n:Nat)(e:Ending)(w':Γ):Prop:=∃a rc,e=.returned (.slice a n rc)/\n<=rc/\x3 T w' a n
def aHo{T:List Int->Prop}{base:Nat}{a:List Φ}(h:w.ownsRow base 22 1 v n a)(o:0<n)(l:a.length=n)(d:∀y∈a,mZ T w y):∃c rc,v=.slice c n rc/\n<=rc/\x3 T w c n:=by
 have af:v≠ .slice none 0 0:=λe=>by(rcases h.2 with⟨_,q⟩|⟨g,cap,j,ak,_⟩);omega;rw[ak]at e;cases e
 let⟨g,cap,j,ak,m,b,f,r,k⟩:=uT h af;refine⟨_,_,ak,f,λ_=>⟨g,0,rfl,de b,λi hi=>?_⟩⟩;have:=k i z;rw[j_ z]at this;exact⟨_,by rw[gy];exact kQ b this,d _ (fp _)⟩
end Go.bk
namespace Go.bk
open Go.di (bD)
def kW(c:Nat->Nat->List (List Int))(Z:Nat->Nat):List Int->List Nat->Nat->List (List Int)
 |b,[],m=>if m=0 then [b]else []
 |b,a::d,m=>(List.range' 1 (min (m-d.length) (Z a-1))).flatMap λn=>(c a n).flatMap λq=>kW c Z (b++q) d (m-n)
def anL{e d:Nat->Nat->List (List Int)}{Z:Nat->Nat}:∀(c:List Nat) (b:List Int) (m:Nat),(∀a∈c,∀i,i<=m->i<Z a->e a i=d a i)->kW e Z b c m=kW d Z b c m
 |[],b,m,h=>rfl
 |a::c,b,m,h=>by unfold kW;simp only[List.flatMap_def];congr 1;apply atv;intro n g;let⟨H,I⟩:=as9.1 g;rw[h a (ri ..) n z z];congr 1;apply atv;intro q _;exact anL c _ _ λa' f i hi j=>h a' (jw _ f) i z j
def XF(rs:List bD)(M:Nat->Nat)(a:Nat->Nat->List (List Int)):Prop:=∀s n,∀p∈a s n,p6 rs M s n p
def anM{rs:List bD}{M:Nat->Nat}{e:Nat->Nat->List (List Int)}{Z:Nat->Nat}(f:XF rs M e):∀(c:List Nat) (b:List Int) (m:Nat),∀x∈kW e Z b c m,∃q,x=b++q/\q.length=m/\gD rs c q=some m/\vw rs M q
 |[],b,m,x,h=>by unfold kW at h;split at h;{rename_i d;simp at h;exact⟨[],by simp[h],by simp[d],by rw[Dx,d],vw.nil _ _⟩};{cases h}
 |a::c,b,m,x,h=>by unfold kW at h;let⟨n,j,h⟩:=Le.1 h;let⟨q,i,h⟩:=Le.1 h;let⟨H,I⟩:=as9.1 j;obtain⟨g,rfl,b7,cw,iS⟩:=anM f c _ _ x h;have P:=f a n q i;have k:n<=m:=z;refine⟨q++g,by rw[HZ],by rw[ir,P.len,b7];omega,?_,P.sub.A_ iS⟩;rw[show a::c=[a]++c from rfl,Nv,Nw rs q _ _ g P.gD];simp only[CQ];rw[<-P.len,List.drop_left,cw];simp only[ov,cx];rw[P.len];omega
def aEl{c:Nat->Nat->List (List Int)}{Z:Nat->Nat}{b:List Int}{a:Nat}(h:c a 1≠[])(f:1<Z a):kW c Z b [a] 1≠[]:=by
 have e:min (1-([]:List Nat).length) (Z a-1)=1:=bw;unfold kW;rw[e];cases d:c a 1 with
 |nil=>exact absurd d h
 |cons q l=>simp[d,kW]
def Sj(b:Nat)(a:Nat->Nat->List (List Int)):Prop:=∀s n,(a s n).length<=b^n
def Zn{b d:Type}(f:b->List d)(c:Nat):∀l:List b,(∀a∈l,(f a).length<=c)->(l.flatMap f).length<=l.length*c
 |[],_=>by simp
 |a::l,h=>by rw[yN,ir,l8,xM];have:=Zn f c l λa' e=>h a' (jw _ e);have:=h a (ri ..);omega
def abS{d:Nat}{e:Nat->Nat->List (List Int)}{Z:Nat->Nat}(j:1<=d)(g:Sj d e):∀(f:List Nat) (b:List Int) (m:Nat),(kW e Z b f m).length<=2^m*d^m
 |[],b,m=>by unfold kW;split;{rename_i h;subst h;simp};{simp}
 |a::f,b,m=>by
  unfold kW
  have step:∀c,c<=m->((List.range' 1 c).flatMap λn=>(e a n).flatMap λq=>kW e Z (b++q) f (m-n)).length<=(2^m-2^(m-c))*d^m:=by
   intro c;induction c with
   |zero=>intro _;simp
   |succ c k=>
    intro o
    rw[afa,H1,ir,yN,Rh,rf]
    have H:=k z
    have I:=Zn (λq=>kW e Z (b++q) f (m-(1+c))) (2^(m-(1+c))*d^(m-(1+c))) (e a (1+c)) λq _=>abS j g f _ _
    have i:=g a (1+c)
    have r:(e a (1+c)).length*(2^(m-(1+c))*d^(m-(1+c)))<=2^(m-(1+c))*d^m:=by
     calc (e a (1+c)).length*(2^(m-(1+c))*d^(m-(1+c)))<=d^(1+c)*(2^(m-(1+c))*d^(m-(1+c))):=rm _ i
      _=2^(m-(1+c))*(d^(1+c)*d^(m-(1+c))):=by rw[<-EW,H9 (d^(1+c)),EW]
      _=2^(m-(1+c))*d^m:=by rw[<-afJ,show 1+c+(m-(1+c))=m by omega]
    have s:2^(m-c)=2^(m-(1+c))+2^(m-(1+c)):=by rw[show m-c=(m-(1+c))+1 by omega,yR];omega
    have t:2^(m-c)<=2^m:=k5 z z
    have l:2^m-2^(m-(c+1))=(2^m-2^(m-c))+2^(m-(1+c)):=by
     rw[show m-(c+1)=m-(1+c) by omega]
     generalize 2^(m-(1+c))=x at*
     generalize 2^(m-c)=y at*
     generalize 2^m=ai at*
     omega
    rw[l,xM]
    omega
  have:=step (min (m-f.length) (Z a-1)) z;refine c6 this ?_;exact rm _ (afK _ _)
def xl(a:Nat->Nat->List (List Int))(Z need:Nat->Nat)(n s:Nat)(e:bD×Nat):List (List Int):=
 if e.1.h=s/\n+1<Z s/\n+1<=need s then kW a Z [(e.2:Int)] e.1.args n else []
def gh(rs:List bD)(Z need:Nat->Nat):Nat->Nat->Nat->List (List Int)
 |0,_,_=>[]
 |n+1,s,m=>if m=n+1 then rs.zipIdx.flatMap (xl (gh rs Z need n) Z need n s)else gh rs Z need n s m
def part(rs:List bD)(Z need:Nat->Nat)(n k:Nat)(s m:Nat):List (List Int):=
 if m=n+1 then(rs.zipIdx.take k).flatMap (xl (gh rs Z need n) Z need n s)else gh rs Z need n s m
def asA(rs:List bD)(Z need:Nat->Nat):∀n s m,n<m->gh rs Z need n s m=[]
 |0,s,m,h=>rfl
 |n+1,s,m,h=>by unfold gh;rw[bo z,asA rs Z need n s m z]
def aG8(rs:List bD)(Z need:Nat->Nat)(n s m:Nat):part rs Z need n 0 s m=gh rs Z need n s m:=by unfold part;split;rename_i h;rw[asA _ _ _ _ _ _ z];simp;rfl
def aG5(rs:List bD)(Z need:Nat->Nat)(n s m:Nat):part rs Z need n rs s m=gh rs Z need (n+1) s m:=by have e:rs.zipIdx.take rs=rs.zipIdx:=vg aq;unfold part;rw[e];rfl
def aqv(rs:List bD)(Z need:Nat->Nat)(n k s m:Nat)(a:k<rs):part rs Z need n (k+1) s m=part rs Z need n k s m++(if m=n+1 then xl (gh rs Z need n) Z need n s (rs[k],k)else []):=by
 unfold part;split
 .have b:k<rs.zipIdx.length:=by simpa using a
  rw[r6 b,H1,yN,Rh,rf,List.getElem_zipIdx,gy]
 rw[rf]
def aEm(rs:List bD)(Z need:Nat->Nat)(n k:Nat)(b:List Int)(c:List Nat):kW (part rs Z need n k) Z b c n=kW (gh rs Z need n) Z b c n:=by apply anL;intro a _ i hi _;unfold part;rw[bo z]
def QC{rs:List bD}{M Z need:Nat->Nat}(b:∀s,Z s<=M s+1):∀n,XF rs M (gh rs Z need n)
 |0=>λs m p h=>by cases h
 |n+1=>λs m p h=>by unfold gh at h;split at h;{rename_i f;subst f;let⟨⟨r,k⟩,d,h⟩:=Le.1 h;have g:=Wj.1 d;let⟨a,e⟩:=kL.1 g;simp only at e a;subst e;unfold xl at h;split at h;{rename_i c;let⟨H,I,i⟩:=c;obtain⟨q,rfl,b7,cw,iS⟩:=anM (QC b n) _ _ _ p h;have j:=b s;simp only at H;refine⟨bw,?_,vw.cons a iS cw (by rw[H];omega),z⟩;show gD rs [s] ((k:Int)::q)=_;rw[FS rs s [] q k a H,rf,cw];rfl};{cases h}};{exact QC b n s m p h}
def QB{rs:List bD}{Z need:Nat->Nat}(a:rs.length<=9):∀n,n<=5->Sj 144 (gh rs Z need n)
 |0,_=>λs m=>by simp[gh]
 |n+1,c=>λs m=>by
  unfold gh
  split
  ·rename_i b
   subst b
   have H:=Zn (xl (gh rs Z need n) Z need n s) (2^n*144^n) rs.zipIdx λe _=>by
    unfold xl
    split
    ·exact abS z (QB a n z) _ _ _
    ·simp
   rw[List.length_zipIdx]at H
   refine c6 H ?_
   have I:(2:Nat)^n<=2^4:=k5 z z
   calc rs.length*(2^n*144^n)<=9*(2^4*144^n):=yQ a (rm _ I)
    _=144^(n+1):=by rw[yR];omega
  ·exact QB a n z s m
variable{Z need:Nat->Nat}
def aqu{rs:List bD}(a:rs.length<=9)(n k:Nat)(c:n<5):Sj 144 (part rs Z need n k):=λs m=>by
 unfold part
 split
 .rename_i b
  subst b
  have H:=QB (Z:=Z) (need:=need) a (n+1) z s (n+1)
  unfold gh at H
  rw[ci rfl]at H
  refine c6 ?_ H
  have e:rs.zipIdx=rs.zipIdx.take k++rs.zipIdx.drop k:=(xL ..).symm
  conv=>rhs;rw[e]
  rw[H1,ir]
  omega
 .exact QB a n z s m
def asB{rs:List bD}{Z need:Nat->Nat}{s k:Nat}(a:k<rs)(b:rs[k].h=s)(aL:rs[k].args=[])(f:1<Z s)(d:1<=need s)(n:Nat)(H:1<=n):gh rs Z need n s 1≠[]:=by
 induction n with
 |zero=>omega
 |succ n i=>
  unfold gh;by_cases e:(1:Nat)=n+1;rw[ci e];obtain rfl:n=0:=z;intro g;have c:(rs[k],k)∈rs.zipIdx:=Wj.2 (by simp[a]);have:=atp.1 g _ c;unfold xl at this;rw[ci ⟨b,f,d⟩,aL]at this;simp[kW]at this;rw[bo e];exact i z
def aKr{rs:List bD}{s a k j:Nat}(e:k<rs)(f:rs[k].h=s)(aL:rs[k].args=[a])(l:j<rs)(i:rs[j].h=a)(c:rs[j].args=[])(o:2<Z s)(n:2<=need s)(b:1<Z a)(g:1<=need a):gh rs Z need 2 s 2≠[]:=by have d:=asB (Z:=Z) (need:=need) l i c b g 1 z;show(if 2=1+1 then rs.zipIdx.flatMap (xl (gh rs Z need 1) Z need 1 s)else gh rs Z need 1 s 2)≠[];rw[ci rfl];intro q;have m:(rs[k],k)∈rs.zipIdx:=Wj.2 (by simp[e]);have:=atp.1 q _ m;unfold xl at this;rw[ci ⟨f,o,n⟩,aL]at this;exact aEl d b this
end Go.bk
namespace Go.bk
open Go.di
def tH(rs:List bD)(s:Nat):Bool:=rs.any λr=>Nat.beq r.h s&&r.args.isEmpty
def Kl(rs:List bD)(an:Nat):Bool:=rs.any λr=>Nat.beq r.h an&&(match r.args with|[a]=>tH rs a|_=>false)
def unary(dp:List bD)(an s:Nat):Bool:=dp.any λr=>Nat.beq r.h an&&(match r.args with|[a]=>Nat.beq a s|_=>false)
def sh(dp rs:List bD)(an s i:Nat):Bool:=
 bif Nat.beq s an then(bif Nat.beq i 1 then !tH rs an else !(tH rs an||Kl rs an))else unary dp an s&& !tH rs s
def Bg(t:List (List Nat))(dp rs:List bD)(an a:Nat):List (List Nat):=
 (List.range a).map λs=>(List.range 6).map λi=>bif sh dp rs an s i then 0 else oN t s i
def KF(t:List (List Nat))(dp:List bD)(an b:Nat):Bool:=
 dp.all (λr=>Nat.blt r.h b&&(bif Nat.beq r.h an then(match r.args with|[]=>true|[a]=> !(Nat.beq a an)|l=>l.contains an)else(bif unary dp an r.h then(r.args.isEmpty||r.args.contains r.h)else true)))&&
 Nat.blt an b&&t.all (λl=>Nat.beq (l.getD 0 0) 0)
variable{a:Nat}
def Pu{b:Nat}(h:a≠b):Nat.beq a b=false:=by cases e:Nat.beq a b;rfl;exact absurd (gK e) h
variable{s:Nat}
def Ut{rs:List bD}(h:tH rs s=true):∃(k:Nat) (a:k<rs),rs[k].h=s/\rs[k].args=[]:=by let⟨r,b,H⟩:=K_.1 h;obtain⟨k,a,rfl⟩:=EQ b;simp only[dW]at H;exact⟨k,a,gK H.1,List.isEmpty_iff.1 H.2⟩
def abM{rs:List bD}(h:tH rs s=false){r:bD}(b:r∈rs)(a:r.h=s):r.args≠[]:=λe=>by
 have:tH rs s=true:=K_.2 ⟨r,b,by simp[a,e]⟩
 rw[h]at this;cases this
def SK(t:List (List Nat))(dp rs:List bD)(an a s i:Nat)(b:s<a)(hi:i<6):oN (Bg t dp rs an a) s i=bif sh dp rs an s i then 0 else oN t s i:=by
 conv=>lhs;unfold oN
 unfold Bg;rw[qt,qt,ou,afz b];simp only[ov,Ln];rw[ou,afz hi];rfl
def SL(t:List (List Nat))(dp rs:List bD)(an a s i:Nat)(h:¬(s<a/\i<6)):oN (Bg t dp rs an a) s i=0:=by unfold oN Bg;rw[qt,qt,ou];by_cases b:s<a;rw[afz b];simp only[ov,Ln];rw[ou,rh (by rw[afA];omega)];rfl;rw[rh (l:=List.range a) (by rw[afA];omega)];rfl
def ajb(t:List (List Nat))(dp rs:List bD)(an a s i:Nat):oN (Bg t dp rs an a) s i<=oN t s i:=by by_cases h:s<a/\i<6;rw[SK t dp rs an a s i h.1 h.2];cases sh dp rs an s i;exact aY _;exact dh _;rw[SL _ _ _ _ _ _ _ h];exact dh _
def ai3{bQ b:Nat->Nat->Nat}(c:∀s i,bQ s i<=b s i):∀(l:List Nat) {W W':Nat->Nat},(∀i,i<10->W i<=W' i)->∀i,i<10->pz bQ l W i<=pz b l W' i
 |[],W,W',h=>h
 |a::l,W,W',h=>ai3 c l λi _=>Qg h (λi _=>c a i) (aY _) 10 (aY _)
def apP{bQ b:Nat->Nat->Nat}(d:∀s i,bQ s i<=b s i):∀(l:List Nat) {W W':Nat->Nat},(∀i,i<10->W i<=W' i)->GW b l W'->GW bQ l W
 |[],W,W',h,n=>λi hi=>rk (h i hi) (n i hi)
 |a::l,W,W',h,n=>by have c:∀i,i<10->lq W (bQ a) 6 i 10<=lq W' (b a) 6 i 10:=λi _=>Qg h (λi _=>d a i) (aY _) 10 (aY _);exact⟨λi hi=>rk (h i hi) (n.1 i hi),λi hi=>rk (c i hi) (n.2.1 i hi),apP d l c n.2.2⟩
def asr{bQ a:Nat->Nat->Nat}(b:∀s i,bQ s i<=a s i)(s i:Nat)(hi:i<10):∀l:List bD,q8 bQ s i l<=q8 a s i l
 |[]=>aY _
 |r::l=>by simp only[q8];have H:=asr b s i hi l;split;{have:=ai3 b r.args (W:=lO) (W':=lO) (λ_ _=>aY _) i hi;omega};{omega}
def asq{W C:Nat->Nat}(h:∀i,C i=0)(n i:Nat):∀k,lq W C n i k=0
 |0=>rfl
 |k+1=>by have:=asq (W:=W) h n i k;simp only[lq,Am,this,h];split<;>simp
def asp{W C:Nat->Nat}(h:∀i,i<10->W i=0)(n i:Nat):∀k,k<=10->lq W C n i k=0
 |0,_=>rfl
 |k+1,a=>by have:=asp (C:=C) h n i k z;simp only[lq,Am,this,h k z];split<;>simp
def ai6{bQ:Nat->Nat->Nat}:∀(l:List Nat) {W:Nat->Nat},(∀i,i<10->W i=0)->∀i,i<10->pz bQ l W i=0
 |[],W,h=>h
 |a::l,W,h=>ai6 l λi _=>asp h 6 i 10 (aY _)
def SI{bQ:Nat->Nat->Nat}{a:Nat}(aL:∀i,bQ a i=0):∀(l:List Nat) (W:Nat->Nat),a∈l->∀i,i<10->pz bQ l W i=0
 |b::l,W,h=>by(rcases gJ.1 h with e|h);{subst e;exact ai6 l λi _=>asq aL 6 i 10};{exact SI aL l _ h}
def ai4{bQ:Nat->Nat->Nat}:∀(l:List Nat) {W:Nat->Nat},W 0=0->W 1=0∨l≠[]->pz bQ l W 0=0/\pz bQ l W 1=0
 |[],W,af,H=>by(rcases H with H|H);{exact⟨af,H⟩};{exact absurd rfl H}
 |a::l,W,af,_=>by(have dA:lq W (bQ a) 6 0 10=0:=by simp[lq,Am]);(have ak:lq W (bQ a) 6 1 10=0:=by simp[lq,Am,af]);exact ai4 l dA (.inl ak)
def asu{bQ:Nat->Nat->Nat}{s i:Nat}:∀{rs:List bD},(∀r∈rs,r.h=s->pz bQ r.args lO i=0)->q8 bQ s i rs=0
 |[],_=>rfl
 |r::l,h=>by simp only[q8];rw[asu λq a=>h q (jw _ a)];split;{rename_i e;rw[h r (ri ..) e]};{rfl}
variable{t:List (List Nat)}{an:Nat}
def ayf{dp rs:List bD}{c:Nat}(u:y' (oN t) dp)(l:KF t dp an c=true)(g:rs.Sublist dp):y' (oN (Bg t dp rs an c)) rs:=by
 have x:=ajb t dp rs an c;simp only[KF,dW]at l;let⟨⟨l,y⟩,af⟩:=l;have y:an<c:=by simpa using y
 have D:∀r∈rs,r.h<c/\(r.h=an->r.args=[]∨(∃a,r.args=[a]/\a≠an)∨an∈r.args)/\(r.h≠an->unary dp an r.h=true->r.args=[]∨r.h∈r.args):=λr b=>by have h:=iq.1 l r (g.subset b);simp only[dW]at h;refine⟨by simpa using h.1,λe=>?_,λe hu=>?_⟩;have I:=h.2;rw[e,Lj,eZ]at I;split at I;rename_i A;exact .inl A;rename_i a A;exact .inr (.inl ⟨a,A,λO=>by subst O;simp at I⟩);exact .inr (.inr (atl.1 I));{(have I:=h.2;have bX:Nat.beq r.h an=false:=Pu e;rw[bX,jL,hu,eZ]at I;rcases atc.1 I with o|o);exact .inl (List.isEmpty_iff.1 o);exact .inr (atl.1 o)}
 refine⟨λs i hi=>?_,λr b=>apP x _ (λ_ _=>aY _) (u.num r (g.subset b)),λs i=>rk (x s i) (u.lt s i)⟩;by_cases m:s<c
 .cases G:sh dp rs an s i with
  |false=>rw[SK t dp rs an c s i m hi,G,jL];exact c6 (asr x s i z rs) (c6 (ast g) (u.sum s i hi))
  |true=>
   have K:q8 (oN (Bg t dp rs an c)) s i rs=0:=asu λr b e=>by
    let⟨_,N,M⟩:=D r b;have n:∀a,a<c->(∀j,sh dp rs an a j=true)->∀j,oN (Bg t dp rs an c) a j=0:=λa aL h j=>by
     by_cases B:j<6;rw[SK t dp rs an c a j aL B,h j,eZ];exact SL _ _ _ _ _ _ _ λq=>B q.2
    subst e;by_cases d:r.h=an
    .unfold sh at G;rw[d,Lj,eZ]at G;by_cases ak:i=1
     .rw[ak,Lj,eZ]at G;have E:tH rs an=false:=by simpa using G
      rw[ak];exact(ai4 r.args (W:=lO) rfl (.inr (abM E b d))).2
     .have H:Nat.beq i 1=false:=Pu ak;rw[H,jL]at G;have k:tH rs an=false/\Kl rs an=false:=by simpa using G
      rcases N d with aL|⟨a,aL,L⟩|aL;exact absurd aL (abM k.1 b d)
      .have hu:unary dp an a=true:=K_.2 ⟨r,g.subset b,by rw[d,aL];simp⟩;have F:tH rs a=false:=by
        cases J:tH rs a;rfl;have:Kl rs an=true:=K_.2 ⟨r,b,by rw[d,aL];simp[J]⟩;rw[k.2]at this;cases this
       have f:∀j,sh dp rs an a j=true:=λj=>by unfold sh;have:Nat.beq a an=false:=Pu L;rw[this,jL,hu,F];rfl
       refine SI (a:=a) (λj=>?_) r.args lO (by rw[aL];exact ri ..) i z;by_cases has:a<c;exact n a has f j;exact SL _ _ _ _ _ _ _ λq=>has q.1
      .have f:∀j,sh dp rs an an j=true:=λj=>by unfold sh;rw[Lj,eZ,k.1,k.2];cases Nat.beq j 1<;>rfl
       exact SI (n an y f) r.args lO aL i z
    .have w:=G;unfold sh at w;have C:Nat.beq r.h an=false:=Pu d;rw[C,jL]at w;have hu:unary dp an r.h=true/\tH rs r.h=false:=by simpa using w
     rcases M d hu.1 with aL|aL;exact absurd aL (abM hu.2 b rfl)
     .have f:∀j,sh dp rs an r.h j=true:=λj=>by unfold sh;rw[C,jL,hu.1,hu.2];rfl
      exact SI (n r.h m f) r.args lO aL i z
   rw[K];exact dh _
 rw[adI λr b e=>m (by have:=(D r b).1;omega)];exact dh _
def x4(rs:List bD)(M:Nat->Nat)(an:Nat):Prop:=
 (∃(k:Nat) (b:k<rs.length),rs[k].h=an/\rs[k].args=[])∨
 (2<=M an/\∃(a k j:Nat) (b:k<rs.length) (c:j<rs.length),rs[k].h=an/\rs[k].args=[a]/\rs[j].h=a/\rs[j].args=[])
def ap'{rs:List bD}(h:Kl rs an=true):∃(a k j:Nat) (b:k<rs) (c:j<rs),rs[k].h=an/\rs[k].args=[a]/\rs[j].h=a/\rs[j].args=[]:=by let⟨r,e,H⟩:=K_.1 h;obtain⟨k,b,rfl⟩:=EQ e;simp only[dW]at H;let⟨H,I⟩:=H;split at I;rename_i a f;let⟨j,c,ak,d⟩:=Ut I;exact⟨a,k,j,b,c,gK H,f,ak,d⟩;cases I
def aJ2{dp rs:List bD}{M:Nat->Nat}(d:KF t dp an a=true){i:Nat}(hi:i<=M an)(h:oN (Bg t dp rs an a) an i≠0):x4 rs M an:=by
 simp only[KF,dW]at d;let⟨⟨_,b⟩,af⟩:=d;have b:an<a:=by simpa using b
 have g:i<6:=by by_cases c:i<6;exact c;exact absurd (SL _ _ _ _ _ _ _ λq=>c q.2) h
 have n:i≠0:=λe=>by
  subst e;apply h;have:=ajb t dp rs an a an 0;have m:oN t an 0=0:=by
   unfold oN;rw[qt (l:=t)];cases j:t[an]? with
   |none=>rfl
   |some l=>exact gK (iq.1 af l (CO j))
  omega
 rw[SK t dp rs an a an i b g]at h;have G:sh dp rs an an i=false:=by cases G:sh dp rs an an i;rfl;rw[G]at h;exact absurd rfl h
 unfold sh at G;rw[Lj,eZ]at G;by_cases ak:i=1;rw[ak,Lj,eZ]at G;exact .inl (Ut (by simpa using G))
 .have f:Nat.beq i 1=false:=Pu ak;rw[f,jL]at G;have k:tH rs an=true∨Kl rs an=true:=by cases H:tH rs an;right;rw[H]at G;simpa using G;exact .inl rfl
  rcases k with H|H;exact .inl (Ut H);exact .inr ⟨z,ap' H⟩
end Go.bk
namespace Go.bk
open Go Go.Proofs.Tryz Go.Proofs Go.RowKit Go.di
structure nn (w:Γ) (b n:Nat) (f:Nat->Nat):Prop where
 lt:b<w.heap.size
 kP:∃arr,w.heap[b]? =some (.cells arr 3 (0,0))/\arr.size=n/\∀i,i<n->arr[i]? =some (.int .i64 (f i))
variable{w:Γ}{b n i:Nat}{f:Nat->Nat}
def nn.cell(h:nn w b n f)(hi:i<n):w ⟨b,i,none⟩=some (.int .i64 (f i)):=by let⟨arr,H,_,a⟩:=h.kP;exact kQ H (a i hi)
def nn.free(h:nn w b n f)(i:Nat):w.frozen? ⟨b,i,none⟩=false:=by let⟨arr,H,_⟩:=h.kP;simp[World.frozen?,H]
def nn.K{w':Γ}{B:Nat}(h:nn w b n f)(c:b<B)(G:Below B w w'):nn w' b n f:=by let⟨arr,H,I,a⟩:=h.kP;exact⟨cT G h.lt,arr,by rw[G.block b c];exact H,I,a⟩
variable{m:Nat}
def nn.set(h:nn w b n f){j:Nat}(c:j<n):nn (w.setCell ⟨b,j,none⟩ m) b n (λi=>if i=j then m else f i):=by let⟨arr,H,I,a⟩:=h.kP;refine⟨by simpa using h.lt,arr.setIfInBounds j m,h' H _,by simpa using I,λi hi=>?_⟩;by_cases e:i=j;subst e;simp[I,hi];simp only[bo e];rw[AC (it e)];exact a i hi
def aFc(n:Nat)(H:1<=n)(a:n<=12):∀(w:Γ),(Instr.makeSlice 22 n n).run prog w=.ok (.slice (some ⟨w,0,none⟩) n n) (w.alloc (.cells (Array.replicate n (.int .i64 0)) 3)):=by exact aoq
def nn.zero(w:Γ)(n:Nat):nn (w.alloc (.cells (Array.replicate n (.int .i64 0)) 3)) w n (λ_=>0):=
 ⟨aq,_,c7 w _,aq,λi hi=>by simp[hi]⟩
def ie.set{wr:Γ}{a:Ω}(h:ie w a wr){v:Φ}(G:w.heap.size<b):ie w a (wr.setCell ⟨b,i,none⟩ v):=
 ⟨h.b.setCell (AK G) _,by unfold jM;rw[ht _ _ _ _ (show w.heap.size≠b by omega)];exact h.g⟩
structure ug (M:Nat->Nat) (rs:List bD) (an d:Nat) (f:Nat->Nat):Prop where
 le:∀i,f i<=5
 eo:M an<=f an
 Cy:∀j (ab:j<rs.length),j<d->rs[j].h=an->2<=M an->∀a,rs[j].args=[a]->1<=f a
variable{M:Nat->Nat}{an d:Nat}
def ug.HG{rs:List bD}(h:ug M rs an d f){a:Nat}(H:f a<=m)(k:m<=5):ug M rs an d (λi=>if i=a then m else f i):=by refine⟨λi=>?_,?_,λj g hd c I b G=>?_⟩;split;exact k;exact h.le i;split;rename_i e;have:=h.eo;rw[e]at this|-;omega;exact h.eo;have:=h.Cy j g hd c I b G;split;rename_i e;subst e;omega;exact this
def ug.step{rs:List bD}{k:Nat}(h:ug M rs an d f)(l:k<rs)(hd:k<=d)(hu:rs[k].h=an->2<=M an->∀a,rs[k].args=[a]->1<=f a):∃c,k+1<=c/\ug M rs an c f:=by by_cases dA:k+1<=d;exact⟨d,dA,h⟩;obtain rfl:d=k:=z;refine⟨d+1,z,h.le,h.eo,λj g i b I a aL=>?_⟩;by_cases e:j<d;exact h.Cy j g e b I a aL;obtain rfl:j=d:=z;exact hu b I a aL
section
variable {S:c8} {M:Nat->Nat} {rs:List bD} {ca be:Θ} {cc aW rb aK rc:Nat} {w:Γ}
def avT(S:c8)(M:Nat->Nat)(rs:List bD)(e:Ending)(w':Γ):Prop:=∃b f,e=.returned (.slice (some ⟨b,0,none⟩) S.aJ.length S.aJ.length)/\nn w' b S.aJ.length f/\ug M rs S.an rs.length f
attribute [local irreducible] wpStill wpAnyH in
def aFt(h:p1 S M rs ca be cc aW rb aK rc w): Calls prog 294 #[.agg (en S rs ca be cc aW rb aK rc)] w λe w'=>avT S M rs e w'/\β w w':=by
 have Iq:=A h;have aQ:=ie.d_ w (en S rs ca be cc aW rb aK rc);have uL:=h.ok.xw;have sx:=h.ok.aJ;have fb:=h.ok.an;have vV:=h.rX;have lR:=A h.yz;have F6:=h.yz S.an;have W4:=A (λr (ae:r∈rs)=>h.ok.BX r (h.sub.subset ae));obtain⟨bS,s,tA,j3,kf⟩:=h.y;have ps:=A (λW (ao:β w W) i (hi:i<S.aJ.length)=>aA ao j3 (kf i hi).2.2);subst tA;have jN:=A h.r;have qf:=aFc S.aJ.length uL sx;have u:=aN 3 aQ.g;clear h;go_enter func294,ntmps294;go_upto_region 2 with fail
 have aa:=A qf;clear qf u;have T:ie w (en S rs ca (some ⟨bS,s,none⟩) cc aW rb aK rc) ((w.alloc (.cells (en S rs ca (some ⟨bS,s,none⟩) cc aW rb aK rc) 29)).alloc (.cells (Array.replicate S.aJ.length (.int .i64 0)) 3)):=aQ.K ((bl _ _).alloc (aY _) _);have E:=nn.zero (w.alloc (.cells (en S rs ca (some ⟨bS,s,none⟩) cc aW rb aK rc) 29)) S.aJ.length;rw[jt]at E;clear aQ aa;generalize (w.alloc (.cells (en S rs ca (some ⟨bS,s,none⟩) cc aW rb aK rc) 29)).alloc (.cells (Array.replicate S.aJ.length (.int .i64 0)) 3)=am at*;have oH:=E.lt;have fr:=E.free S.an;have bi:=E.cell fb;obtain⟨-,-,-,u,-,d'⟩:=gp T.g;have hK:=ps.out _ T.b S.an fb;have UU:w.heap.size≠w.heap.size+1:=z;have av:bS≠w.heap.size+1:=z;have gQ:(0:Int)<=(S.an:Int):=z;have gb:(S.an:Int)<S.aJ.length:=z;clear kf
 go_region_held3 (λX=>X ⟨w.heap.size,3,none⟩=some (.slice (some ⟨bS,s,none⟩) S.aJ.length aW)/\X ⟨w.heap.size,5,none⟩=some (.int .i64 S.an)/\X ⟨bS,s+S.an*3+2,none⟩=some (.int .i64 (M S.an))) (first|exact⟨u,d',hK⟩|exact⟨(nN (ht _ _ _ _ UU)).trans u,(nN (ht _ _ _ _ UU)).trans d',(nN (ht _ _ _ _ av)).trans hK⟩|go_keep) (fail);have ni:ie w (en S rs ca (some ⟨bS,s,none⟩) cc aW rb aK rc) (am.setCell ⟨w.heap.size+1,S.an,none⟩ (.int .i64 (M S.an))).drew:=(T.set z).Jb;have Bt:=(E.set (m:=M S.an) fb).K (B:=w.heap.size+2) z ((bl _ _).drew);have af:ug M rs S.an 0 (λi=>if i=S.an then M S.an else 0):=⟨λi=>by
  split
  .exact F6.2
  .omega,aq,λj ab hd=>z⟩
 clear T E oH fr bi u d' hK;generalize (am.setCell ⟨w.heap.size+1,S.an,none⟩ (.int .i64 (M S.an))).drew=ap at*;generalize qe:(λi=>if i=S.an then M S.an else 0)=lw at*;clear qe;go_wp2;go_loopw [4] (λv wr=>∃(t d:Nat) (f:Nat->Nat),t<=S.aJ.length+1/\v=.int .i64 t/\(1<=t->rs.length<=d)/\ie w (en S rs ca (some ⟨bS,s,none⟩) cc aW rb aK rc) wr/\nn wr (w.heap.size+1) S.aJ.length f/\ug M rs S.an d f) (λv _=>S.aJ.length+1-(RowKit.intOf v).toNat);case atStart=>exact⟨0,0,_,dh _,rfl,z,ni,Bt,af⟩
 case round=>clear ni Bt af;obtain⟨t,d,f,aj,rfl,hd,l,n,g⟩:=hrel;have u:=aN 3 l.g;have q2:=de l.g;by_cases au:t<S.aJ.length+1;{have jh:(t:Int)<(S.aJ.length:Int)+1:=z;have aB:(S.aJ.length:Int)<=12:=z;(go_wp2;go_loopw [5] (λv wr=>∃(k d:Nat) (f:Nat->Nat),k<=rs.length/\v=.int .i64 k/\k<=d/\ie w (en S rs ca (some ⟨bS,s,none⟩) cc aW rb aK rc) wr/\nn wr (w.heap.size+1) S.aJ.length f/\ug M rs S.an d f) (λv _=>rs.length-(RowKit.intOf v).toNat);case atStart=>exact⟨0,d,f,dh _,rfl,dh _,l,n,g⟩);case round=>clear l n g u q2 hd;obtain⟨k,d,f,aa,rfl,zO,l,n,g⟩:=hrel;have dr:=aN 4 l.g;have q2:=de l.g;by_cases uK:k<rs.length;{(obtain⟨uZ,Kz,cg,K,kU⟩:=jN.out;cases cg;obtain⟨y,ac,ae⟩:=kU k uK;have fi:=(l.b.cell K).trans ae.bi;have b_:=(l.b.cell K).trans ae.c1;have cv:=(l.b.cell K).trans ae.c2;have ek:=(l.b.cell K).trans ae.c3;have jS:=A ae.args;obtain⟨ck,o4,zI,_,_⟩:=W4.out _ (fp uK);have m':(0:Int)<=(k:Int):=z;have l4:(k:Int)<rs.length:=z;clear kU ae;go_upto_region 10 with fail);(have C1:ie w (en S rs ca (some ⟨bS,s,none⟩) cc aW rb aK rc) (wr.alloc (.cells #[.int .i64 rs[k].h,.string rs[k].op,.string rs[k].aO,.slice y rs[k].args.length ac] 101)).drew:=(l.K ((bl _ _).alloc (aY _) _)).Jb;have O:jM (wr.alloc (.cells #[.int .i64 rs[k].h,.string rs[k].op,.string rs[k].aO,.slice y rs[k].args.length ac] 101)).drew wr.heap.size 101 #[.int .i64 rs[k].h,.string rs[k].op,.string rs[k].aO,.slice y rs[k].args.length ac]:=(jM.d_ wr _ _).K ((bl _ _).drew);have Z:nn (wr.alloc (.cells #[.int .i64 rs[k].h,.string rs[k].op,.string rs[k].aO,.slice y rs[k].args.length ac] 101)).drew (w.heap.size+1) S.aJ.length f:=n.K n.lt ((fu wr _).drew);have az:w.heap.size+1<wr.heap.size:=n.lt;have BS:=de O;refine wt aw aw ?_;change wpStill _ _ (wr.alloc (.cells #[.int .i64 rs[k].h,.string rs[k].op,.string rs[k].aO,.slice y rs[k].args.length ac] 101)).drew (λa'=>Exit.then _ _ Exit.normal a' (wr.alloc (.cells #[.int .i64 rs[k].h,.string rs[k].op,.string rs[k].aO,.slice y rs[k].args.length ac] 101)).drew) _ _;clear l n fi b_ cv ek dr;generalize (wr.alloc (.cells #[.int .i64 rs[k].h,.string rs[k].op,.string rs[k].aO,.slice y rs[k].args.length ac] 101)).drew=w3 at*;generalize wr.heap.size=C at*;obtain⟨fV,-,-,D⟩:=YG O;have SF:=Z.cell ck;have ay:=g.le rs[k].h;have pa:(0:Int)<=(rs[k].h:Int):=z;have BP:(rs[k].h:Int)<(S.aJ.length:Int):=z;have zY:(f rs[k].h:Int)<=5:=z;have GI:(rs[k].args.length:Int)<=3:=z;repeat still_step);refine tU ?_;have ag:IntKind.i64.wrap ((f rs[k].h:Int)-(rs[k].args.length:Int))=(f rs[k].h:Int)-(rs[k].args.length:Int):=pU _ ⟨z,z⟩;rw[ag];obtain⟨R,G⟩:∃R:Int,(f rs[k].h:Int)-(rs[k].args.length:Int)=R:=⟨_,rfl⟩;rw[G];clear ag SF;have l1:R<=5:=z;have ax:=A g.eo;have G:=A G;have iv:=A (show Go.bk.ug M rs S.an d f from g);(go_wp2;go_loopw [8] (λv wr=>∃(j:Nat) (x:Nat->Nat),j<=rs[k].args.length/\v=.int .i64 j/\ie w (en S rs ca (some ⟨bS,s,none⟩) cc aW rb aK rc) wr/\jM wr C 101 #[.int .i64 rs[k].h,.string rs[k].op,.string rs[k].aO,.slice y rs[k].args.length ac]/\nn wr (w.heap.size+1) S.aJ.length x/\ug M rs S.an d x/\Hid (1<=j->rs[k].h=S.an->2<=M S.an->∀a,rs[k].args=[a]->1<=x a)) (λv _=>rs[k].args.length-(RowKit.intOf v).toNat);case atStart=>exact⟨0,f,dh _,rfl,C1,O,Z,g,A λh=>z⟩);case round=>clear C1 O Z g fV D BS ay zY;obtain⟨j,x,ab,rfl,l,F,n,g,C8⟩:=hrel;have D:=aN 3 F;have u:=aN 3 l.g;have BS:=de F;by_cases ai:j<rs[k].args.length;{have bN:(0:Int)<=(j:Int):=z;have dx:(j:Int)<(rs[k].args.length:Int):=z;obtain⟨H,eL,rfl,iE,o5⟩:=jS.out z;have N:=(l.b.cell iE).trans (o5 j ai);have Y:=zI _ (fp ai);have Q:=ps.out _ l.b _ Y;have fW:=n.cell Y;have gP:=n.free rs[k].args[j];have bG:=n.lt;have OF:=lR.out rs[k].args[j];have Oo:=g.le rs[k].args[j];have gc:(0:Int)<=(rs[k].args[j]:Int):=z;have tG:(rs[k].args[j]:Int)<(S.aJ.length:Int):=z;clear o5;(go_wp2;refine CK (S:=(λW=>W ⟨w.heap.size,3,none⟩=some (.slice (some ⟨bS,s,none⟩) S.aJ.length aW)/\W ⟨C,3,none⟩=some (.slice (some ⟨H,eL,none⟩) rs[k].args.length ac)/\W ⟨H,eL+j,none⟩=some (.int .i64 rs[k].args[j])/\W ⟨bS,s+rs[k].args[j]*3+2,none⟩=some (.int .i64 (M rs[k].args[j])))) aw ⟨u,D,N,Q⟩ (λko=>?_);refine cn 0 60 ?_;refine cn 1 61 ?_;refine cn 2 62 ?_;refine cn 3 63 ?_;refine cn 4 64 ?_;refine cn 5 65 ?_;refine cn 6 66 ?_;refine cn 7 67 ?_;refine cn 8 68 ?_;refine cn 9 69 ?_;refine cn 10 70 ?_;refine cn 11 71 ?_;refine cn 12 72 ?_;refine cn 14 74 ?_;refine cn 15 75 ?_;refine cn 16 76 ?_;refine cn 17 77 ?_;refine cn 18 78 ?_;refine cn 19 79 ?_;refine cn 20 80 ?_;refine cn 21 81 ?_;refine cn 22 82 ?_;refine cn 23 83 ?_;refine cn 24 84 ?_;refine cn 25 85 ?_;refine pg 13 (λcf g=>?_);go_simp;refine g.out _ _ ⟨u,D,N,Q⟩ (λko=>?_);clear g cf;refine ix ?_;refine cn 26 86 ?_;refine cn 27 87 ?_;try simp only[show ∀a b:Int,max a b=if a<b then b else a from λa b=>by split<;>omega,show ∀a b:Int,min a b=if b<a then b else a from λa b=>by split<;>omega]);(generalize U:(if(x rs[k].args[j]:Int)<if(M rs[k].args[j]:Int)<R then(M rs[k].args[j]:Int)else R then if(M rs[k].args[j]:Int)<R then(M rs[k].args[j]:Int)else R else(x rs[k].args[j]:Int))=ak;obtain⟨m,rfl,ar,an,mq⟩:∃m:Nat,ak=(m:Int)/\x rs[k].args[j]<=m/\m<=5/\(1<=R->1<=m):=by refine⟨ak.toNat,?_,?_,?_,?_⟩;all_goals(split at U<;>(try split at U)<;>omega));(clear U;refine pg 28 (λcf g=>?_);go_simp;refine g.out _ _ ⟨(nN (ht _ _ _ _ (show w.heap.size≠w.heap.size+1 by omega))).trans u,(nN (ht _ _ _ _ (show C≠w.heap.size+1 by omega))).trans D,(nN (ht _ _ _ _ (show H≠w.heap.size+1 by omega))).trans N,(nN (ht _ _ _ _ (show bS≠w.heap.size+1 by omega))).trans Q⟩ (λko=>?_);clear g cf;refine ix ?_;refine EM aw ?_ _;have Ip:=(l.set (b:=w.heap.size+1) (i:=rs[k].args[j]) (v:=.int .i64 m) z).Jb;have i7:jM (wr.setCell ⟨w.heap.size+1,rs[k].args[j],none⟩ (.int .i64 m)).drew C 101 #[.int .i64 rs[k].h,.string rs[k].op,.string rs[k].aO,.slice (some ⟨H,eL,none⟩) rs[k].args.length ac]:=by show(wr.setCell ⟨w.heap.size+1,rs[k].args[j],none⟩ (.int .i64 m)).heap[C]? =_;rw[ht _ _ _ _ (show C≠w.heap.size+1 by omega)];exact F);(have td:=(n.set (m:=m) Y).K (B:=w.heap.size+2) z ((bl _ _).drew);have ah:=g.HG ar an;have ad:Hid (1<=j+1->rs[k].h=S.an->2<=M S.an->∀a,rs[k].args=[a]->1<=(λi=>if i=rs[k].args[j]then m else x i) a):=A λ_ V I a aL=>by(have L:rs[k].args.length=1:=by rw[aL];rfl);(have Jw:=G.out;have kr:=ax.out;rw[<-V]at kr I;have e:rs[k].args[j]=a:=by have:j=0:=z;subst this;simp[aL]);simp only[e,oR];exact mq (by rw[L]at Jw;omega));clear l F n g C8 N Q fW gP u D ko;generalize (wr.setCell ⟨w.heap.size+1,rs[k].args[j],none⟩ (.int .i64 m)).drew=bc at*;generalize (λi=>if i=rs[k].args[j]then m else x i)=f5 at*;(go_wp2;go_roundw;case rel=>first|exact⟨j+1,f5,z,bz,Ip,i7,td,ah,ad⟩|((repeat apply Exists.intro);refine⟨?_,rfl⟩;exact⟨j+1,f5,z,bz,Ip,i7,td,ah,ad⟩));case measure=>simp[RowKit.intOf];omega};{obtain rfl:j=rs[k].args.length:=z;obtain⟨c9,mJ,al⟩:=g.step uK zO (λV I a aL=>C8.out (by rw[aL];simp) V I a aL);go_wp2;exact⟨⟨k+1,c9,x,z,bz,mJ,l,n,al⟩,by simp[RowKit.intOf];omega⟩}};{obtain rfl:k=rs.length:=z;have l4:¬(rs.length:Int)<rs.length:=z;go_wp2;exact⟨⟨t+1,d,f,z,bz,λ_=>zO,l,n,g⟩,by simp[RowKit.intOf];omega⟩}};{have jh:¬(t:Int)<(S.aJ.length:Int)+1:=z;obtain rfl:t=S.aJ.length+1:=z;go_wp2;go_ret;exact⟨⟨_,f,rfl,n,⟨g.le,g.eo,λj ab _=>g.Cy j ab (by have:=hd z;omega)⟩⟩,l.b⟩}
end
end Go.bk
namespace Go.bk
open Go Go.Proofs Go.RowKit Go.di
def uh(w:Γ)(v:Φ)(q:List Int):Prop:=∃a b,v=.slice a q.length b/\p3 w a q
variable{w w':Γ}{v:Φ}{q:List Int}
def uh.kept(h:uh w v q)(b:xW w w'):uh w' v q:=by let⟨c,d,e,a⟩:=h;exact⟨c,d,e,a.kept b⟩
def uh.xn(h:uh w v q):v.oneCell'=true:=by obtain⟨a,b,rfl,_⟩:=h;rfl
def kO(w:Γ):List Φ->List (List Int)->Prop
 |[],[]=>True
 |v::vs,q::l=>uh w v q/\kO w vs l
 |_,_=>False
def kO.len{w:Γ}:∀{a:List Φ} {l:List (List Int)},kO w a l->a.length=l.length
 |[],[],_=>rfl
 |v::vs,q::l,h=>by simp[kO.len h.2]
def kO.kept{w w':Γ}(a:xW w w'):∀{b:List Φ} {l:List (List Int)},kO w b l->kO w' b l
 |[],[],_=>gL
 |v::vs,q::l,h=>⟨h.1.kept a,h.2.kept a⟩
def ano(G:β w w'):xW w w':=λb arr bd a=>by rw[G.block b (de a)];exact a
variable{l:List (List Int)}
def kO.K{a:List Φ}(h:kO w a l)(G:β w w'):kO w' a l:=h.kept (ano G)
def kO.A_{w:Γ}:∀{a zs:List Φ} {l m:List (List Int)},kO w a l->kO w zs m->kO w (a++zs) (l++m)
 |[],zs,[],m,_,h=>h
 |v::vs,zs,q::l,m,H,I=>⟨H.1,H.2.A_ I⟩
def kO.kP{w:Γ}:∀{a:List Φ} {l:List (List Int)} (_:kO w a l) (i:Nat) (hi:i<l),∃v,a[i]? =some v/\uh w v l[i]
 |[],[],_,_,hi=>by simp at hi
 |v::vs,q::l,h,0,_=>⟨v,rfl,h.1⟩
 |v::vs,q::l,h,i+1,hi=>by let⟨u,H,I⟩:=kO.kP h.2 i (by simpa using hi);exact⟨u,by simpa using H,by simpa using I⟩
def kO.xn{w:Γ}:∀{a:List Φ} {l:List (List Int)},kO w a l->∀u∈a,u.oneCell'=true
 |[],[],_,u,hu=>by cases hu
 |v::vs,q::l,h,u,hu=>by(rcases gJ.1 hu with rfl|hu);{exact h.1.xn};{exact h.2.xn u hu}
def sa(w:Γ)(va:Θ)(l:List (List Int)):Prop:=0<l.length->∃b o arr bd a,va=some ⟨b,o,none⟩/\w.heap[b]? =some (.cells arr 22 bd)/\kO w a l/\∀(i:Nat) u,a[i]? =some u->arr[o+i]? =some u
variable{va:Θ}
def sa.kept(h:sa w va l)(d:xW w w')(f:∀b o,va=some ⟨b,o,none⟩->w'.heap[b]? =w.heap[b]?):sa w' va l:=λaf=>by
 let⟨b,o,arr,bd,g,e,a,ag,c⟩:=h af
 exact⟨b,o,arr,bd,g,e,by rw[f b o e];exact a,ag.kept d,c⟩
def sa.K(h:sa w va l)(G:β w w'):sa w' va l:=λaf=>by
 let⟨b,o,arr,bd,d,e,a,ag,c⟩:=h af
 exact⟨b,o,arr,bd,d,e,by rw[G.block b (de a)];exact a,ag.K G,c⟩
def sa.cell{w:Γ}{va:Θ}{l:List (List Int)}(h:sa w va l)(af:0<l.length):∃b o,va=some ⟨b,o,none⟩/\b<w.heap.size/\∀i (hi:i<l.length),∃v,w ⟨b,o+i,none⟩=some v/\uh w v l[i]:=by obtain⟨b,o,arr,bd,d,e,a,ag,c⟩:=h af;refine⟨b,o,e,de a,λi hi=>?_⟩;obtain⟨u,H,I⟩:=ag.kP i hi;exact⟨u,by simp only[World.cell?,a];exact c i u H,I⟩
def sa.fD{w:Γ}{va:Θ}{l:List (List Int)}(h:sa w va l)(g:va=none->l=[]):∃a,kO w a l/\((∃ad,va=some ad/\∀(j:Nat) u,a[j]? =some u->w.cell? (ad.add j)=some u)∨(va=none/\l=[])):=by
 by_cases af:0<l.length
 .obtain⟨b,o,arr,bd,a,e,c,ag,d⟩:=h af;refine⟨a,ag,.inl ⟨_,e,λj u hu=>?_⟩⟩;have f:(⟨b,o,none⟩:Addr).add j=⟨b,o+j,none⟩:=by unfold Addr.add;split<;>simp_all
  rw[f];simp only[World.cell?,c];exact d j u hu
 .have c:l=[]:=CL z;subst c;refine⟨[],gL,?_⟩;cases va with
  |none=>exact .inr ⟨rfl,rfl⟩
  |some ad=>exact .inl ⟨ad,rfl,λj u hu=>by simp at hu⟩
def sa.aHn{T:List Int->Prop}{w:Γ}{va:Θ}{l:List (List Int)}(h:sa w va l)(g:∀q∈l,T q):x3 T w va l.length:=λaf=>by
 obtain⟨b,o,e,a,c⟩:=h.cell af
 refine⟨b,o,e,a,λi hi=>?_⟩
 obtain⟨v,H,f,j,I,d⟩:=c i hi
 exact⟨v,H,f,j,l[i],I,d,g _ (fp hi)⟩
variable{n:Nat}{aH:List Φ}
def BW{base:Nat}{e t:TypeId}{size:Nat}(h:w.ownsRow base e size v n aH){b:Nat}{cs:Ω}{fr:Nat×Nat}(G:w.heap[b]? =some (.cells cs t fr))(aj:t≠e):some b≠v.ownBlock:=by exact an'
def GL{base:Nat}{size:Nat}(h:w.ownsRow base 22 size v n aH)(ar:w.grownBy w' v.ownBlock):xW w w':=λb arr bd a=>by
 rw[ar.block b (de a) (BW h a al)];exact a
def aqN{base:Nat}{b:List Φ}(h:w.ownsRow base 22 1 v n b)(ag:kO w b l)(d:l.length=n):∃va c,v=.slice va l c/\sa w va l/\(va=none->l=[]/\c=0)/\l.length<=c:=by
 subst d;rcases h.2 with⟨ak,a⟩|⟨g,cap,j,ak,a,e,f,m,o,k⟩
 refine⟨none,0,?_,λaf=>z,λ_=>⟨CL a,rfl⟩,z⟩;rw[ak,a]
 .refine⟨_,cap,ak,λaf=>⟨g,0,j,(0,0),b,rfl,e,ag,λi u hu=>?_⟩,λh=>(by cases h),f⟩;rw[gy];have au:i<l.length*1:=by have:=(kL.1 hu).1;rw[ag.len]at this;omega
  rw[<-k,pk,ci au]at hu;simpa using hu
def aIB{P:Program}(base:Nat)(t ty e:TypeId)(i:TypeInfo)(size:Nat)(aj:P.underlying t=some (.slice e))(hi:P.info? e=some i) (v:Φ)(n c:Nat)(aH:List Φ)(a:w.ownsRow base e size v n aH): (Builtin.append_ #[t,t] ty #[v,.slice none 0 c]).run P w=.ok v w:=by
 rcases a.2 with⟨rfl,rfl⟩|⟨g,cap,d,rfl,_,_,b,_⟩
 simp[Builtin.append_,afr aj,sizeOf,typeInfo,hi,Builtin.lenOf,Builtin.firstCells];simp[Builtin.append_,afr aj,sizeOf,typeInfo,hi,Builtin.lenOf,Builtin.firstCells,b,storeCells]
section
variable {P:Program} (w:Γ)
def asY{o:Oper}{a:Act}{p:Act->Γ->Prop}{c':Exit->Act->Γ->Prop}(s x:Operand)(t:TypeId) (l:o.op=.call {callee:=.builtin .append,args:=#[s,x],argTypes:=#[t,t]}) (base:Nat)(e:TypeId)(i:TypeInfo)(ai:Φ)(size bytes:Nat)(aj:P.underlying t=some (.slice e))(hi:P.info? e=some i)(z:i.zero=some ai) (L:i.size=size)(F:i.bytes=bytes)(D:ai.cells.size=size)(C:0<size) (v:Φ)(n:Nat)(aH:List Φ)(g:a.eval s=v)(d:w.ownsRow base e size v n aH) (va:Θ)(m c:Nat)(fD:List Φ)(k:a.eval x=.slice va m c)(f:fD.length=m*size) (J:(∃ad,va=some ad/\∀(j:Nat) u,fD[j]? =some u->w.cell? (ad.add j)=some u)∨(va=none/\m=0))(H:∀u∈fD,u.oneCell'=true) (K:n+m<=maxLen)(G:(n+m)*bytes<=140737488355328)(E:base<=w.heap.size) (h:∀b w',w'.ownsRow base e size b (n+m) (aH++fD)->w.grownBy w' v.ownBlock->(b.ownBlock=v.ownBlock∨b.ownBlock=some w.heap.size)->p (a.put o.dst b) w'):o.wp P a w p c':=by
 rcases J with⟨ad,rfl,M⟩|⟨rfl,rfl⟩
 .obtain⟨b,w',q,I,r,N,A⟩:=run_append_own_at (P:=P) w base t o.type e i ai size bytes aj hi z L F D C v n aH d ad m c fD f M H K G E;unfold Oper.wp execOp;simp only[l,resolve,invoke,builtin,e7,fI,eY,Rl,qu,ER,g,k,q];exact h b w' I r A
 .have y:fD=[]:=CL (by simpa using f);subst y;have B:=aIB (P:=P) (w:=w) base t o.type e i size aj hi v n c aH d;unfold Oper.wp execOp;simp only[l,resolve,invoke,builtin,e7,fI,eY,Rl,qu,ER,g,k,B];exact h v w (by simpa using d) ⟨rfl,rfl,rfl,aY _,λ_ _ _=>rfl⟩ (.inl rfl)
def aMg{ops:Array Oper}{rest:List Oper}{o:Oper}{a:Act}{c':Exit->Act->Γ->Prop}(C:o.guard=none)(s x:Operand)(t:TypeId)
  (q:o.op=.call {callee:=.builtin .append,args:=#[s,x],argTypes:=#[t,t]})
  (base:Nat)(e:TypeId)(i:TypeInfo)(ai:Φ)(size bytes:Nat)(aj:P.underlying t=some (.slice e))(hi:P.info? e=some i)(p:i.zero=some ai)
  (G:i.size=size)(D:i.bytes=bytes)(A:ai.cells.size=size)(z:0<size)
  (v:Φ)(n:Nat)(aH:List Φ)(f:a.eval s=v)(r:w.ownsRow base e size v n aH)
  (va:Θ)(m c:Nat)(fD:List Φ)(k:a.eval x=.slice va m c)(d:fD.length=m*size)
  (J:(∃ad,va=some ad/\∀(j:Nat) u,fD[j]? =some u->w.cell? (ad.add j)=some u)∨(va=none/\m=0))(H:∀u∈fD,u.oneCell'=true)
  (F:n+m<=maxLen)(E:(n+m)*bytes<=140737488355328)(B:base<=w.heap.size)
  (h:∀b w',w'.ownsRow base e size b (n+m) (aH++fD)->w.grownBy w' v.ownBlock->(b.ownBlock=v.ownBlock∨b.ownBlock=some w.heap.size)->wpList P ops c' rest (a.put o.dst b) w'):wpList P ops c' (o::rest) a w:=
 Wb C λ_ y=>asY w s x t q base e i ai size bytes aj hi p G D A z v n aH f r va m c fD k d J H F E B λb w' I l g=>y _ _ (h b w' I l g)
def aJ9{ops:Array Oper}{o:Oper}{a:Act}{d:Act->Γ->Prop}{c':Exit->Act->Γ->Prop}{E:Prop}(B:o.guard=none)(s x:Operand)(t:TypeId) (p:o.op=.call {callee:=.builtin .append,args:=#[s,x],argTypes:=#[t,t]}) (base:Nat)(e:TypeId)(i:TypeInfo)(ai:Φ)(size bytes:Nat)(aj:P.underlying t=some (.slice e))(hi:P.info? e=some i)(l:i.zero=some ai) (G:i.size=size)(C:i.bytes=bytes)(z:ai.cells.size=size)(r:0<size) (v:Φ)(n:Nat)(aH:List Φ)(g:a.eval s=v)(q:w.ownsRow base e size v n aH) (va:Θ)(m c:Nat)(fD:List Φ)(k:a.eval x=.slice va m c)(f:fD.length=m*size) (J:(∃ad,va=some ad/\∀(j:Nat) u,fD[j]? =some u->w.cell? (ad.add j)=some u)∨(va=none/\m=0))(H:∀u∈fD,u.oneCell'=true) (F:n+m<=maxLen)(D:(n+m)*bytes<=140737488355328)(A:base<=w.heap.size) (h:∀b w',w'.ownsRow base e size b (n+m) (aH++fD)->w.grownBy w' v.ownBlock->(b.ownBlock=v.ownBlock∨b.ownBlock=some w.heap.size)->d (a.put o.dst b) w'): if Region.wanted o (yielded ops a.tmps)=true then Oper.wp P o a w d c' else E:=by
 have y:Region.wanted o (yielded ops a.tmps)=true:=by simp[Region.wanted,B]
 rw[ci y];exact asY w s x t p base e i ai size bytes aj hi l G C z r v n aH g q va m c fD k f J H F D A h
def asf{d:Option Tmp}{ops:Array Oper}{o:Oper}{a:Act}{f:Act->Γ->Prop}{c':Exit->Act->Γ->Prop}{E:Prop}(hd:o.dst=d)(B:o.guard=none)(s x:Operand)(t:TypeId) (q:o.op=.call {callee:=.builtin .append,args:=#[s,x],argTypes:=#[t,t]}) (base:Nat)(e:TypeId)(i:TypeInfo)(ai:Φ)(size bytes:Nat)(aj:P.underlying t=some (.slice e))(hi:P.info? e=some i)(p:i.zero=some ai) (G:i.size=size)(C:i.bytes=bytes)(z:ai.cells.size=size)(y:0<size) (v:Φ)(n:Nat)(aH:List Φ)(k:a.eval s=v)(r:w.ownsRow base e size v n aH) (va:Θ)(m c:Nat)(fD:List Φ)(l:a.eval x=.slice va m c)(g:fD.length=m*size) (J:(∃ad,va=some ad/\∀(j:Nat) u,fD[j]? =some u->w.cell? (ad.add j)=some u)∨(va=none/\m=0))(H:∀u∈fD,u.oneCell'=true) (F:n+m<=maxLen)(D:(n+m)*bytes<=140737488355328)(A:base<=w.heap.size) (h:∀b w',w'.ownsRow base e size b (n+m) (aH++fD)->w.grownBy w' v.ownBlock->(b.ownBlock=v.ownBlock∨b.ownBlock=some w.heap.size)->f (a.put d b) w'): if Region.wanted o (yielded ops a.tmps)=true then Oper.wp P o a w f c' else E:=by subst hd;exact aJ9 w B s x t q base e i ai size bytes aj hi p G C z y v n aH k r va m c fD l g J H F D A h
variable{ops:Array Oper}{o:Oper}{a:Act}{E:Prop}
def adA{d:Option Tmp}{b:Act->Γ->Prop}{c':Exit->Act->Γ->Prop}(hd:o.dst=d)(D:o.guard=none)(s x:Operand)(t:TypeId) (r:o.op=.call {callee:=.builtin .append,args:=#[s,x],argTypes:=#[t,t]}) (base:Nat)(e:TypeId)(i:TypeInfo)(ai:Φ)(size bytes:Nat)(aj:P.underlying t=some (.slice e))(hi:P.info? e=some i)(q:i.zero=some ai) (J:i.size=size)(F:i.bytes=bytes)(B:ai.cells.size=size)(A:0<size) (v:Φ)(n:Nat)(aH:List Φ)(k:a.eval s=v)(z:w.ownsRow base e size v n aH) (ad:Addr)(m c:Nat)(fD:List Φ)(l:a.eval x=.slice (some ad) m c)(f:fD.length=m*size)(K:∀j u,fD[j]? =some u->w.cell? (ad.add j)=some u)(H:∀u∈fD,u.oneCell'=true) (p:0<m)(I:n+m<=maxLen)(G:(n+m)*bytes<=140737488355328)(C:base<=w.heap.size)(ay:Nat)(y:w.heap.size=ay) (h:∀g cap w',w'.ownsRow base e size (.slice (some ⟨g,0,none⟩) (n+m) cap) (n+m) (aH++fD)->w.grownBy w' v.ownBlock->(v.ownBlock=some g∨g=ay)->g<w'.heap.size->b (a.put d (.slice (some ⟨g,0,none⟩) (n+m) cap)) w'): if Region.wanted o (yielded ops a.tmps)=true then Oper.wp P o a w b c' else E:=by subst hd;exact K8 w D s x t r base e i ai size bytes aj hi q J F B A v n aH k z ad m c fD l f K H p I G C ay y h
end
def IM(w:Γ)(bS d:Nat)(Z:Nat->Nat)(c:Nat->Nat->List (List Int)):Prop:=
 bS<w.heap.size/\∃(b f:Nat) (b8:Nat->Nat),w ⟨bS,6,none⟩=some (.slice (some ⟨b,0,none⟩) d f)/\b<w.heap.size/\∀a,a<d->b8 a<w.heap.size/\w ⟨b,a,none⟩=some (.slice (some ⟨b8 a,0,none⟩) (Z a) (Z a))/\
  ∀i,i<Z a->∃va e,w ⟨b8 a,i,none⟩=some (.slice va (c a i).length e)/\sa w va (c a i)
def IM.K{bS d:Nat}{Z:Nat->Nat}{c:Nat->Nat->List (List Int)}(h:IM w bS d Z c)(G:β w w'):IM w' bS d Z c:=by let⟨af,g,n,b8,H,I,e⟩:=h;refine⟨cT G af,g,n,b8,aA G af H,cT G I,λa aL=>?_⟩;let⟨b,f,l⟩:=e a aL;refine⟨cT G b,aA G I f,λi hi=>?_⟩;let⟨va,j,m,k⟩:=l i hi;exact⟨va,j,aA G b m,k.K G⟩
end Go.bk
namespace Go.bk
open Go Go.Proofs.Tryz Go.Proofs Go.RowKit Go.di
def aqJ{a:Type}(F:Nat->List a)(l:List a)(n:Nat)(H:1<=n)(b:l.length<=(F n).length):∀N,n<=N->((List.range' 1 (n-1)).flatMap F++l).length<=((List.range' 1 N).flatMap F).length
 |0,h=>by omega
 |N+1,h=>by rw[afa,H1];by_cases e:n<=N;{have:=aqJ F l n H b N e;simp only[ir]at*;omega};{obtain rfl:n=N+1:=z;rw[yN,Rh,rf,Rn,tW 1 N];simp only[ir];omega}
def aHm{a:Type}(F:Nat->List a)(n:Nat)(H:1<=n):(List.range' 1 (n-1)).flatMap F++F n=(List.range' 1 (n+1-1)).flatMap F:=by obtain⟨m,rfl⟩:∃m,n=m+1:=⟨n-1,z⟩;rw[Rn,Rn,afa,H1,yN,Rh,rf,tW 1 m]
def aKz{b c:Type}(a:b->List c)(l:List b)(k:Nat)(d:k<l):(l.take k).flatMap a++a l[k]=(l.take (k+1)).flatMap a:=by rw[r6 d,H1,yN,Rh,rf]
def aKy{b c:Type}(a:b->List c)(l:List b)(k:Nat):((l.take k).flatMap a).length<=(l.flatMap a).length:=by
 conv=>rhs;rw[<-xL k l]
 rw[H1,ir];omega
variable{w:Γ}{n cap:Nat}
def aIt{base:Nat}{e:TypeId}{size:Nat}{g k:Nat}{aH:List Φ}(h:w.ownsRow base e size (.slice (some ⟨g,0,none⟩) n cap) k aH):base<=g:=by
 rcases h.2 with⟨ak,_⟩|⟨c,d,b,ak,a,_⟩
 cases ak;cases ak;exact a
def anJ{base g:Nat}{l:List Int}(h:w.ownsRow base 3 1 (.slice (some ⟨g,0,none⟩) n cap) n (gS l))(a:l.length=n):p3 w (some ⟨g,0,none⟩) l/\l.length<=cap:=by let⟨k,m,d,ak,f,b,c,j,e⟩:=uT h aq;cases ak;subst a;refine⟨λ_=>⟨g,0,d,(0,0),rfl,b,λi hi=>?_⟩,c⟩;have:=e i z;rw[gS,ou,j_ hi]at this;rw[gy];exact this
def Uv{W:Γ}{c:Θ}{q:List Int}(h:p3 W c q)(af:0<q.length):∃a b,c=some ⟨a,b,none⟩/\∀X,β W X->∀(j:Nat) u,(gS q)[j]? =some u->X.cell? (Addr.add ⟨a,b,none⟩ j)=some u:=by obtain⟨a,b,e,d,f⟩:=h.kP af;refine⟨a,b,e,λX g j u hu=>?_⟩;have:=U2 (w:=X) (pb:=a) (po:=b) (p:=q) (λi hi=>(g.cell d).trans (f i hi)) 0 q.length j u (by rw[La,sL];exact hu);rwa [hY]at this
structure sW (W wr:Γ) (v:Φ) (l:List (List Int)):Prop where
 row:∃bW,wr.ownsRow W.heap.size 22 1 v l.length bW/\kO wr bW l
 b:Below W.heap.size W wr
variable{W wr:Γ}{v:Φ}{l:List (List Int)}
def sW.K{w':Γ}(h:sW W wr v l)(G:β wr w'):sW W w' v l:=by let⟨a,H,I⟩:=h.row;exact⟨⟨a,Ab H G,I.K G⟩,b3 h.b G⟩
def Xy(l:List (List Int))(e:Ending)(w':Γ):Prop:=∃va a,e=.returned (.slice va l.length a)/\sa w' va l/\(va=none->l=[]/\a=0)/\l.length<=a
def sW.ret(h:sW W wr v l):Xy l (.returned v) wr:=by let⟨f,H,I⟩:=h.row;let⟨va,d,e,b,a,c⟩:=aqN H I rfl;exact⟨va,d,by rw[e],b,a,c⟩
def sW.start(W wr:Γ)(G:β W wr):sW W wr (.slice none 0 0) []:=⟨⟨[],ne _ _ _ _,gL⟩,G⟩
def sW.next{c:Γ}{v5:Φ}{m:List (List Int)}{a zs:List Φ}(H:wr.ownsRow W 22 1 v l a)(I:kO wr a l)(e:kO wr zs m)(G:β W wr)(f:c.ownsRow W 22 1 v5 (l.length+m.length) (a++zs))(ar:wr.grownBy c v.ownBlock):sW W c v5 (l++m):=
 ⟨⟨a++zs,by rw[ir];exact f,(I.kept (GL H ar)).A_ (e.kept (GL H ar))⟩,G.grown ar G.size λg d=>by
  rcases xN g W with b|b
  .exact absurd d.symm (yH H b)
  .exact b⟩
attribute [local irreducible] wpStill wpAnyH in
def aIo(bS ev:Nat)(Z:Nat->Nat)(f:Nat->Nat->List (List Int))(XI:Γ)(dm:IM XI bS ev Z f)(C:Sj 144 f)(w2:∀a,Z a<=6)(aE:∀a i,∀q∈f a i,1<=q.length/\q.length<=100):∀(args:List Nat),(∀a∈args,a<ev)->args.length<=3->∀(b:List Int) (m Q ac:Nat) (Y aU:Θ) (W:Γ),β XI W->p3 W Y b->1<=b.length->b.length+100*args.length<=1000->b.length<=Q->rp W aU args->args.length<=ac->m<=4-> Calls prog 295 #[.pointer (some ⟨bS,0,none⟩),.slice Y b.length Q,.slice aU args.length ac,.int .i64 m] W λe w'=>Xy (kW f Z b args m) e w'/\β W w':=by
 intro args;induction args with
 |nil=>
  intro _ _ b m Q ac Y aU W M G aV jc kc cS h4 av;by_cases af:m=0
  .subst af;have co:=A G;clear G cS dm;go_enter func295,ntmps295
   go_wp2;go_ret;have kT:β W (W.alloc (.cells #[.slice Y b.length Q] 22)):=(bl _ _).alloc (aY _) _;exact⟨⟨some ⟨W.heap.size,0,none⟩,1,rfl,λ_=>⟨W.heap.size,0,_,_,[.slice Y b.length Q],rfl,c7 W _,⟨⟨Y,Q,rfl,co.out.K kT⟩,gL⟩,λi u hu=>by
    cases i with
    |zero=>simpa using hu
    |succ i=>simp at hu⟩,λh=>(by cases h),aY _⟩,kT⟩
  .have dA:((m:Int)==0)=false:=by rw[mx];omega
   have ak:¬(m:Int)=0:=z;have L:kW f Z b [] m=[]:=by unfold kW;rw[bo af]
   rw[L];clear G cS dm;go_enter func295,ntmps295
   go_wp2;go_ret;exact⟨⟨none,0,rfl,λh=>by simp at h,λ_=>⟨rfl,rfl⟩,aY _⟩,bl _ _⟩
 |cons a r pt=>
  intro has o4 b m Q ac Y aU W M G aV jc kc cS h4 av;obtain⟨X,O,rfl,iE,o5⟩:=cS aq;have p0:=o5 0 aq;rw[AG,hY]at p0;have JA:a<ev:=has a (ri ..);obtain⟨aO,bG,hz,b8,RD,D1,eE⟩:=dm;obtain⟨ax,bd,aG⟩:=eE a JA;have az:=aA M aO RD;have AQ:=aA M D1 bd;have j3:bS<W.heap.size:=cT M aO;have jV:bG<W.heap.size:=cT M D1;have o7:b8 a<W.heap.size:=cT M ax;rw[l8]at*;obtain⟨N,dX⟩:∃N,N=min (m-r.length) (Z a-1):=⟨_,rfl⟩;have bB:=w2 a;obtain⟨F,bR⟩:∃F:Nat->List (List Int),F=λn=>(f a n).flatMap λq=>kW f Z (b++q) r (m-n):=⟨_,rfl⟩;have aK:kW f Z b (a::r) m=(List.range' 1 N).flatMap F:=by rw[dX,bR];rfl
  have df:=abS (Z:=Z) al C (a::r) b m;rw[aK]at df|-;have aJ:((List.range' 1 N).flatMap F).length<=6879707136:=c6 df (by
   have H:(2:Nat)^m<=2^4:=k5 z av
   have I:(144:Nat)^m<=144^4:=k5 z av
   exact yQ H I)
  have bg:=A aJ;have bn:=A C;have co:=A G;have RO:=A o5;have bk:=A aG;have RT:=A pt;have aD:=A M;have bj:=A has;have k9:=A aE;have AV:=A bR;have bi:=A dX;have Z3:N<=m-r.length:=z;have bA:N<=Z a-1:=z;clear dX;clear df aJ G o5 aG pt M has aE eE C cS aK bR;go_enter func295,ntmps295
  go_wp2;go_loopw [9,10] (λv i wr=>∃n:Nat,1<=n/\n<=N+1/\i=.int .i64 n/\sW W wr v ((List.range' 1 (n-1)).flatMap F)) (λ_ i _=>N+1-(RowKit.intOf i).toNat);case atStart=>exact⟨1,z,z,rfl,sW.start _ _ (bl _ _)⟩
  case round=>
   obtain⟨n,tu,bx,rfl,y⟩:=hrel;have B:=y.b;have K:=B.drew;have R:wr.drew.cell? ⟨bS,6,none⟩=_:=(B.cell j3).trans az;have T:wr.drew.cell? ⟨X,O,none⟩=_:=(B.cell iE).trans p0;have U:wr.drew.cell? ⟨bG,a,none⟩=_:=(B.cell jV).trans AQ;have m':(0:Int)<=(a:Int):=z;have l4:(a:Int)<ev:=z;have pa:(m:Int)<=4:=z;have BP:(r.length:Int)+1<=3:=z;have zY:(Z a:Int)<=6:=z;have GI:(n:Int)<=7:=z;have tD:IntKind.i64.wrap (r.length:Int)=r.length:=pU _ ⟨z,z⟩;have bC:IntKind.i64.wrap ((m:Int)-(r.length:Int))=(m:Int)-(r.length:Int):=pU _ ⟨z,z⟩;by_cases dQ:n<=N
   .have eM:(n:Int)<=(m:Int)-(r.length:Int):=z;have ft:decide ((n:Int)<=(m:Int)-(r.length:Int))=true:=bw;have hJ:decide ((n:Int)<(Z a:Int))=true:=bw
    go_wp2;refine wt aw aw ?_;change wpStill _ _ wr.drew (λa'=>Exit.then _ _ Exit.normal a' wr.drew) _ _;have s:=y.K ((bl _ _).drew);clear y;generalize wr.drew=am at*;repeat still_step
    refine tU ?_;have kR:n<Z a:=z;have mC:decide (n<Z a)=true:=bw;rw[mC];obtain⟨va,cB,ay,e'⟩:=bk.out n kR;have AP:=aA aD.out ax ay;obtain⟨pre,jG⟩:∃pre:List (List Int),(List.range' 1 (n-1)).flatMap F=pre:=⟨_,rfl⟩;rw[jG]at s;have aB:=A jG;clear jG R T U ay;have yo:(f a n).length<=429981696:=c6 ((bn.out) a n) (by
     have I:(144:Nat)^n<=144^4:=k5 z z
     exact I)
    go_wp2;go_loopw [9,11] (λv i wr=>∃k:Nat,k<=(f a n).length/\i=.int .i64 k/\sW W wr v (pre++((f a n).take k).flatMap λq=>kW f Z (b++q) r (m-n))) (λ_ i _=>(f a n).length-(RowKit.intOf i).toNat);case atStart=>exact⟨0,dh _,rfl,by simpa using s⟩
    case round=>
     clear s K B;obtain⟨k,bq,rfl,y⟩:=hrel;have B:=y.b;have K:=B.drew;have R:wr.drew.cell? ⟨bS,6,none⟩=_:=(B.cell j3).trans az;have T:wr.drew.cell? ⟨X,O,none⟩=_:=(B.cell iE).trans p0;have U:wr.drew.cell? ⟨bG,a,none⟩=_:=(B.cell jV).trans AQ;have Lu:wr.drew.cell? ⟨b8 a,n,none⟩=_:=(B.cell o7).trans AP;have bN:(0:Int)<=(n:Int):=z;have dx:(n:Int)<(Z a:Int):=z;have gc:((f a n).length:Int)<=429981696:=z;by_cases au:k<(f a n).length
     .have aI:decide ((k:Int)<((f a n).length:Int))=true:=bw;have bv:decide (k<(f a n).length)=true:=bw
      go_wp2;refine wt aw aw ?_;change wpStill _ _ wr.drew (λa'=>Exit.then _ _ Exit.normal a' wr.drew) _ _;have s:=y.K ((bl _ _).drew);clear y B;generalize wr.drew=t at*;repeat still_step
      refine tU ?_;try rw[bv]
      have th:=b3 aD.out K;obtain⟨pT,r3,rfl,aP,BL⟩:=e'.cell z;obtain⟨v0,Wx,dI,eu,rfl,F5⟩:=BL k au;have aS:=k9.out a n _ (fp au);obtain⟨q,aR⟩:∃q,(f a n)[k]=q:=⟨_,rfl⟩;rw[aR]at Wx F5 aS;obtain⟨h5,n9⟩:=aS;obtain⟨wk,xs,rfl,JN⟩:=Uv F5 z;obtain⟨cV,lX,rfl,hL⟩:=Uv co.out z;have bh:=A JN;have R0:=A hL;have Lx:=aA th aP Wx;have ab:bS<t.heap.size:=cT K j3;have N8:X<t.heap.size:=cT K iE;have TV:bG<t.heap.size:=cT K jV;have aj:b8 a<t.heap.size:=cT K o7;have an:pT<t.heap.size:=cT th aP;have tG:(0:Int)<=(k:Int):=z;have BQ:(k:Int)<((f a n).length:Int):=z;have aX:(gS b).length=b.length*1:=by rw[HJ,tX]
      have aZ:(gS q).length=q.length*1:=by rw[HJ,tX]
      obtain⟨uO,uJ,l2,mm,mn⟩:=iz Eb;clear BL F5 Wx JN hL
      go_wp2;have ky:β t t.drew:=(bl _ _).drew;refine CK (S:=(λW=>W ⟨bS,6,none⟩=some (.slice (some ⟨bG,0,none⟩) ev hz)/\W ⟨X,O,none⟩=some (.int .i64 a)/\W ⟨bG,a,none⟩=some (.slice (some ⟨b8 a,0,none⟩) (Z a) (Z a))/\W ⟨b8 a,n,none⟩=some (.slice (some ⟨pT,r3,none⟩) (f a n).length cB)/\W ⟨pT,r3+k,none⟩=some (.slice (some ⟨wk,xs,none⟩) q.length eu))) aw ⟨R,T,U,Lu,Lx⟩ (λye=>?_);refine cn 1 61 ?_;refine cn 3 63 ?_;refine cn 4 64 ?_;refine cn 5 65 ?_;refine cn 6 66 ?_;refine cn 7 67 ?_;refine cn 8 68 ?_;refine cn 9 69 ?_;refine cn 10 70 ?_;refine cn 11 71 ?_;refine cn 12 72 ?_;refine cn 13 73 ?_;refine cn 14 74 ?_;refine cn 15 75 ?_;refine cn 16 76 ?_;refine cn 17 77 ?_;refine pg 0 (λcf C=>?_);go_simp;have D:=ky.alloc (aY _) (.cells #[] 3);have vj:=LH t.drew t.heap.size 3 1 (aY _);refine C.out _ _ ⟨(D.cell ab).trans R,(D.cell N8).trans T,(D.cell TV).trans U,(D.cell aj).trans Lu,(D.cell an).trans Lx⟩ (λko=>?_);clear C cf;refine ix ?_;refine pg 2 (λcf C=>?_);refine adA (d:=some 62) _ rfl rfl _ _ 22 rfl t.heap.size 3 uO _ 1 8 pj uJ l2 mm mn rfl al (.slice (some ⟨t.heap.size,0,none⟩) 0 0) 0 [] rfl vj ⟨cV,lX,none⟩ b.length Q (gS b) rfl aX (R0.out _ (b3 K D)) (HK _) aV (by unfold maxLen;omega) z D.size _ rfl ?_;intro a_ bp bc n8 vP _ nB;rw[gy,vf]at n8;have E:=D.grown vP D.size (λg ar=>by simp[Value.ownBlock]at ar;subst ar;exact aY _);refine C.out _ _ ⟨(E.cell ab).trans R,(E.cell N8).trans T,(E.cell TV).trans U,(E.cell aj).trans Lu,(E.cell an).trans Lx⟩ (λko=>?_);clear C cf;refine ix ?_;refine pg 18 (λcf C=>?_);refine adA (d:=some 78) _ rfl rfl _ _ 22 rfl t.heap.size 3 uO _ 1 8 pj uJ l2 mm mn rfl al (.slice (some ⟨a_,0,none⟩) (0+b.length) bp) b.length (gS b) rfl (by rw[gy];exact n8) ⟨wk,xs,none⟩ q.length eu (gS q) rfl aZ (bh.out _ (b3 th E)) (HK _) h5 (by unfold maxLen;omega) z E.size _ rfl ?_;intro bb sj br aQ aM _ ba;have i5:=E.grown aM E.size (λg ar=>by simp[Value.ownBlock]at ar;subst ar;exact aIt n8);refine C.out _ _ ⟨(i5.cell ab).trans R,(i5.cell N8).trans T,(i5.cell TV).trans U,(i5.cell aj).trans Lu,(i5.cell an).trans Lx⟩ (λko=>?_);clear C cf;refine ix ?_;refine cn 19 12 ?_;refine EM aw ?_ _;have ZZ:=s.K (i5);have ah:=(anJ (l:=b++q) (by rw[asN];exact aQ) (by rw[ir]));clear R T U Lu Lx ye ko n8 vP aQ aM D vj E s nB ba;have dj:=b3 K i5;have aW:=b3 th i5;obtain⟨jl,bs,N6⟩:∃jl,(if ac=1 then some (⟨X,O,none⟩:Addr)else some ⟨X,O+1,none⟩)=jl/\rp W jl r:=by
       by_cases H:ac=1
       .exact⟨_,ci H,λaf=>z⟩
       .refine⟨_,bo H,λ_=>⟨X,O+1,rfl,iE,λi hi=>?_⟩⟩;have:=RO.out (i+1) (by rw[l8];omega);rw[H2]at this;rw[show O+1+i=O+(i+1) by omega];exact this
      obtain⟨sH,li⟩:∃sH,kW f Z (b++q) r (m-n)=sH:=⟨_,rfl⟩;have hS:=RT.out (λx aa=>bj.out x (jw _ aa)) z (b++q) (m-n) sj (ac-1) (some ⟨bb,0,none⟩) jl br aW ah.1 (by rw[ir];omega) (by rw[ir];omega) ah.2 (N6.K dj) z z;rw[li,show((m-n:Nat):Int)=(m:Int)-(n:Int) by omega,ir]at hS;have fb:=aKz (λq=>kW f Z (b++q) r (m-n)) (f a n) k au;rw[aR,li]at fb;have ai:(pre++((f a n).take (k+1)).flatMap λq=>kW f Z (b++q) r (m-n)).length<=6879707136:=c6 (by
       rw[<-aB.out]
       exact aqJ F _ n tu (by rw[AV.out];exact aKy _ _ _) N dQ) bg.out
      rw[<-fb,<-HZ]at ai;have L5:=A fb;obtain⟨aT,ag⟩:∃aT,(pre++((f a n).take k).flatMap λq=>kW f Z (b++q) r (m-n))=aT:=⟨_,rfl⟩;rw[ag]at ai ZZ;rw[ir]at ai;have be:=A ag;have bf:=A hS;have bu:=A li;obtain⟨xf,w9,ks,hV,ij⟩:=iz O4;have gF:((m:Int)-(n:Int))<=4:=z;have i3:(n:Int)<=(m:Int):=z;have od:(1:Int)<=(ac:Int):=z;have Pk:(r.length:Int)+1<=(ac:Int):=z;clear fb ag hS li N6 ah
      go_wp2_with (first
       |(have _:=ha;at_builtin;refine aMg _ rfl _ _ 23 rfl W.heap.size 22 xf _ 1 24 HU w9 ks hV ij rfl al _ _ bW rfl sz Ew sH.length KC zs rfl (by rw[hr.len,tX]) J hr.xn (by unfold maxLen;omega) z aN.size ?_;intro mS dc m9 ke _)
       |(go_at_call 295;refine bf.out.mono ?_;rintro e w7 ⟨⟨Ew,KC,rfl,OT,vV,kU⟩,ha⟩;obtain⟨bW,sz,D9⟩:=(ZZ.K ha).row;have aN:=(ZZ.K ha).b;obtain⟨zs,hr,BJ⟩:=OT.fD (λh=>(vV h).1);have J:(∃ad,Ew=some ad/\∀(j:Nat) u,zs[j]? =some u->w7.cell? (ad.add j)=some u)∨(Ew=none/\sH.length=0):=(by rcases BJ with h|⟨H,I⟩;exact .inl h;exact .inr ⟨H,by rw[I];rfl⟩)))
      exact⟨⟨k+1,z,bz,by rw[<-L5.out,<-HZ,be.out];exact sW.next sz D9 hr aN m9 ke⟩,by simp[RowKit.intOf];omega⟩
     .obtain rfl:k=(f a n).length:=z;have aI:decide (((f a n).length:Int)<((f a n).length:Int))=false:=aq;have bv:decide ((f a n).length<(f a n).length)=false:=aq
      go_wp2;refine wt aw aw ?_;change wpStill _ _ wr.drew (λa'=>Exit.then _ _ Exit.normal a' wr.drew) _ _;have s:=y.K ((bl _ _).drew);clear y B;generalize wr.drew=t at*;repeat still_step
      refine tU ?_;try rw[bv]
      have aH:sW W t u9 ((List.range' 1 (n+1-1)).flatMap F):=by rw[<-aHm F n tu,aB.out,AV.out];rw[sL]at s;exact s
      clear s
      go_wp2;go_roundw;case rel=>first|exact⟨n+1,z,z,bz,aH⟩|((repeat apply Exists.intro);refine⟨?_,rfl⟩;exact⟨n+1,z,z,bz,aH⟩)
      case measure=>simp[RowKit.intOf];omega
   .obtain rfl:n=N+1:=z;rw[Rn]at y;have aF:=bi.out;by_cases H:N+1<=m-r.length
    .have eM:((N+1:Nat):Int)<=(m:Int)-(r.length:Int):=z;have ft:decide (((N+1:Nat):Int)<=(m:Int)-(r.length:Int))=true:=bw;have Dw:decide ((N:Int)+1<=(m:Int)-(r.length:Int))=true:=bw;have hJ:decide (((N+1:Nat):Int)<(Z a:Int))=false:=bw;have kR:decide (N+1<Z a)=false:=bw;have p':decide ((N:Int)+1<(Z a:Int))=false:=bw;clear aF
     go_wp2;refine wt aw aw ?_;change wpStill _ _ wr.drew (λa'=>Exit.then _ _ Exit.normal a' wr.drew) _ _;have s:=y.K ((bl _ _).drew);clear y;generalize wr.drew=am at*;repeat still_step
     refine tU ?_;try rw[kR]
     go_wp2;go_ret;exact⟨s.ret,s.b⟩
    .have ft:decide (((N+1:Nat):Int)<=(m:Int)-(r.length:Int))=false:=bw;have Dw:decide ((N:Int)+1<=(m:Int)-(r.length:Int))=false:=bw;clear aF
     go_wp2;refine wt aw aw ?_;change wpStill _ _ wr.drew (λa'=>Exit.then _ _ Exit.normal a' wr.drew) _ _;have s:=y.K ((bl _ _).drew);clear y;generalize wr.drew=am at*;repeat still_step
     refine tU ?_
     go_wp2;go_ret;exact⟨s.ret,s.b⟩
end Go.bk
namespace Go.bE
open Go Go.Proofs Go.RowKit Go.di Go.bk
def CT(rs:List bD):List Nat->List (List Int)->Prop
 |[],[]=>True
 |s::ss,a::cs=>gD rs [s] a=some a.length/\CT rs ss cs
 |_,_=>False
def CT.len{rs:List bD}:∀{ss:List Nat} {cs:List (List Int)},CT rs ss cs->cs.length=ss.length
 |[],[],_=>rfl
 |s::ss,a::cs,h=>by simp[CT.len h.2]
def CT.S0{rs:List bD}:∀{ss:List Nat} {cs:List (List Int)} (_:CT rs ss cs) (i:Nat) (H:i<ss) (I:i<cs),gD rs [ss[i]] cs[i]=some cs[i].length
 |s::ss,a::cs,h,0,_,_=>h.1
 |s::ss,a::cs,h,i+1,H,I=>h.2.S0 i (by simpa using H) (by simpa using I)
def ajc(rs:List bD):∀(ss:List Nat) (q:List Int),gD rs ss q=some q.length->∃cs,CT rs ss cs/\q=cs.flatten
 |[],q,h=>by rw[Dx]at h;have:q=[]:=CN.1 (by injection h with h;exact h.symm);exact⟨[],gL,by rw[this];rfl⟩
 |s::ss,q,h=>by
  have H:=Nv rs q [s] ss;rw[atz,h]at H;cases a:gD rs [s] q with
  |none=>rw[a]at H;cases H
  |some n=>
   rw[a,CQ]at H
   cases b:gD rs ss (q.drop n)with
   |none=>rw[b]at H;cases H
   |some m=>
    rw[b,ov]at H
    injection H with H
    have d:=Ny rs _ _ _ a
    have hd:(q.drop n).length=m:=by rw[pm];omega
    obtain⟨cs,I,c⟩:=ajc rs ss (q.drop n) (by rw[b,hd])
    refine⟨q.take n::cs,⟨?_,I⟩,?_⟩
    .rw[Y2 rs _ _ _ a,mw];congr 1;omega
    .rw[atq,<-c,xL]
def off(cs:List (List Int))(k:Nat):Nat:=(cs.take k).flatten.length
def aF2(cs:List (List Int)):off cs 0=0:=by simp[off]
def aF1(cs:List (List Int))(k:Nat)(a:k<cs):off cs (k+1)=off cs k+cs[k].length:=by rw[off,off,r6 a,afx,ir];simp
def apU(cs:List (List Int))(k:Nat)(a:k<cs):cs.flatten.drop (off cs k)=cs[k]++(cs.drop (k+1)).flatten:=by
 conv=>lhs;rw[<-xL k cs,afx]
 rw[xL,off,List.drop_left,H0 a,atq]
def apV(cs:List (List Int))(k:Nat)(a:k<cs.length):off cs k+cs[k].length<=cs.flatten.length:=by
 have h:=iY List.length (apU cs k a);rw[pm,ir]at h;have I:off cs k<=cs.flatten.length:=by(conv=>rhs;rw[<-xL k cs,afx,ir]);unfold off;omega
 omega
def Ml(w:Γ)(va:Θ)(l:List (List Int)):Prop:=0<l.length->∃b o,va=some ⟨b,o,none⟩/\b<w.heap.size/\∀i (hi:i<l.length),∃a c,w ⟨b,o+i,none⟩=some (.slice a l[i].length c)/\p3 w a l[i]/\l[i].length<=c
variable{w':Γ}{l:List (List Int)}
def Ml.K{w:Γ}{va:Θ}(h:Ml w va l)(G:β w w'):Ml w' va l:=λaf=>by
 let⟨b,o,e,a,c⟩:=h af
 refine⟨b,o,e,cT G a,λi hi=>?_⟩
 let⟨f,g,H,I,d⟩:=c i hi
 exact⟨f,g,by rw[G.cell a];exact H,I.K G,d⟩
def Wy(b:List Φ):Prop:=∀v∈b,∀a l c,v=Value.slice a l c->l<=c
structure wC (W wr:Γ) (v:Φ) (l:List (List Int)):Prop where
 row:∃bW,wr.ownsRow W.heap.size 22 1 v l.length bW/\kO wr bW l/\Wy bW
 b:Below W.heap.size W wr
variable{W wr:Γ}{v:Φ}
def wC.K(h:wC W wr v l)(G:β wr w'):wC W w' v l:=by let⟨b,H,I,a⟩:=h.row;exact⟨⟨b,Ab H G,I.K G,a⟩,b3 h.b G⟩
def wC.start(W wr:Γ)(G:β W wr):wC W wr (.slice none 0 0) []:=⟨⟨[],ne _ _ _ _,gL,λv J=>by cases J⟩,G⟩
def wC.next{d:Γ}{v5:Φ}{m:List (List Int)}{b zs:List Φ}(H:wr.ownsRow W 22 1 v l b)(I:kO wr b l)(i:Wy b)(f:kO wr zs m)(j:Wy zs)(G:β W wr)(g:d.ownsRow W 22 1 v5 (l.length+m.length) (b++zs))(ar:wr.grownBy d v.ownBlock):wC W d v5 (l++m):=by
 have h:=sW.next H I f G g ar;exact⟨⟨b++zs,by rw[ir];exact g,(I.kept (GL H ar)).A_ (f.kept (GL H ar)),λu hu a l c e=>by
  rcases kx.1 hu with hu|hu
  .exact i u hu a l c e
  .exact j u hu a l c e⟩,h.b⟩
def wC.parts(h:wC W wr v l):∃va d,v=.slice va l d/\Ml wr va l:=by
 let⟨q,H,I,c⟩:=h.row;by_cases af:v=.slice none 0 0
 .subst af;rcases H.2 with⟨_,o⟩|⟨g,cap,f,ak,_⟩
  exact⟨none,0,by rw[show l.length=0 by omega],λs=>z⟩;cases ak
 let⟨g,cap,f,ak,n,a,r,t,m⟩:=uT H af;refine⟨_,_,ak,λ_=>⟨g,0,rfl,de a,λi hi=>?_⟩⟩;obtain⟨u,hu,j,k,rfl,e⟩:=I.kP i hi;have b:=m i z;rw[hu]at b;exact⟨j,k,by rw[gy];exact kQ a b,e,c _ (CO hu) _ _ _ rfl⟩
end Go.bE
