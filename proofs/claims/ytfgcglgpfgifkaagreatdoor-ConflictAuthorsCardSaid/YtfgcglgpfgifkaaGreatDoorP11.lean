/- ConflictAuthors. -/
import Derived.Test.YtfgcglgpfgifkaaGreatDoorP10
set_option linter.all false
set_option maxRecDepth 100000
set_option maxHeartbeats 16000000
namespace Go.bj
open Go Go.Proofs.Tryz Go.Proofs Go.RowKit Go.c0
theorem ale{a:Type}(F:Nat->List a)(l:List a)(n:Nat)(H:1<=n)(b:l.length<=(F n).length):∀N,n<=N->((List.range' 1 (n-1)).flatMap F++l).length<=((List.range' 1 N).flatMap F).length
 |0,h=>by omega
 |N+1,h=>by
  rw[aaO,EZ]
  by_cases e:n<=N
  ·have:=ale F l n H b N e
   simp only[ie]at*
   omega
  ·obtain rfl:n=N+1:=z
   rw[yL,MS,qK,MZ,sz 1 N]
   simp only[ie]
   omega
theorem aAD{a:Type}(F:Nat->List a)(n:Nat)(H:1<=n):(List.range' 1 (n-1)).flatMap F++F n=(List.range' 1 (n+1-1)).flatMap F:=by
 obtain⟨m,rfl⟩:∃m,n=m+1:=⟨n-1,z⟩;rw[MZ,MZ,aaO,EZ,yL,MS,qK,sz 1 m]
theorem aDt{b c:Type}(a:b->List c)(l:List b)(k:Nat)(d:k<l.length):(l.take k).flatMap a++a l[k]=(l.take (k+1)).flatMap a:=by
 rw[tu d,EZ,yL,MS,qK]
theorem aDs{b c:Type}(a:b->List c)(l:List b)(k:Nat):((l.take k).flatMap a).length<=(l.flatMap a).length:=by
 conv=>rhs;rw[←yR k l]
 rw[EZ,ie];omega
theorem aBv{w:World}{base:Nat}{e:TypeId}{size:Nat}{g n cap k:Nat}{aK:List Value}(h:w.ownsRow base e size (.slice (some ⟨g,0,none⟩) n cap) k aK):base<=g:=by
 rcases h.2 with⟨ak,_⟩|⟨c,d,b,ak,a,_⟩
 ·cases ak
 ·cases ak;exact a
theorem aiC{w:World}{base g n cap:Nat}{l:List Int}(h:w.ownsRow base 3 1 (.slice (some ⟨g,0,none⟩) n cap) n (e0 l))(a:l.length=n):oZ w (some ⟨g,0,none⟩) l/\l.length<=cap:=by
 obtain⟨k,m,d,ak,f,b,c,j,e⟩:=tb h am;cases ak;subst a;refine⟨fun _=>⟨g,0,d,(0,0),rfl,b,fun i hi=>?_⟩,c⟩;have:=e i z;rw[e0,pn,ln hi]at this;rw[gm];exact this
theorem PY{W:World}{c:Option Addr}{q:List Int}(h:oZ W c q)(ab:0<q.length):∃a b,c=some ⟨a,b,none⟩/\∀aD,Below W.heap.size W aD->∀(j:Nat) u,(e0 q)[j]? =some u->aD.cell? (Addr.add ⟨a,b,none⟩ j)=some u:=by
 obtain⟨a,b,e,f,d⟩:=h.md ab;refine⟨a,b,e,fun aD g j u hu=>?_⟩;have:=Qz (w:=aD) (pb:=a) (po:=b) (p:=q) (fun i hi=>(g.cell f).trans (d i hi)) 0 q.length j u (by rw[HP,vG];exact hu)
 rwa [hG]at this
structure rK (W wr:World) (v:Value) (l:List (List Int)):Prop where
 e2:∃bE,wr.ownsRow W.heap.size 22 1 v l.length bE/\kf wr bE l
 b:Below W.heap.size W wr
theorem rK.U{W wr w':World}{v:Value}{l:List (List Int)}(h:rK W wr v l)(A:Below wr.heap.size wr w'):rK W w' v l:=by
 obtain⟨a,H,I⟩:=h.e2;exact⟨⟨a,ye H A,I.U A⟩,b_ h.b A⟩
def S3(l:List (List Int))(e:Ending)(w':World):Prop:=∃va a,e=.returned (.slice va l.length a)/\qR w' va l/\(va=none->l=[]/\a=0)/\l.length<=a
theorem rK.ret{W wr:World}{v:Value}{l:List (List Int)}(h:rK W wr v l):S3 l (.returned v) wr:=by
 obtain⟨f,H,I⟩:=h.e2;obtain⟨va,d,e,b,a,c⟩:=alh H I rfl;exact⟨va,d,by rw[e],b,a,c⟩
theorem rK.g7(W wr:World)(A:Below W.heap.size W wr):rK W wr (.slice none 0 0) []:=⟨⟨[],mo _ _ _ _,h5⟩,A⟩
theorem rK.next{W wr c:World}{v v5:Value}{l m:List (List Int)}{a zs:List Value}(H:wr.ownsRow W.heap.size 22 1 v l.length a)(I:kf wr a l)(f:kf wr zs m)(A:Below W.heap.size W wr)(h:c.ownsRow W.heap.size 22 1 v5 (l.length+m.length) (a++zs))(d:wr.grownBy c v.ownBlock):rK W c v5 (l++m):=
 ⟨⟨a++zs,by rw[ie];exact h,(I.kept (Ee H d)).FM (f.kept (Ee H d))⟩,A.grown d A.size fun g e=>by
  rcases vI g W.heap.size with b|b
  ·exact absurd e.symm (wV H b)
  ·exact b⟩
attribute [local irreducible] wpStill wpAnyH in
theorem aBq(bJ ec:Nat)(Z:Nat->Nat)(f:Nat->Nat->List (List Int))(Tb:World)(dC:FF Tb bJ ec Z f)(C:NT 144 f)(vf:∀a,Z a<=6)(az:∀a i,∀q∈f a i,1<=q.length/\q.length<=100):∀(args:List Nat),(∀a∈args,a<ec)->args.length<=3->∀(b:List Int) (m Q ac:Nat) (R aP:Option Addr) (W:World),Below Tb.heap.size Tb W->oZ W R b->1<=b.length->b.length+100*args.length<=1000->b.length<=Q->p5 W aP args->args.length<=ac->m<=4-> Calls prog 176 #[.pointer (some ⟨bJ,0,none⟩),.slice R b.length Q,.slice aP args.length ac,.int .i64 m] W fun e w'=>S3 (kl f Z b args m) e w'/\Below W.heap.size W w':=by
 intro args;induction args with
 |nil=>
  intro _ _ b m Q ac R aP W L A aO iq lc cx jO an;by_cases ab:m=0
  ·subst ab;have cS:=G A;clear A cx dC;go_enter func176,ntmps176
   go_wp2;go_ret;have ld:Below W.heap.size W (W.alloc (.cells #[.slice R b.length Q] 22)):=(bi _ _).alloc (aZ _) _;exact⟨⟨some ⟨W.heap.size,0,none⟩,1,rfl,fun _=>⟨W.heap.size,0,_,_,[.slice R b.length Q],rfl,da W _,⟨⟨R,Q,rfl,cS.out.U ld⟩,h5⟩,fun i u hu=>by
    cases i with
    |zero=>simpa using hu
    |succ i=>simp at hu⟩,fun h=>(by cases h),aZ _⟩,ld⟩
  ·have eg:((m:Int)==0)=false:=by rw[l8];omega
   have ak:¬(m:Int)=0:=z;have O:kl f Z b [] m=[]:=by unfold kl;rw[bn ab]
   rw[O];clear A cx dC;go_enter func176,ntmps176
   go_wp2;go_ret;exact⟨⟨none,0,rfl,fun h=>by simp at h,fun _=>⟨rfl,rfl⟩,aZ _⟩,bi _ _⟩
 |cons a r px=>
  intro r3 nT b m Q ac R aP W L A aO iq lc cx jO an;obtain⟨dJ,M,rfl,ja,nU⟩:=cx am;have oW:=nU 0 am;rw[yN,hG]at oW;have Gt:a<ec:=r3 a (mQ ..);obtain⟨aB,cF,g6,bT,R',GC,ev⟩:=dC;obtain⟨VL,aL,aj⟩:=ev a Gt;have aa:=aA L aB R';have E9:=aA L GC aL;have jV:bJ<W.heap.size:=cE L aB;have kx:cF<W.heap.size:=cE L GC;have m4:bT a<W.heap.size:=cE L VL;rw[mP]at*;obtain⟨N,dG⟩:∃N,N=min (m-r.length) (Z a-1):=⟨_,rfl⟩;have bh:=vf a;obtain⟨F,ck⟩:∃F:Nat->List (List Int),F=fun n=>(f a n).flatMap fun q=>kl f Z (b++q) r (m-n):=⟨_,rfl⟩;have aD:kl f Z b (a::r) m=(List.range' 1 N).flatMap F:=by rw[dG,ck];rfl
  have dh:=Xf (Z:=Z) ai C (a::r) b m;rw[aD]at dh⊢;have av:((List.range' 1 N).flatMap F).length<=6879707136:=db dh (by
   have H:(2:Nat)^m<=2^4:=ks z an
   have I:(144:Nat)^m<=144^4:=ks z an
   exact w3 H I)
  have aT:=G av;have aY:=G C;have cS:=G A;have aV:=G nU;have aQ:=G aj;have Nt:=G px;have ag:=G L;have aU:=G r3;have nh:=G az;have yZ:=G ck;have aN:=G dG;have Vo:N<=m-r.length:=z;have bg:N<=Z a-1:=z;clear dG;clear dh av A nU aj px L r3 az ev C cx aD ck;go_enter func176,ntmps176
  go_wp2;go_loopw [9,10] (fun v i wr=>∃n:Nat,1<=n/\n<=N+1/\i=.int .i64 n/\rK W wr v ((List.range' 1 (n-1)).flatMap F)) (fun _ i _=>N+1-(RowKit.intOf i).toNat);case atStart=>exact⟨1,z,z,rfl,rK.g7 _ _ (bi _ _)⟩
  case round=>
   obtain⟨n,sb,bk,rfl,y⟩:=hrel;have B:=y.b;have K:=B.drew;have T:wr.drew.cell? ⟨bJ,6,none⟩=_:=(B.cell jV).trans aa;have U:wr.drew.cell? ⟨dJ,M,none⟩=_:=(B.cell ja).trans oW;have X:wr.drew.cell? ⟨cF,a,none⟩=_:=(B.cell kx).trans E9;have mj:(0:Int)<=(a:Int):=z;have lj:(a:Int)<ec:=z;have n0:(m:Int)<=4:=z;have zR:(r.length:Int)+1<=3:=z;have x':(Z a:Int)<=6:=z;have Eb:(n:Int)<=7:=z;have wI:IntKind.i64.wrap (r.length:Int)=r.length:=oQ _ ⟨z,z⟩;have bm:IntKind.i64.wrap ((m:Int)-(r.length:Int))=(m:Int)-(r.length:Int):=oQ _ ⟨z,z⟩;by_cases dx:n<=N
   ·have et:(n:Int)<=(m:Int)-(r.length:Int):=z;have fA:decide ((n:Int)<=(m:Int)-(r.length:Int))=true:=bu;have hL:decide ((n:Int)<(Z a:Int))=true:=bu
    go_wp2;refine tq au au ?_;change wpStill _ _ wr.drew (fun dI=>Exit.then _ _ Exit.normal dI wr.drew) _ _;have s:=y.U ((bi _ _).drew);clear y;generalize wr.drew=ap at*;repeat still_step
    refine qJ ?_;have lV:n<Z a:=z;have np:decide (n<Z a)=true:=bu;rw[np];obtain⟨va,cq,ae,eY⟩:=aQ.out n lV;have yU:=aA ag.out VL ae;obtain⟨pre,hB⟩:∃pre:List (List Int),(List.range' 1 (n-1)).flatMap F=pre:=⟨_,rfl⟩;rw[hB]at s;have af:=G hB;clear hB T U X ae;have Bv:(f a n).length<=429981696:=db ((aY.out) a n) (by
     have I:(144:Nat)^n<=144^4:=ks z z
     exact I)
    go_wp2;go_loopw [9,11] (fun v i wr=>∃k:Nat,k<=(f a n).length/\i=.int .i64 k/\rK W wr v (pre++((f a n).take k).flatMap fun q=>kl f Z (b++q) r (m-n))) (fun _ i _=>(f a n).length-(RowKit.intOf i).toNat);case atStart=>exact⟨0,dq _,rfl,by simpa using s⟩
    case round=>
     clear s K B;obtain⟨k,bf,rfl,y⟩:=hrel;have B:=y.b;have K:=B.drew;have T:wr.drew.cell? ⟨bJ,6,none⟩=_:=(B.cell jV).trans aa;have U:wr.drew.cell? ⟨dJ,M,none⟩=_:=(B.cell ja).trans oW;have X:wr.drew.cell? ⟨cF,a,none⟩=_:=(B.cell kx).trans E9;have H_:wr.drew.cell? ⟨bT a,n,none⟩=_:=(B.cell m4).trans yU;have ce:(0:Int)<=(n:Int):=z;have eb:(n:Int)<(Z a:Int):=z;have eV:((f a n).length:Int)<=429981696:=z;by_cases aq:k<(f a n).length
     ·have aJ:decide ((k:Int)<((f a n).length:Int))=true:=bu;have bv:decide (k<(f a n).length)=true:=bu
      go_wp2;refine tq au au ?_;change wpStill _ _ wr.drew (fun dI=>Exit.then _ _ Exit.normal dI wr.drew) _ _;have s:=y.U ((bi _ _).drew);clear y B;generalize wr.drew=t at*;repeat still_step
      refine qJ ?_;try rw[bv]
      have r4:=b_ ag.out K;obtain⟨oO,qH,rfl,aC,zI⟩:=eY.cell z;obtain⟨v0,R8,dp,ei,rfl,DB⟩:=zI k aq;have aG:=nh.out a n _ (fM aq);obtain⟨q,aF⟩:∃q,(f a n)[k]=q:=⟨_,rfl⟩;rw[aF]at R8 DB aG;obtain⟨it,m7⟩:=aG;obtain⟨us,vy,rfl,GE⟩:=PY DB z;obtain⟨cJ,lU,rfl,hA⟩:=PY cS.out z;have aM:=G GE;have Nz:=G hA;have Ib:=aA r4 aC R8;have Wy:bJ<t.heap.size:=cE K jV;have Ku:dJ<t.heap.size:=cE K ja;have Pm:cF<t.heap.size:=cE K kx;have VM:bT a<t.heap.size:=cE K m4;have WF:oO<t.heap.size:=cE r4 aC;have oF:(0:Int)<=(k:Int):=z;have wL:(k:Int)<((f a n).length:Int):=z;have be:(e0 b).length=b.length*1:=by rw[ER,tv]
      have bd:(e0 q).length=q.length*1:=by rw[ER,tv]
      obtain⟨mJ,mC,i',iF,iX⟩:=jt BG;clear zI DB R8 GE hA
      go_wp2;have kF:Below t.heap.size t t.drew:=(bi _ _).drew;refine yJ (S:=(fun W=>W.cell? ⟨bJ,6,none⟩=some (.slice (some ⟨cF,0,none⟩) ec g6)/\W.cell? ⟨dJ,M,none⟩=some (.int .i64 a)/\W.cell? ⟨cF,a,none⟩=some (.slice (some ⟨bT a,0,none⟩) (Z a) (Z a))/\W.cell? ⟨bT a,n,none⟩=some (.slice (some ⟨oO,qH,none⟩) (f a n).length cq)/\W.cell? ⟨oO,qH+k,none⟩=some (.slice (some ⟨us,vy,none⟩) q.length ei))) au ⟨T,U,X,H_,Ib⟩ (fun ws=>?_);refine b8 1 61 ?_;refine b8 3 63 ?_;refine b8 4 64 ?_;refine b8 5 65 ?_;refine b8 6 66 ?_;refine b8 7 67 ?_;refine b8 8 68 ?_;refine b8 9 69 ?_;refine b8 10 70 ?_;refine b8 11 71 ?_;refine b8 12 72 ?_;refine b8 13 73 ?_;refine b8 14 74 ?_;refine b8 15 75 ?_;refine b8 16 76 ?_;refine b8 17 77 ?_;refine n4 0 (fun b0 C=>?_);go_simp;have D:=kF.alloc (aZ _) (.cells #[] 3);have vM:=Ik t.drew t.heap.size 3 1 (aZ _);refine C.out _ _ ⟨(D.cell Wy).trans T,(D.cell Ku).trans U,(D.cell Pm).trans X,(D.cell VM).trans H_,(D.cell WF).trans Ib⟩ (fun jM=>?_);clear C b0;refine gH ?_;refine n4 2 (fun b0 C=>?_);refine YX (d:=some 62) _ rfl rfl _ _ 22 rfl t.heap.size 3 mJ _ 1 8 underlying22 mC i' iF iX rfl ai (.slice (some ⟨t.heap.size,0,none⟩) 0 0) 0 [] rfl vM ⟨cJ,lU,none⟩ b.length Q (e0 b) rfl be (Nz.out _ (b_ K D)) (ES _) aO (by unfold maxLen;omega) z D.size _ rfl ?_;intro aW a_ a' ud DT _ pL;rw[gm,vF]at ud;have E:=D.grown DT D.size (fun g al=>by simp[Value.ownBlock]at al;subst al;exact aZ _);refine C.out _ _ ⟨(E.cell Wy).trans T,(E.cell Ku).trans U,(E.cell Pm).trans X,(E.cell VM).trans H_,(E.cell WF).trans Ib⟩ (fun jM=>?_);clear C b0;refine gH ?_;refine n4 18 (fun b0 C=>?_);refine YX (d:=some 78) _ rfl rfl _ _ 22 rfl t.heap.size 3 mJ _ 1 8 underlying22 mC i' iF iX rfl ai (.slice (some ⟨aW,0,none⟩) (0+b.length) a_) b.length (e0 b) rfl (by rw[gm];exact ud) ⟨us,vy,none⟩ q.length ei (e0 q) rfl bd (aM.out _ (b_ r4 E)) (ES _) it (by unfold maxLen;omega) z E.size _ rfl ?_;intro bb sR bq aE aw _ V9;have ii:=E.grown aw E.size (fun g al=>by simp[Value.ownBlock]at al;subst al;exact aBv ud);refine C.out _ _ ⟨(ii.cell Wy).trans T,(ii.cell Ku).trans U,(ii.cell Pm).trans X,(ii.cell VM).trans H_,(ii.cell WF).trans Ib⟩ (fun jM=>?_);clear C b0;refine gH ?_;refine b8 19 12 ?_;refine As au ?_ _;have Vk:=s.U (ii);have Vx:=(aiC (l:=b++q) (by rw[aEK];exact aE) (by rw[ie]));clear T U X H_ Ib ws jM ud DT aE aw D vM E s pL V9;have dl:=b_ K ii;have ba:=b_ r4 ii;obtain⟨iw,bl,Kt⟩:∃iw,(if ac=1 then some (⟨dJ,M,none⟩:Addr)else some ⟨dJ,M+1,none⟩)=iw/\p5 W iw r:=by
       by_cases H:ac=1
       ·exact⟨_,cv H,fun ab=>z⟩
       ·refine⟨_,bn H,fun _=>⟨dJ,M+1,rfl,ja,fun i hi=>?_⟩⟩;have:=aV.out (i+1) (by rw[mP];omega);rw[E1]at this;rw[show M+1+i=M+(i+1) by omega];exact this
      obtain⟨rp,lh⟩:∃rp,kl f Z (b++q) r (m-n)=rp:=⟨_,rfl⟩;have ik:=Nt.out (fun x aK=>aU.out x (i6 _ aK)) z (b++q) (m-n) sR (ac-1) (some ⟨bb,0,none⟩) iw bq ba Vx.1 (by rw[ie];omega) (by rw[ie];omega) Vx.2 (Kt.U dl) z z;rw[lh,show((m-n:Nat):Int)=(m:Int)-(n:Int) by omega,ie]at ik;have eE:=aDt (fun q=>kl f Z (b++q) r (m-n)) (f a n) k aq;rw[aF,lh]at eE;have VF:(pre++((f a n).take (k+1)).flatMap fun q=>kl f Z (b++q) r (m-n)).length<=6879707136:=db (by
       rw[←af.out]
       exact ale F _ n sb (by rw[yZ.out];exact aDs _ _ _) N dx) aT.out
      rw[←eE,←Cp]at VF;have SI:=G eE;obtain⟨aI,Wm⟩:∃aI,(pre++((f a n).take k).flatMap fun q=>kl f Z (b++q) r (m-n))=aI:=⟨_,rfl⟩;rw[Wm]at VF Vk;rw[ie]at VF;have aX:=G Wm;have aS:=G ik;have bj:=G lh;obtain⟨vt,vk,jT,ir,i0⟩:=jt Li;have gh:((m:Int)-(n:Int))<=4:=z;have ia:(n:Int)<=(m:Int):=z;have na:(1:Int)<=(ac:Int):=z;have LC:(r.length:Int)+1<=(ac:Int):=z;clear eE Wm ik lh Kt Vx
      go_wp2_with (first
       |(have _:=ip;at_builtin;refine aEV _ rfl _ _ 23 rfl W.heap.size 22 vt _ 1 24 underlying23 vk jT ir i0 rfl ai _ _ bE rfl rh B4 rp.length Hs zs rfl (by rw[fG.len,tv]) J fG.Ep (by unfold maxLen;omega) z ax.size ?_;intro rr di mG ki _)
       |(go_at_call 176;refine aS.out.mono ?_;rintro e w7 ⟨⟨B4,Hs,rfl,K7,ug,kj⟩,ip⟩;obtain⟨bE,rh,vr⟩:=(Vk.U ip).e2;have ax:=(Vk.U ip).b;obtain⟨zs,fG,BA⟩:=K7.e7 (fun h=>(ug h).1);have J:(∃ad,B4=some ad/\∀(j:Nat) u,zs[j]? =some u->w7.cell? (ad.add j)=some u)∨(B4=none/\rp.length=0):=(by rcases BA with h|⟨H,I⟩;exact .inl h;exact .inr ⟨H,by rw[I];rfl⟩)))
      exact⟨⟨k+1,z,bM,by rw[←SI.out,←Cp,aX.out];exact rK.next rh vr fG ax mG ki⟩,by simp[RowKit.intOf];omega⟩
     ·obtain rfl:k=(f a n).length:=z;have aJ:decide (((f a n).length:Int)<((f a n).length:Int))=false:=am;have bv:decide ((f a n).length<(f a n).length)=false:=am
      go_wp2;refine tq au au ?_;change wpStill _ _ wr.drew (fun dI=>Exit.then _ _ Exit.normal dI wr.drew) _ _;have s:=y.U ((bi _ _).drew);clear y B;generalize wr.drew=t at*;repeat still_step
      refine qJ ?_;try rw[bv]
      have ah:rK W t u9 ((List.range' 1 (n+1-1)).flatMap F):=by rw[←aAD F n sb,af.out,yZ.out];rw[vG]at s;exact s
      clear s
      go_wp2;go_roundw;case rel=>first|exact⟨n+1,z,z,bM,ah⟩|((repeat apply Exists.intro);refine⟨?_,rfl⟩;exact⟨n+1,z,z,bM,ah⟩)
      case measure=>simp[RowKit.intOf];omega
   ·obtain rfl:n=N+1:=z;rw[MZ]at y;have ay:=aN.out;by_cases H:N+1<=m-r.length
    ·have et:((N+1:Nat):Int)<=(m:Int)-(r.length:Int):=z;have fA:decide (((N+1:Nat):Int)<=(m:Int)-(r.length:Int))=true:=bu;have A7:decide ((N:Int)+1<=(m:Int)-(r.length:Int))=true:=bu;have hL:decide (((N+1:Nat):Int)<(Z a:Int))=false:=bu;have lV:decide (N+1<Z a)=false:=bu;have q4:decide ((N:Int)+1<(Z a:Int))=false:=bu;clear ay
     go_wp2;refine tq au au ?_;change wpStill _ _ wr.drew (fun dI=>Exit.then _ _ Exit.normal dI wr.drew) _ _;have s:=y.U ((bi _ _).drew);clear y;generalize wr.drew=ap at*;repeat still_step
     refine qJ ?_;try rw[lV]
     go_wp2;go_ret;exact⟨s.ret,s.b⟩
    ·have fA:decide (((N+1:Nat):Int)<=(m:Int)-(r.length:Int))=false:=bu;have A7:decide ((N:Int)+1<=(m:Int)-(r.length:Int))=false:=bu;clear ay
     go_wp2;refine tq au au ?_;change wpStill _ _ wr.drew (fun dI=>Exit.then _ _ Exit.normal dI wr.drew) _ _;have s:=y.U ((bi _ _).drew);clear y;generalize wr.drew=ap at*;repeat still_step
     refine qJ ?_
     go_wp2;go_ret;exact⟨s.ret,s.b⟩
end Go.bj
namespace Go.b3
open Go Go.Proofs Go.RowKit Go.c0 Go.bj
def AA(rs:List bA):List Nat->List (List Int)->Prop
 |[],[]=>True
 |s::ss,a::cs=>gc rs [s] a=some a.length/\AA rs ss cs
 |_,_=>False
theorem AA.len{rs:List bA}:∀{ss:List Nat} {cs:List (List Int)},AA rs ss cs->cs.length=ss.length
 |[],[],_=>rfl
 |s::ss,a::cs,h=>by simp[AA.len h.2]
theorem AA.Oz{rs:List bA}:∀{ss:List Nat} {cs:List (List Int)} (_:AA rs ss cs) (i:Nat) (H:i<ss.length) (I:i<cs.length),gc rs [ss[i]] cs[i]=some cs[i].length
 |s::ss,a::cs,h,0,_,_=>h.1
 |s::ss,a::cs,h,i+1,H,I=>h.2.Oz i (by simpa using H) (by simpa using I)
theorem aey(rs:List bA):∀(ss:List Nat) (q:List Int),gc rs ss q=some q.length->∃cs,AA rs ss cs/\q=cs.flatten
 |[],q,h=>by
  rw[A8]at h
  have:q=[]:=HS.1 (by injection h with h;exact h.symm)
  exact⟨[],h5,by rw[this];rfl⟩
 |s::ss,q,h=>by
  have H:=J0 rs q [s] ss
  rw[anN,h]at H
  cases a:gc rs [s] q with
  |none=>rw[a]at H;cases H
  |some n=>
   rw[a,Cy]at H
   cases b:gc rs ss (q.drop n)with
   |none=>rw[b]at H;cases H
   |some m=>
    rw[b,ob]at H
    injection H with H
    have d:=J3 rs _ _ _ a
    have hd:(q.drop n).length=m:=by rw[pp];omega
    obtain⟨cs,I,c⟩:=aey rs ss (q.drop n) (by rw[b,hd])
    refine⟨q.take n::cs,⟨?_,I⟩,?_⟩
    ·rw[Uv rs _ _ _ a,n_];congr 1;omega
    ·rw[anE,←c,yR]
def off(cs:List (List Int))(k:Nat):Nat:=(cs.take k).flatten.length
theorem azn(cs:List (List Int)):off cs 0=0:=by simp[off]
theorem azm(cs:List (List Int))(k:Nat)(a:k<cs.length):off cs (k+1)=off cs k+cs[k].length:=by
 rw[off,off,tu a,aa9,ie];simp
theorem akB(cs:List (List Int))(k:Nat)(a:k<cs.length):cs.flatten.drop (off cs k)=cs[k]++(cs.drop (k+1)).flatten:=by
 conv=>lhs;rw[←yR k cs,aa9]
 rw[yR,off,List.drop_left,EY a,anE]
theorem akC(cs:List (List Int))(k:Nat)(a:k<cs.length):off cs k+cs[k].length<=cs.flatten.length:=by
 have h:=ih List.length (akB cs k a);rw[pp,ie]at h;have I:off cs k<=cs.flatten.length:=by
  conv=>rhs;rw[←yR k cs,aa9,ie]
  unfold off;omega
 omega
def IU(w:World)(va:Option Addr)(l:List (List Int)):Prop:=0<l.length->∃b o,va=some ⟨b,o,none⟩/\b<w.heap.size/\∀i (hi:i<l.length),∃a c,w.cell? ⟨b,o+i,none⟩=some (.slice a l[i].length c)/\oZ w a l[i]/\l[i].length<=c
theorem IU.U{w w':World}{va:Option Addr}{l:List (List Int)}(h:IU w va l)(A:Below w.heap.size w w'):IU w' va l:=fun ab=>by
 obtain⟨b,o,e,a,c⟩:=h ab
 refine⟨b,o,e,cE A a,fun i hi=>?_⟩
 obtain⟨f,g,H,I,d⟩:=c i hi
 exact⟨f,g,by rw[A.cell a];exact H,I.U A,d⟩
def R9(b:List Value):Prop:=∀v∈b,∀a l c,v=Value.slice a l c->l<=c
structure uF (W wr:World) (v:Value) (l:List (List Int)):Prop where
 e2:∃bE,wr.ownsRow W.heap.size 22 1 v l.length bE/\kf wr bE l/\R9 bE
 b:Below W.heap.size W wr
theorem uF.U{W wr w':World}{v:Value}{l:List (List Int)}(h:uF W wr v l)(A:Below wr.heap.size wr w'):uF W w' v l:=by
 obtain⟨b,H,I,a⟩:=h.e2;exact⟨⟨b,ye H A,I.U A,a⟩,b_ h.b A⟩
theorem uF.g7(W wr:World)(A:Below W.heap.size W wr):uF W wr (.slice none 0 0) []:=⟨⟨[],mo _ _ _ _,h5,fun v J=>by cases J⟩,A⟩
theorem uF.next{W wr d:World}{v v5:Value}{l m:List (List Int)}{b zs:List Value}(H:wr.ownsRow W.heap.size 22 1 v l.length b)(I:kf wr b l)(j:R9 b)(g:kf wr zs m)(k:R9 zs)(A:Below W.heap.size W wr)(i:d.ownsRow W.heap.size 22 1 v5 (l.length+m.length) (b++zs))(f:wr.grownBy d v.ownBlock):uF W d v5 (l++m):=by
 have h:=rK.next H I g A i f;exact⟨⟨b++zs,by rw[ie];exact i,(I.kept (Ee H f)).FM (g.kept (Ee H f)),fun u hu a l c e=>by
  rcases nJ.1 hu with hu|hu
  ·exact j u hu a l c e
  ·exact k u hu a l c e⟩,h.b⟩
theorem uF.parts{W wr:World}{v:Value}{l:List (List Int)}(h:uF W wr v l):∃va e,v=.slice va l.length e/\IU wr va l:=by
 obtain⟨o,H,I,c⟩:=h.e2;by_cases ab:v=.slice none 0 0
 ·subst ab;rcases H.2 with⟨_,q⟩|⟨g,cap,d,ak,_⟩
  ·exact⟨none,0,by rw[show l.length=0 by omega],fun s=>z⟩
  ·cases ak
 ·obtain⟨g,cap,d,ak,n,a,r,t,m⟩:=tb H ab;refine⟨_,_,ak,fun _=>⟨g,0,rfl,cX a,fun i hi=>?_⟩⟩;obtain⟨u,hu,j,k,rfl,f⟩:=I.md i hi;have b:=m i z;rw[hu]at b;exact⟨j,k,by rw[gm];exact lb a b,f,c _ (Aw hu) _ _ _ rfl⟩
end Go.b3
namespace Go.b3
open Go Go.Proofs.Tryz Go.Proofs Go.RowKit Go.c0 Go.bj
section
variable {S:cO} {M:Nat->Nat} {rs:List bA} {ca bd:Option Addr} {cc aV rb aC rc:Nat} {w:World}
def ap9(cs:List (List Int))(e:Ending)(w':World):Prop:=∃va a,e=.returned (.tuple #[.slice va cs.length a,.bool true])/\IU w' va cs
attribute [local irreducible] wpStill in
theorem aCL(h:oX S M rs ca bd cc aV rb aC rc w)(aF:Option Addr)(d s k:Nat)(ab:k<rs.length)(cs:List (List Int))(hcut:AA rs rs[k].args cs)(ag:k5 w aF ((k:Int)::cs.flatten))(jc:cs.flatten.length+1<=d)(zE:cs.flatten.length<=99)(dC:AX rs s ((k:Int)::cs.flatten)): Calls prog 283 #[.agg (eh S rs ca bd cc aV rb aC rc),.slice aF (cs.flatten.length+1) d] w fun e w'=>ap9 cs e w'/\Below w.heap.size w w':=by
 have hI:=G fun W (B:Below w.heap.size w W)=>amO (h.U B) aF d s _ (ag.U B) (by rw[mP];omega) dC;have ez:=G (aac (.string S.bo) (.int .i64 S.cZ) (.slice ca S.bs.length cc) (.slice bd S.aB.length aV) (.int .i64 S.aj) rs rb aC rc aF d _ w h.r ag h.h7 h.qA (by rw[mP];omega) (cs.flatten.length+1));have R:=hw.eI w (eh S rs ca bd cc aV rb aC rc);have CQ:=G ag;obtain⟨pb,po,rfl,ky,nA⟩:=ag am;have jJ:=nA 0 am;rw[yN,hG]at jJ;have ax:=G nA;have D8:=h.r;obtain⟨tg,Hp,cw,h0,kj⟩:=D8;cases cw;obtain⟨aP,ac,P⟩:=kj k ab;have ep:=P.c3;have ij:=G P.args;have nT:=h.h7 _ (fM ab);have Fh:=G hcut;have fS:=hcut.len;have i3:(0:Int)<=(k:Int):=z;have mI:(k:Int)<rs.length:=z;have ul:0<(cs.flatten.length:Int)+1:=z;have ak:((k:Int)== -1)=false:=by simp<;>omega
 have ug:=h.qA;generalize l3:cs.flatten.length=fR at*;rw[mP,l3]at hI ez;have qN:=G l3;clear nA h kj P dC hcut l3 ag;go_enter func283,ntmps283;go_upto_region 2 with(go_at_call 178;refine(hI.out _ R.b).mono ?_;rintro e x ⟨rfl,aO⟩)
 have A:=R.U aO;have FZ:=(A.b.cell ky).trans jJ;have b6:=(A.b.cell h0).trans ep;clear R aO hI jJ ep;go_upto_region 6 with fail
 have eK:=A.F7;have F0:x.drew.cell? ⟨pb,po,none⟩=_:=FZ;have cf:x.drew.cell? ⟨rb,aC+k*4+3,none⟩=_:=b6;refine tq au au ?_;change wpStill _ _ x.drew (fun dI=>Exit.then _ _ Exit.normal dI x.drew) _ _;clear A FZ b6;generalize x.drew=ao at*;have y:=aS 4 eK.g;repeat still_step
 refine qJ ?_;clear y F0 cf
 go_wp2;generalize aI:rs[k].args=H at*;go_loopw [8,9,11] (fun v a i wr=>∃j:Nat,j<=cs.length/\a=.int .i64 ((1+off cs j:Nat):Int)/\i=.int .i64 (j:Nat)/\uF ao wr v (cs.take j)) (fun _ _ i _=>cs.length-(RowKit.intOf i).toNat);case atStart=>exact⟨0,dq _,by simp[azn],rfl,by rw[List.take_zero];exact uF.g7 _ _ (bi _ _)⟩
 case round=>
  obtain⟨j,aa,rfl,rfl,q⟩:=hrel;have bc:=q.b;have l:=eK.U bc;by_cases aq:j<cs.length
  ·have pL:j<H.length:=z;obtain⟨E,Z,rfl,ja,nU⟩:=ij.out z;have I:=(l.b.cell ja).trans (nU j pL);have D:=Fh.out.Oz j pL aq;have O:=akB cs j aq;have dx:=akC cs j aq;rw[qN.out]at dx;have pN:=F_ D;generalize an:cs[j].length=m at*;have aw:=fun W (B:Below w.heap.size w W)=>ez.out (1+off cs j) H[j] m W z (by
    rw[sz 1,RK,O]
    exact J1 rs _ _ _ _ D) B
   have Iy:=G aw;generalize H[j]=ge at*;have kP:off cs j<=99:=z;have si:(0:Int)<=(j:Int):=z;have sj:(j:Int)<H.length:=z;have ay:=G O;have lS:=G D;have o:=G an;clear nU O D aw an;generalize U':1+off cs j=c at*;obtain⟨Y,T,X,V,y,f⟩:=fZ l.g;have hX:wr.drew.cell? ⟨w.heap.size,0,none⟩=some (.string S.bo):=Y;have et:wr.drew.cell? ⟨w.heap.size,1,none⟩=some (.int .i64 S.cZ):=T;have fA:wr.drew.cell? ⟨w.heap.size,2,none⟩=some (.slice ca S.bs.length cc):=X;have hL:wr.drew.cell? ⟨w.heap.size,3,none⟩=some (.slice bd S.aB.length aV):=V;have lV:wr.drew.cell? ⟨w.heap.size,4,none⟩=some (.slice (some ⟨rb,aC,none⟩) rs.length rc):=y;have np:wr.drew.cell? ⟨w.heap.size,5,none⟩=some (.int .i64 S.aj):=f;have aj:wr.drew.cell? ⟨E,Z+j,none⟩=some (.int .i64 ge):=I;have aG:=G l;have K:=G q;have uD:=G (l.b.drew);clear q bc eK;have Ku:E<wr.heap.size:=cE l.b ja;clear l;go_upto_region 10 with fail
   go_region_held3 (fun aD=>aD.cell? ⟨w.heap.size,0,none⟩=some (.string S.bo)/\aD.cell? ⟨w.heap.size,1,none⟩=some (.int .i64 S.cZ)/\aD.cell? ⟨w.heap.size,2,none⟩=some (.slice ca S.bs.length cc)/\aD.cell? ⟨w.heap.size,3,none⟩=some (.slice bd S.aB.length aV)/\aD.cell? ⟨w.heap.size,4,none⟩=some (.slice (some ⟨rb,aC,none⟩) rs.length rc)/\aD.cell? ⟨w.heap.size,5,none⟩=some (.int .i64 S.aj)/\aD.cell? ⟨E,Z+j,none⟩=some (.int .i64 ge)) (first|with_reducible exact⟨Y,T,X,V,y,f,I⟩|with_reducible exact⟨hX,et,fA,hL,lV,np,aj⟩|with_reducible exact⟨u0,u1,u2,u3,u4,u5,u6⟩|go_keep) (first|(go_at_call 94;refine(Iy.out _ uD.out).mono ?_;rintro e n ⟨rfl,bt⟩;have C:=(lK wr).trans bt;have mu:=aG.out.U C;obtain⟨u0,u1,u2,u3,u4,u5⟩:=fZ mu.g;have u6:n.cell? ⟨E,Z+j,none⟩=some (.int .i64 ge):=(by rw[C.cell Ku];exact I)));obtain⟨mJ,mC,i',iF,iX⟩:=jt BG;obtain⟨vt,vk,jT,ir,i0⟩:=jt Li;have fg:(0:Int)<=(c:Int)+(m:Int):=z;have ce:(c:Int)+(m:Int)<=(fR:Int)+1:=z;have eb:(fR:Int)+1<=(d:Int):=z;have eV:(c:Int)<=(d:Int):=z;have oF:((c:Int)+(m:Int)).toNat=c+m:=z;have wL:(c:Int)<=(c:Int)+(m:Int):=z;have aK:¬d=c:=z;have aL:¬d-c=0:=z;have aA:=G fun aD (U:Below w.heap.size w aD) i hi=>(U.cell ky).trans (ax.out i hi);have av:((((k:Int)::cs.flatten).drop c).take m)=cs[j]:=by rw[←U',sz 1,RK,ay.out,←o.out,List.take_left]
   have gW:Hid (∀aD,Below w.heap.size w aD->∀(i:Nat) u,(e0 cs[j])[i]? =some u->aD.cell? (Addr.add ⟨pb,po+c,none⟩ i)=some u):=G fun aD U i u hu=>Qz (aA.out aD U) c m i u (by rw[av];exact hu);have b2:(e0 cs[j]).length=m*1:=by rw[ER,o.out,tv]
   have vM:=Ik n n.heap.size 3 1 (aZ _);have F:=fH n (.cells #[] 3);have aE:=mu.U F;have az:=G (K.out.U C);clear u0 u1 u2 u3 u4 u5 u6 Y T X V y f hX et fA hL lV np aj I K Iy av bt C;go_upto_region 11 with fail
   go_wp2_with (first
    |(at_builtin;refine lP _ rfl _ _ 22 rfl n.heap.size 3 mJ _ 1 8 underlying22 mC i' iF iX rfl ai (.slice (some ⟨n.heap.size,0,none⟩) 0 0) 0 [] rfl vM ⟨pb,po+c,none⟩ m (d-c) (e0 cs[j]) rfl b2 (gW.out _ aE.b) (ES _) (by unfold maxLen;omega) z F.size ?_;intro v5 Q L Br K0;rw[gm,vF]at L;have zH:v5≠ .slice none 0 0:=(fun e=>by have:=(K0.1 e).2;omega);obtain⟨f,r,aN,rfl,aM,_⟩:=tb L zH;have dd:=aiC L o.out;have hT:=F.grown Br F.size (fun g al=>by simp[Value.ownBlock]at al;subst al;exact aZ _);have hv:=hT.alloc hT.size (.cells #[.slice (some ⟨f,0,none⟩) m r] 22);have N:=az.out.U hv;obtain⟨bE,c_,dL,fU⟩:=N.e2;have vQ:=mu.U hv;have aJ:=G vQ;have af:=G dd;have ad:=G N.b;have ah:=c_;have IR:=G dL;have aB:=G fU;clear L Br K0 zH c_ dL fU dd hT N vQ)
    |(at_builtin;refine lP _ rfl _ _ 23 rfl ao.heap.size 22 vt _ 1 24 underlying23 vk jT ir i0 rfl ai _ (cs.take j).length bE rfl ah ⟨Q.heap.size,0,none⟩ 1 1 [.slice (some ⟨f,0,none⟩) m r] rfl rfl (sy (cs:=#[.slice (some ⟨f,0,none⟩) m r]) (t:=22) (fr:=(0,0)) (p1 Q _)) (by simp[Value.oneCell']) (by rw[n_];unfold maxLen;omega) (by rw[n_];omega) ad.out.size ?_;intro h4 bq f' fD _))
   have ae:=uF.next (m:=[cs[j]]) (zs:=[.slice (some ⟨f,0,none⟩) m r]) ah IR.out aB.out ⟨⟨some ⟨f,0,none⟩,r,by rw[o.out],af.out.1.U (fH Q _)⟩,h5⟩ (fun u hu dI sl gq e=>by
    rw[Cs]at hu
    subst hu
    cases e
    have:=af.out.2
    rw[o.out]at this
    exact this) ad.out f' fD
   have aH:=azm cs j aq;rw[o.out]at aH;rw[←tu aq]at ae;have Gi:((1+off cs (j+1):Nat):Int)=(c:Int)+(m:Int):=z;refine⟨⟨j+1,z,?_,?_,ae⟩,?_⟩
   ·rw[Gi]
   ·go_num
   ·simp[RowKit.intOf];omega
  ·have GB:j=cs.length:=z;subst GB;rw[vG]at q;have K:=G q;clear q
   go_wp2;go_ret2
   obtain⟨va,cq,rfl,eY⟩:=K.out.parts;exact⟨⟨va,cq,rfl,eY⟩,l.b⟩
end
end Go.b3
namespace Go.b3
open Go Go.Proofs.Tryz Go.Proofs Go.RowKit Go.Lib Go.aI
open Go.c0 (cO bA iM)
open Go.bj.N (lq)
theorem eR.mono{n m:Nat}{v:bH}(h:eR n v)(c:n<=m):eR m v:=by
 have ag:10^(2*n+1)<=10^(2*m+1):=ks ai z;cases h with
 |gZ e ab H=>exact .gZ e ab H
 |g8 s h=>exact .g8 s h
 |gi N S h g f=>exact .gi N S h z z
 |ju d ab H=>exact .ju d ab H
 |lU b h=>exact .lU b h
 |iw a_ a h=>exact .iw a_ a h
theorem eR.En{n:Nat}{v:bH}(h:eR n v)(a:v.kind=1):∃s,v=b3.g8 s/\j5 s:=by
 cases h with
 |g8 s h=>exact⟨s,rfl,h⟩
 |_=>exact absurd a (by simp[bH.kind])
theorem eR.BU{n:Nat}{v:bH}(h:eR n v)(a:v.kind=2):∃(N:Int) (S:Nat),v=b3.gi N S/\g1 N S/\N.natAbs<=10^(2*n+1)/\2*S<=n+1:=by
 cases h with
 |gi N S h c b=>exact⟨N,S,rfl,h,c,b⟩
 |_=>exact absurd a (by simp[bH.kind])
theorem eR.XW{n:Nat}{v:bH}(h:eR n v)(a:v.kind=3):∃d,v=b3.ju d/\0<=d/\d<=3652058:=by
 cases h with
 |ju d ab H=>exact⟨d,rfl,ab,H⟩
 |_=>exact absurd a (by simp[bH.kind])
theorem eR.XX{n:Nat}{v:bH}(h:eR n v)(a:v.kind=5):∃a_,v=b3.iw a_/\a_.length<=3:=by
 cases h with
 |iw a_ b h=>exact⟨a_,rfl,b⟩
 |_=>exact absurd a (by simp[bH.kind])
structure w5 (l:List bH) (fh:List Nat) (m:Nat):Prop where
 len:fh.length=l.length
 Bd:∀i (H:i<l.length) (I:i<fh.length),1<=fh[i]/\eR fh[i] l[i]
 sum:fh.sum+1=m
 le:m<=5
theorem w5.any{l:List bH}{fh:List Nat}{m:Nat}(h:w5 l fh m):∀v∈l,∃n,eR n v:=fun v J=>by
 obtain⟨i,hi,rfl⟩:=RM J
 exact⟨_,(h.Bd i hi (by rw[h.len];exact hi)).2⟩
theorem afD:∀(fh:List Nat) (i:Nat) (h:i<fh.length),fh[i]<=fh.sum
 |a::fh,0,_=>by simp
 |a::fh,i+1,h=>by
  have:=afD fh i (by simpa using h)
  simp only[E1,List.sum_cons];omega
theorem w5.all{l:List bH}{fh:List Nat}{m:Nat}(h:w5 l fh m):∀v∈l,eR m v:=fun v J=>by
 obtain⟨i,hi,rfl⟩:=RM J
 have I:i<fh.length:=by rw[h.len];exact hi
 have:=afD fh i I
 have:=h.sum
 exact(h.Bd i hi I).2.mono z
theorem w5.Ep{l:List bH}{fh:List Nat}{m k:Nat}(h:w5 l fh m)(b:uH [k] l):∃v a,l=[v]/\v.kind=(k:Int)/\eR a v/\1<=a/\a+1=m/\m<=5:=by
 match l,b with
 |[v],b=>
  match fh,h with
  |[a],h=>have H:=h.Bd 0 am am;have I:=b.2 0 am am;have c:=h.sum;have d:=h.le;simp at H I c;exact⟨v,a,rfl,I,H.2,H.1,c,d⟩
  |[],h=>exact absurd h.len am
  |_::_::_,h=>exact absurd h.len am
 |[],b=>exact absurd b.1 am
 |_::_::_,b=>exact absurd b.1 am
theorem w5.kZ{l:List bH}{fh:List Nat}{m ce eb:Nat}(h:w5 l fh m)(c:uH [ce,eb] l):∃d e a b,l=[d,e]/\d.kind=(ce:Int)/\e.kind=(eb:Int)/\eR a d/\eR b e/\1<=a/\1<=b/\a+b+1=m/\m<=5:=by
 match l,c with
 |[d,e],c=>
  match fh,h with
  |[a,b],h=>have H:=h.Bd 0 am am;have I:=h.Bd 1 am am;have g:=c.2 0 am am;have i:=c.2 1 am am;have f:=h.sum;have j:=h.le;simp at H I f g i;exact⟨d,e,a,b,rfl,g,i,H.2,I.2,H.1,I.1,f,j⟩
  |[],h=>exact absurd h.len am
  |[_],h=>exact absurd h.len am
  |_::_::_::_,h=>exact absurd h.len am
 |[],c=>exact absurd c.1 am
 |[_],c=>exact absurd c.1 am
 |_::_::_::_,c=>exact absurd c.1 am
def lo(S:cO)(r:bA):Prop:=∀(m:Nat) (w:World) (b:Value) (ca:Option Addr) (cc:Nat) (_:lq w b) (_:iM w ca S.bs) (c:Option Addr) (rc:Nat) (R:List bH) (_:cU be (aY be 1) w c R) (_:S.bs.length=R.length) (_:∀v∈R,eR 1 v) (a:Option Addr) (ac:Nat) (l:List bH) (fh:List Nat) (_:w5 l fh m) (_:cU be (aY be 1) w a l),
 Calls prog 284 #[.string r.op,.string r.aF,.slice a l.length ac,b,.slice ca S.bs.length cc,.slice c R.length rc] w fun e w'=>eS w.heap.size m e w'/\Below w.heap.size w w'
end Go.b3
namespace Go.b3
open Go Go.Proofs.Tryz Go.Proofs Go.RowKit Go.c0 Go.bj
open Go.bj.N (lq)
structure Fb (S:cO) (M:Nat->Nat) (rs:List bA) (ca bd:Option Addr) (cc aV rb aC rc:Nat) (bp:Value) (eZ:Option Addr) (rwc:Nat) (R:List bH) (w:World):Prop where
 ns:oX S M rs ca bd cc aV rb aC rc w
 ok:∀r∈rs,lo S r
 base:lq w bp
 e2:cU be (aY be 1) w eZ R
 len:S.bs.length=R.length
 Bd:∀v∈R,eR 1 v
theorem Fb.U{S:cO}{M:Nat->Nat}{rs:List bA}{ca b:Option Addr}{cc a rb aC rc:Nat}{c:Value}{d:Option Addr}{rwc:Nat}{R:List bH}{w w':World}(h:Fb S M rs ca b cc a rb aC rc c d rwc R w)(A:Below w.heap.size w w'):Fb S M rs ca b cc a rb aC rc c d rwc R w':=
 ⟨h.ns.U A,h.ok,h.base.U A,cU.U (aY.mono be 1) h.e2 A,h.len,h.Bd⟩
structure Nf (w:World) (aG:Array Value) (Mf:Nat) (ea:Array Value) (wr:World):Prop where
 b:Below w.heap.size w wr
 g:kd wr w.heap.size 29 aG
 o:wr.heap[w.heap.size+1]? =some (.cells fi 44 (0,0))
 r:wr.heap[Mf]? =some (.cells ea 86 (0,0))
theorem Nf.U{w wr w':World}{b ea:Array Value}{a:Nat}(h:Nf w b a ea wr)(A:Below wr.heap.size wr w'):Nf w b a ea w':=
 ⟨b_ h.b A,h.g.U A,(A.block _ (cX h.o)).trans h.o,(A.block _ (cX h.r)).trans h.r⟩
structure FD (W:World) (m e3:Nat) (k N S n:Int) (s:ByteArray) (ca:Option Addr) (cl cc:Nat) (ra:Option Addr) (rl rc:Nat) (err:Int) (yA:World):Prop where
 b:Below W.heap.size W yA
 kI:W.heap.size<=e3
 x:yA.heap[e3]? =some (.cells (bY k s N S n ca cl cc ra rl rc) 44 (0,0))
 eg:0<=err
 ak:err<=99
 v:err=0->∃v,aY (gR W.heap.size) 1 yA (bY k s N S n ca cl cc ra rl rc) v/\eR m v
theorem FD.BM{W a:World}{m:Nat}{k N S n:Int}{s:ByteArray}{ca:Option Addr}{cl cc:Nat}{ra:Option Addr}{rl rc:Nat}{err:Int}(ab:0<=err)(H:err<=99)(h:err=0->∃v,aY (gR W.heap.size) 1 a (bY k s N S n ca cl cc ra rl rc) v/\eR m v)(A:Below W.heap.size W a):
  FD W m a.heap.size k N S n s ca cl cc ra rl rc err (a.alloc (.cells (bY k s N S n ca cl cc ra rl rc) 44)):=
 ⟨A.alloc A.size _,A.size,da a _,ab,H,fun e=>by
  obtain⟨v,J,b⟩:=h e
  exact⟨v,J.U ((bi _ _).alloc (aZ _) _),b⟩⟩
theorem FD.asZ{W b:World}{m:Nat}{k N S n:Int}{s:ByteArray}{ca:Option Addr}{cl cc:Nat}{ra:Option Addr}{rl rc:Nat}{err:Int}(ab:0<=err)(H:err<=99)(h:err=0->∃v,aY (gR (W.alloc (.cells fi 44)).drew.heap.size) 1 b (bY k s N S n ca cl cc ra rl rc) v/\eR m v)(A:Below (W.alloc (.cells fi 44)).drew.heap.size (W.alloc (.cells fi 44)).drew b): FD W m W.heap.size k N S n s ca cl cc ra rl rc err (yh b W.heap.size (.int .i64 k) (.string s) (.int .i64 N) (.int .i64 S) (.int .i64 n) (.slice ca cl cc) (.slice ra rl rc)):=by
 have I:(W.alloc (.cells fi 44)).drew.heap.size=W.heap.size+1:=am;have g:Below W.heap.size W b:=((fH W _).drew).trans (A.mono z);have f:b.heap[W.heap.size]? =some (.cells fi 44 (0,0)):=(A.block _ z).trans (da W _);refine⟨ib g (aZ _) _ _ _ _ _ _ _,aZ _,h3 f _ _ _ _ _ _ _,ab,H,fun e=>?_⟩;have j:=eS.put (r:=W.heap.size) (B:=W.heap.size) (base:=(W.alloc (.cells fi 44)).drew.heap.size) (n:=m) (k:=k) (s:=s) (N:=N) (S:=S) (n':=n) (ca:=ca) (cl:=cl) (cc:=cc) (ra:=ra) (rl:=rl) (rc:=rc) (err:=err) ⟨_,_,_,_,_,_,_,_,_,_,_,_,rfl,ab,H,h⟩ z z;obtain⟨eb,D,y,x,C,o,t,q,F,u,E,w,a,_,_,l⟩:=j;injection a with a
 injection a with a
 injection a with a
 injection a with d c
 injection c with c _
 injection c with _ c
 subst c;injection d with d
 obtain⟨v,J,i⟩:=l e;rw[←d]at J;exact⟨v,J,i⟩
attribute [local irreducible] wpStill in
theorem atj{S:cO}{M:Nat->Nat}{rs:List bA}{ca F:Option Addr}{cc E rb aC rc:Nat}{bp:Value}{eZ:Option Addr}{rwc:Nat}{R:List bH}:∀(N:Nat) (p:List Int) (s:Nat) (aF:Option Addr) (X:Nat) (w:World),p.length<=N->Fb S M rs ca F cc E rb aC rc bp eZ rwc R w->k5 w aF p->AX rs s p->p.length<=X->p.length<=5-> Calls prog 180 #[.agg (eh S rs ca F cc E rb aC rc),bp,.slice aF p.length X,.slice eZ R.length rwc] w fun e w'=>eS w.heap.size p.length e w'/\Below w.heap.size w w':=by
 intro N;induction N with
 |zero=>intro p s aF X w dG h ag dC;have:=F_ dC.gc;omega
 |succ N px=>
  intro p s aF X w dG h ag dC jc ue;obtain⟨k,ad,q,rfl,aH,g⟩:=dC.first;obtain⟨cs,hcut,rfl⟩:=aey rs _ q g;have qk:=h.ns;obtain⟨pb,po,rfl,ky,nA⟩:=ag am;have jJ:=nA 0 am;rw[yN,hG]at jJ;obtain⟨tg,Hp,cw,h0,kj⟩:=qk.r;cases cw;obtain⟨V,ac,ab⟩:=kj k ad;have fV:=ab.br;have b6:=ab.c1;have cf:=ab.c2;have ep:=ab.c3;have ai:=G (h.ok _ (fM ad));have i3:(0:Int)<=(k:Int):=z;have mI:(k:Int)<rs.length:=z;have ug:=qk.qA;have aI:cs.flatten.length+1<=X:=by rw[mP]at jc;exact jc
  have aM:cs.flatten.length<=N:=by rw[mP]at dG;omega
  have bZ:cs.flatten.length<=4:=by rw[mP]at ue;omega
  have an:=G fun W (ar:Below w.heap.size w W)=>aCL (qk.U ar) (some ⟨pb,po,none⟩) X s k ad cs hcut (ag.U ar) aI z dC;have Nt:=G px;have ak:=G h;have Fh:=G hcut;have aU:cs.length<=3:=by rw[hcut.len];exact qk.h7 _ (fM ad)
  have aJ:=G dC;have ul:0<(cs.flatten.length:Int)+1:=z;have aR:(cs.flatten.length:Int)<=4:=z;clear nA ab kj dC hcut ag px h g qk dG jc ue;rw[mP];generalize l3:cs.flatten.length=fR at*;have qN:=G l3;clear l3;have aQ:=hw.eI w (eh S rs ca F cc E rb aC rc);go_enter func180,ntmps180;go_upto_region 1 with fail
  have f:=aQ.b.alloc aQ.b.size (.cells fi 44);have fl:=da (w.alloc (.cells (eh S rs ca F cc E rb aC rc) 29)) (.cells fi 44);have Vh:=aQ.U ((bi (w.alloc (.cells (eh S rs ca F cc E rb aC rc) 29)).heap.size _).alloc (aZ _) (.cells fi 44));have dN:(w.alloc (.cells (eh S rs ca F cc E rb aC rc) 29)).heap.size=w.heap.size+1:=am;rw[dN]at fl;clear aQ dN;generalize (w.alloc (.cells (eh S rs ca F cc E rb aC rc) 29)).alloc (.cells fi 44)=B at*;have u:B.cell? ⟨w.heap.size,4,none⟩=some (.slice (some ⟨rb,aC,none⟩) rs.length rc):=aS 4 Vh.g;have FZ:=aA f ky jJ;have fu:=aA f h0 fV;have b':=aA f h0 b6;have dt:=aA f h0 cf;have eq:=aA f h0 ep;have aK:pb<B.heap.size:=cE f ky;have aL:rb<B.heap.size:=cE f h0;have i7:=G f;have hJ:=G fl;have AI:=G Vh;clear jJ fV b6 cf ep f fl Vh
  go_region_held3 (fun aT=>aT.cell? ⟨w.heap.size,4,none⟩=some (.slice (some ⟨rb,aC,none⟩) rs.length rc)/\aT.cell? ⟨pb,po,none⟩=some (.int .i64 k)/\aT.cell? ⟨rb,aC+k*4,none⟩=some (.int .i64 (rs[k].h:Int))/\aT.cell? ⟨rb,aC+k*4+1,none⟩=some (.string rs[k].op)/\aT.cell? ⟨rb,aC+k*4+2,none⟩=some (.string rs[k].aF)/\aT.cell? ⟨rb,aC+k*4+3,none⟩=some (.slice V rs[k].args.length ac)) (first|with_reducible exact⟨u,FZ,fu,b',dt,eq⟩|exact⟨u,FZ,fu,b',dt,eq⟩|go_keep) (fail);have Va:=fH B (.cells #[.int .i64 (rs[k].h:Int),.string rs[k].op,.string rs[k].aF,.slice V rs[k].args.length ac] 86);rw[aH]at Va;have Gi:=Va.drew;have jN:(B.alloc (.cells #[.int .i64 (s:Int),.string rs[k].op,.string rs[k].aF,.slice V rs[k].args.length ac] 86)).drew.heap[B.heap.size]? =some (.cells #[.int .i64 (s:Int),.string rs[k].op,.string rs[k].aF,.slice V rs[k].args.length ac] 86 (0,0)):=da B (.cells #[.int .i64 (s:Int),.string rs[k].op,.string rs[k].aF,.slice V rs[k].args.length ac] 86);have eK:=G (Nf.mk (b_ i7.out Gi) (AI.out.U Gi).g ((Gi.block _ (cX hJ.out)).trans hJ.out) jN);clear Va Gi jN hJ AI i7 u FZ fu b' dt eq aK aL;generalize (B.alloc (.cells #[.int .i64 (s:Int),.string rs[k].op,.string rs[k].aF,.slice V rs[k].args.length ac] 86)).drew=ao at*;generalize B.heap.size=Mf at*;obtain⟨Z,m,K,o,u,dZ⟩:=fZ eK.out.g;have al:=G (an.out ao eK.out.b);clear an;go_upto_region 3 with(go_at_call 283;(with_reducible refine al.out.mono ?_);rintro e P ⟨⟨va,cq,rfl,eY⟩,ba⟩)
  have lv:=G (eK.out.U ba);have iO:=G eY;clear eK al Z m K o u dZ eY ba;go_upto_region 4 with fail
  go_wp2;go_loopw [13,14] (fun v i wr=>∃j:Nat,j<=cs.length/\i=.int .i64 (j:Nat)/\Below P.heap.size P wr/\∃l:List bH,l.length=j/\Hid (∀x (H:x<l.length) (I:x<cs.length),eR cs[x].length l[x])/\mr P.heap.size 1 wr v l) (fun _ i _=>cs.length-(RowKit.intOf i).toNat);case atStart=>exact⟨0,dq _,rfl,bi _ _,[],rfl,G fun x H=>absurd H am,mr.nil _ _ _⟩
  case round=>
   obtain⟨j,aa,rfl,L,l,r_,D0,cV⟩:=hrel;have D:=G (lv.out.U L);by_cases aq:j<cs.length
   ·obtain⟨oO,qH,rfl,GS,zI⟩:=iO.out z;obtain⟨dp,ei,it,m7,uf⟩:=zI j aq;have DU:j<rs[k].args.length:=by rw[←Fh.out.len];exact aq
    have g:=Fh.out.Oz j DU aq;have pN:=F_ g;have kP:=akC cs j aq;rw[qN.out]at kP;have aw:AX rs (rs[k].args[j]'DU) cs[j]:=⟨g,fun x ae=>aJ.out.ok x (i6 _ (List.mem_flatten.2 ⟨_,fM aq,ae⟩))⟩;have H':=G fun W (ar:Below wr.heap.size wr W)=>Nt.out cs[j] _ dp ei W z (ak.out.U (b_ D.out.b ar)) (m7.U (b_ L ar)).md aw uf z;have ah:Hid (∀v,eR cs[j].length v->∀x (H:x<(l++[v]).length) (I:x<cs.length),eR cs[x].length (l++[v])[x]):=G fun v J x H I=>by
     rw[ie,HU]at H;by_cases ae:x<l.length
     ·rw[Au ae];exact D0.out x ae I
     ·obtain rfl:x=j:=z;rw[Av z];simpa using J
    have aN:cs[j].length<=4:=z;have ho:=aA L GS it;have aj:Hid (∀v,eR cs[j].length v->Hid (∀x (H:x<(l++[v]).length) (I:x<cs.length),eR cs[x].length (l++[v])[x])):=ah;clear g aw m7 it zI kP ah D0 DU;generalize cs[j]=au at*;have r:w.heap.size<wr.heap.size:=cX D.out.g;have aE:oO<wr.heap.size:=cE L GS;obtain⟨Z,m,K,o,u,dZ⟩:=fZ D.out.g;have Y:=G cV;have uD:=G L;have g4:(0:Int)<=(j:Int):=z;have gx:(j:Int)<cs.length:=z;clear cV GS L;go_upto_region 7 with fail
    go_region_held3 (fun aD=>aD.cell? ⟨w.heap.size,0,none⟩=some (.string S.bo)/\aD.cell? ⟨w.heap.size,1,none⟩=some (.int .i64 S.cZ)/\aD.cell? ⟨w.heap.size,2,none⟩=some (.slice ca S.bs.length cc)/\aD.cell? ⟨w.heap.size,3,none⟩=some (.slice F S.aB.length E)/\aD.cell? ⟨w.heap.size,4,none⟩=some (.slice (some ⟨rb,aC,none⟩) rs.length rc)/\aD.cell? ⟨w.heap.size,5,none⟩=some (.int .i64 S.aj)/\aD.cell? ⟨oO,qH+j,none⟩=some (.slice dp au.length ei)) (first|with_reducible exact⟨Z,m,K,o,u,dZ,ho⟩|with_reducible exact⟨u0,u1,u2,u3,u4,u5,u6⟩|with_reducible exact⟨(eW z).trans u0,(eW z).trans u1,(eW z).trans u2,(eW z).trans u3,(eW z).trans u4,(eW z).trans u5,(eW z).trans u6⟩|go_keep) (first
     |(go_at_call 180;(with_reducible refine(H'.out _ ((fH wr (.cells fi 44)).drew)).mono ?_);rintro e O ⟨⟨hY,bB,lz,lA,j7,lW,lB,lX,lY,lD,lZ,err,rfl,T,Q,lf⟩,dl⟩;have a:Below wr.heap.size wr O:=((fH wr (.cells fi 44)).drew).trans (dl.mono am);have u0:=aA a r Z;have u1:=aA a r m;have u2:=aA a r K;have u3:=aA a r o;have u4:=aA a r u;have u5:=aA a r dZ;have u6:=aA a aE ho;have c:=G (FD.asZ T Q lf dl);have eA:=(dl.block wr.heap.size am).trans (da wr (.cells fi 44));obtain⟨gL,cz,gs,gt,lL,n5,sp⟩:=eU eA;obtain⟨z0,cy,dv,z3,z4,z5,eP⟩:=gI eA)
     |(go_at_call 180;(with_reducible refine(H'.out _ (lK wr)).mono ?_);rintro e O ⟨⟨hY,bB,lz,lA,j7,lW,lB,lX,lY,lD,lZ,err,rfl,T,Q,lf⟩,dl⟩;have a:Below wr.heap.size wr O:=(lK wr).trans dl;have u0:=aA a r Z;have u1:=aA a r m;have u2:=aA a r K;have u3:=aA a r o;have u4:=aA a r u;have u5:=aA a r dZ;have u6:=aA a aE ho;have c:=G (FD.BM (W:=wr) T Q lf a)))
    all_goals first
     |(with_reducible change Exit.then _ _ Exit.normal _ (yh O wr.heap.size (.int .i64 hY) (.string bB) (.int .i64 lz) (.int .i64 lA) (.int .i64 j7) (.slice lW lB lX) (.slice lY lD lZ));generalize (yh O wr.heap.size (.int .i64 hY) (.string bB) (.int .i64 lz) (.int .i64 lA) (.int .i64 j7) (.slice lW lB lX) (.slice lY lD lZ))=yA at c⊢;generalize wr.heap.size=C at c⊢)
     |(generalize O.alloc (.cells (bY hY bB lz lA j7 lW lB lX lY lD lZ) 44)=yA at c⊢;generalize O.heap.size=C at c⊢)
    all_goals
     clear u0 u1 u2 u3 u4 u5 u6 Z m K o u dZ ho;have T:=c.out.eg;have Q:=c.out.ak;by_cases pJ:err=0
     ·subst pJ;obtain⟨y,aB,az⟩:=c.out.v rfl;have IJ:=G aB;have SM:=G az;have U:=G c.out.x;have A:=G c.out.b;clear aB az c;revert U A IJ;generalize yA=MD;intro IJ U A;obtain⟨gL,cz,gs,gt,lL,n5,sp⟩:=eU U.out;have Ss:=G (Y.out.U A.out);obtain⟨fs,g6,vq⟩:=Y.out.hz;subst vq;have KQ:l.length<=100:=z;have WC:P.heap.size<=MD.heap.size:=db uD.out.size A.out.size
      go_wp2_with (at_builtin;refine Rq rfl _ _ rfl (base:=P.heap.size) (d:=1) (l:=l) (y:=y) (v:=.slice fs l.length g6) rfl Ss.out rfl (Y.out.st (aZ _) uD.out.size IJ.out) KQ WC ?_;intro v5 a' m _ o;have rD:=G m;have f:=G ((b_ uD.out A.out).trans o);clear m o);have AK:=aj.out _ SM.out;have Bw:(l++[y]).length=j+1:=by rw[ie,HU,r_]
      go_roundw;case rel=>first|exact⟨j+1,z,bM,f.out,_,Bw,AK,rD.out⟩|((repeat apply Exists.intro);refine⟨?_,rfl⟩;exact⟨j+1,z,bM,f.out,_,Bw,AK,rD.out⟩)
      case measure=>simp[RowKit.intOf];omega
     ·have aO:(err !=0)=true:=by simpa using pJ
      have ps:=G (afj err yA);go_upto_region 10 with(go_at_call 97;(with_reducible refine ps.out.mono ?_);rintro e aG ⟨rfl,mi⟩;have ck:=(mi.block _ (cX c.out.x)).trans c.out.x;obtain⟨gC,c_,dL,fU,gE,gM,gT⟩:=eU ck;obtain⟨z0,cy,dv,z3,z4,z5,eP⟩:=gI ck)
      generalize ax:(((((((aG.setCell ⟨C,0,none⟩ (.int .i64 0)).setCell ⟨C,1,none⟩ (.string bL)).setCell ⟨C,2,none⟩ (.int .i64 0)).setCell ⟨C,3,none⟩ (.int .i64 0)).setCell ⟨C,4,none⟩ (.int .i64 err)).setCell ⟨C,5,none⟩ (.slice none 0 0)).setCell ⟨C,6,none⟩ (.slice none 0 0))=MD;have ay:yh aG C (.int .i64 0) (.string bL) (.int .i64 0) (.int .i64 0) (.int .i64 err) (.slice none 0 0) (.slice none 0 0)=MD:=ax;have U:=G (h3 ck (.int .i64 0) (.string bL) (.int .i64 0) (.int .i64 0) (.int .i64 err) (.slice none 0 0) (.slice none 0 0));have A:=G (ib (b_ c.out.b mi) c.out.kI (.int .i64 0) (.string bL) (.int .i64 0) (.int .i64 0) (.int .i64 err) (.slice none 0 0) (.slice none 0 0));rw[ay]at U A;have IJ:=G (aY.iE (gR wr.heap.size) 1 MD 0 bL 0 0 err none 0 none 0);have SM:=G (eR.gZ (n:=au.length) err T Q);clear ax ay ck mi ps c gC c_ dL fU gE gM gT z0 cy dv z3 z4 z5 eP;obtain⟨gL,cz,gs,gt,lL,n5,sp⟩:=eU U.out;have Ss:=G (Y.out.U A.out);obtain⟨fs,g6,vq⟩:=Y.out.hz;subst vq;have KQ:l.length<=100:=z;have WC:P.heap.size<=MD.heap.size:=db uD.out.size A.out.size
      go_wp2_with (at_builtin;refine Rq rfl _ _ rfl (base:=P.heap.size) (d:=1) (l:=l) (y:=gZ err) (v:=.slice fs l.length g6) rfl Ss.out rfl (Y.out.st (aZ _) uD.out.size IJ.out) KQ WC ?_;intro v5 a' m _ o;have rD:=G m;have f:=G ((b_ uD.out A.out).trans o);clear m o);have AK:=aj.out _ SM.out;have Bw:(l++[gZ err]).length=j+1:=by rw[ie,HU,r_]
      go_roundw;case rel=>first|exact⟨j+1,z,bM,f.out,_,Bw,AK,rD.out⟩|((repeat apply Exists.intro);refine⟨?_,rfl⟩;exact⟨j+1,z,bM,f.out,_,Bw,AK,rD.out⟩)
      case measure=>simp[RowKit.intOf];omega
   ·have GB:j=cs.length:=z;have qo:l.length=cs.length:=z;obtain⟨fs,g6,vq,av⟩:=cV.YD z;subst vq;have ij:w5 l (cs.map List.length) (fR+1):=⟨by rw[HT,qo],fun i H I=>by
     have af:i<cs.length:=z
     rw[List.getElem_map]
     exact⟨F_ (Fh.out.Oz i (by rw[←Fh.out.len];exact af) af),D0.out i H af⟩,by rw[←List.length_flatten,qN.out],z⟩
    have g:=ak.out.U D.out.b;have oW:=G (ai.out (fR+1) wr bp ca cc g.base g.ns.c eZ rwc R g.e2 g.len g.Bd fs g6 l _ ij (cU.low (fun _ _=>h5) (fun _ _ _ h=>aY.low (fun _ _=>h5) h) av));obtain⟨-,b',dt⟩:=wj D.out.r;have K:wr.cell? ⟨w.heap.size,2,none⟩=some (.slice ca S.bs.length cc):=aS 2 D.out.g;have lg:w.heap.size+1<wr.heap.size:=cX D.out.o;clear g ij av D0 cV iO Nt ai L qo r_
    go_wp2_with (go_at_call 284;(with_reducible refine oW.out.mono ?_);rintro e yz ⟨⟨hY,bB,lz,lA,j7,lW,lB,lX,lY,lD,lZ,err,rfl,T,Q,lf⟩,nu⟩;have dc:=G (D.out.U nu);have gX:=dc.out.o;obtain⟨gC,c_,dL,fU,gE,gM,gT⟩:=eU gX;obtain⟨z0,cy,dv,z3,z4,z5,eP⟩:=gI gX);refine fL (jp (fn:=f180) rfl _ _ (w.heap.size+1) 44 _ (0,0) _ _ rfl rfl (h3 gX _ _ _ _ _ _ _) underlying44 rfl iJ) rfl ?_;exact⟨eS.put (base:=wr.heap.size) ⟨_,_,_,_,_,_,_,_,_,_,_,_,rfl,T,Q,lf⟩ lg D.out.b.size,ib dc.out.b z _ _ _ _ _ _ _⟩
end Go.b3
namespace Go.b3
open Go Go.Proofs.Tryz Go.Proofs Go.RowKit Go.c0 Go.bj
structure CG (w:World) (aG:Array Value) (wr:World):Prop where
 b:Below w.heap.size w wr
 g:kd wr w.heap.size 29 aG
 o:wr.heap[w.heap.size+1]? =some (.cells fi 44 (0,0))
theorem CG.U{w wr w':World}{a:Array Value}(h:CG w a wr)(A:Below wr.heap.size wr w'):CG w a w':=
 ⟨b_ h.b A,h.g.U A,(A.block _ (cX h.o)).trans h.o⟩
theorem CG.g7(w:World)(a:Array Value):CG w a ((w.alloc (.cells a 29)).alloc (.cells fi 44)):=by
 have b:=hw.eI w a;have d:(w.alloc (.cells a 29)).heap.size=w.heap.size+1:=am;have c:=da (w.alloc (.cells a 29)) (.cells fi 44);rw[d]at c;exact⟨b.b.alloc b.b.size _,(b.U ((bi (w.alloc (.cells a 29)).heap.size _).alloc (aZ _) _)).g,c⟩
theorem ati{S:cO}{M:Nat->Nat}{rs:List bA}{ca g:Option Addr}{cc f rb aC rc:Nat}{u:Value}{D:Option Addr}{rwc:Nat}{R:List bH} (p:List Int)(s:Nat)(aF:Option Addr)(c:Nat)(w:World)(h:Fb S M rs ca g cc f rb aC rc u D rwc R w)(ag:k5 w aF p)(i:AX rs s p)(O:p.length<=c)(X:p.length<=5): Calls prog 96 #[.agg (eh S rs ca g cc f rb aC rc),u,.slice aF p.length c,.slice D R.length rwc] w fun e w'=>eS w.heap.size p.length e w'/\Below w.heap.size w w':=by
 have L:=G fun W (a:Below w.heap.size w W)=>amO (h.ns.U a) aF c s p (ag.U a) z i;have K:=G fun W (a:Below w.heap.size w W)=>arJ W aF c p (ag.U a) z (fun x H=>(i.ok x H).1);have N:=G fun W (a:Below w.heap.size w W)=>atj p.length p s aF c W (aZ _) (h.U a) (ag.U a) i O X;have b:=G (CG.g7 w (eh S rs ca g cc f rb aC rc));clear h ag i;go_enter func96,ntmps96;go_upto_region 1 with fail
 generalize (w.alloc (.cells (eh S rs ca g cc f rb aC rc) 29)).alloc (.cells fi 44)=J at b⊢;obtain⟨y,n,r,o,A,B⟩:=fZ b.out.g;have E:=G (L.out J b.out.b);go_upto_region 2 with(go_at_call 178;(with_reducible refine E.out.mono ?_);rintro e I ⟨rfl,t⟩)
 have k:=G (b.out.U t);clear b E t y n r o A B;have m:=G (K.out I k.out.b);go_upto_region 6 with(go_at_call 179;(with_reducible refine m.out.mono ?_);rintro e j ⟨rfl,q⟩)
 have d:=G (k.out.U q);clear k m q;obtain⟨y,n,r,o,A,B⟩:=fZ d.out.g;have F:=G (N.out j d.out.b);have T:w.heap.size+1<j.heap.size:=cX d.out.o
 go_wp2_with (go_at_call 180;(with_reducible refine F.out.mono ?_);rintro e yz ⟨⟨hY,Y,lz,lA,j7,lW,lB,lX,lY,lD,lZ,err,rfl,V,P,Q⟩,U⟩;have C:=G (d.out.U U);have l:=C.out.o;obtain⟨gC,Z,dL,fU,gE,gM,gT⟩:=eU l;obtain⟨z0,cy,dv,z3,z4,z5,eP⟩:=gI l);refine fL (jp (fn:=f96) rfl _ _ (w.heap.size+1) 44 _ (0,0) _ _ rfl rfl (h3 l _ _ _ _ _ _ _) underlying44 rfl iJ) rfl ?_;exact⟨eS.put (base:=j.heap.size) ⟨_,_,_,_,_,_,_,_,_,_,_,_,rfl,V,P,Q⟩ T d.out.b.size,ib C.out.b z _ _ _ _ _ _ _⟩
end Go.b3
namespace Go.b3
open Go Go.Proofs.Tryz Go.Proofs Go.RowKit Go.c0 Go.bj
open Go.bj.N (lq)
theorem axA{S:cO}{M:Nat->Nat}{rs:List bA}{ca f:Option Addr}{cc a rb aC rc:Nat}{w:World}(h:oX S M rs ca f cc a rb aC rc w): Calls prog 48 #[.agg (eh S rs ca f cc a rb aC rc)] w fun e w'=>e=.returned (.int .i64 ((S.aB[S.aj]'h.ok.aj).2:Int))/\Below w.heap.size w w':=by
 obtain⟨b,o,rfl,A,c⟩:=h.y;have g:=h.ok.aj;have c1:=((fH w (.cells (eh S rs ca (some ⟨b,o,none⟩) cc a rb aC rc) 29)).cell A).trans (c S.aj g).2.1;generalize (S.aB[S.aj]'g).2=eF at*;have d:=da w (.cells (eh S rs ca (some ⟨b,o,none⟩) cc a rb aC rc) 29);obtain⟨-,-,-,i,-,j⟩:=fZ d;have k:¬(S.aj:Int)<0:=z;have m:¬(S.aB.length:Int)<=(S.aj:Int):=z;have l:(S.aj:Int)<S.aB.length:=z;have n:(S.aB.length:Int)<=12:=by have:=h.ok.aB;omega
 clear h c A d;go_enter func48,ntmps48
 go_wp2;go_ret;exact LF
def ap4(e:Ending):Prop:=∃k s N S n ca cl cc ra rl rc,e=.returned (.agg (bY k s N S n ca cl cc ra rl rc))/\(k=1∨k=2∨k=3->cl=0/\rl=0/\p8 (.mk k s N S n [] []))
theorem eR.fR{n:Nat}{d:Nat}{B:Nat->Prop}{w:World}{k N S n':Int}{s:ByteArray}{ca ra:Option Addr}{cl cc rl rc:Nat}{v:bH}(J:eR n v)(g:n<=5)(h:aY B d w (bY k s N S n' ca cl cc ra rl rc) v)(c:k=1∨k=2∨k=3):cl=0/\rl=0/\p8 (.mk k s N S n' [] []):=by
 cases J with
 |gZ e ab H=>obtain⟨_,_,_,_,e,_⟩:=h.hz;cases e;omega
 |g8 s a=>obtain⟨_,_,_,_,e,_⟩:=h.hz;cases e;exact⟨rfl,rfl,.g8 _ a⟩
 |gi N S a _ I=>obtain⟨_,_,_,_,e,_⟩:=h.hz;cases e;exact⟨rfl,rfl,.gi _ _ a z⟩
 |ju d ab H=>obtain⟨_,_,_,_,e,_⟩:=h.hz;cases e;exact⟨rfl,rfl,.ju _ ab H⟩
 |lU b a=>obtain⟨_,_,_,_,e,_⟩:=h.hz;cases e;omega
 |iw a_ f a=>obtain⟨_,_,_,_,e,_⟩:=h.hz;cases e;omega
theorem aBh{S:cO}{M:Nat->Nat}{rs:List bA}{ca g:Option Addr}{cc c rb aC rc:Nat}{E:Value}{K:Option Addr}{rwc:Nat}{R:List bH} (p:List Int)(s:Nat)(aF:Option Addr)(y:Nat)(w:World)(h:Fb S M rs ca g cc c rb aC rc E K rwc R w)(ag:k5 w aF p)(H:AX rs s p)(jc:p.length<=y)(O:p.length<=5): Calls prog 47 #[.agg (eh S rs ca g cc c rb aC rc),E,.slice aF p.length y,.slice K R.length rwc] w fun e w'=>ap4 e/\Below w.heap.size w w':=by
 have bk:=G fun W (C:Below w.heap.size w W)=>ati p s aF y W (h.U C) (ag.U C) H jc O;have X:=G fun n W=>afj n W;have b:=G (CG.g7 w (eh S rs ca g cc c rb aC rc));clear h ag H;go_enter func47,ntmps47;go_upto_region 1 with fail
 generalize (w.alloc (.cells (eh S rs ca g cc c rb aC rc) 29)).alloc (.cells fi 44)=V at b⊢;obtain⟨cp,U,Z,Y,dF,dZ⟩:=fZ b.out.g;have P:=G (bk.out V b.out.b);go_upto_region 2 with(go_at_call 96;(with_reducible refine P.out.mono ?_);rintro e d ⟨⟨i,f,x,k,j,o,l,r,t,m,u,err,rfl,ny,kM,N⟩,D⟩)
 have J:=b.out.U D;have L:=da d (.cells (bY i f x k j o l r t m u) 44 (0,0));have A:=G (J.U ((bi _ _).alloc (aZ _) (.cells (bY i f x k j o l r t m u) 44 (0,0))));have mE:d.heap.size<(d.alloc (.cells (bY i f x k j o l r t m u) 44 (0,0))).heap.size:=am;clear b P D cp U Z Y dF dZ J;generalize (d.alloc (.cells (bY i f x k j o l r t m u) 44 (0,0)))=F at*;by_cases ab:err=0
 ·subst ab;obtain⟨v,Q,x7⟩:=N rfl;have a:=A.out.o;obtain⟨gC,c_,dL,fU,gE,gM,gT⟩:=eU a;obtain⟨z0,cy,dv,z3,z4,z5,eP⟩:=gI a;obtain⟨v0,eJ,eO,v3,v4,v5,h4⟩:=eU L;have lg:w.heap.size+1<F.heap.size:=cX a
  go_wp2;refine fL (EA (fn:=f47) rfl _ _ (w.heap.size+1) 44 _ (0,0) _ rfl (h3 a _ _ _ _ _ _ _) underlying44 rfl iJ) rfl ?_;exact⟨⟨_,_,_,_,_,_,_,_,_,_,_,rfl,fun B=>x7.fR O Q B⟩,ib A.out.b z _ _ _ _ _ _ _⟩
 ·have q:(err==0)=false:=by rw[l8];exact ab
  have T:=G (X.out err F);clear N L
  go_wp2_with (go_at_call 97;(with_reducible refine T.out.mono ?_);rintro e bh ⟨rfl,bt⟩;have I:=G (A.out.U bt);have a:=I.out.o;obtain⟨gC,c_,dL,fU,gE,gM,gT⟩:=eU a;obtain⟨z0,cy,dv,z3,z4,z5,eP⟩:=gI a;have lg:w.heap.size+1<bh.heap.size:=cX a);refine fL (EA (fn:=f47) rfl _ _ (w.heap.size+1) 44 _ (0,0) _ rfl (h3 a _ _ _ _ _ _ _) underlying44 rfl iJ) rfl ?_;exact⟨⟨_,_,_,_,_,_,_,_,_,_,_,rfl,fun B=>z⟩,ib I.out.b z _ _ _ _ _ _ _⟩
end Go.b3
namespace Go.b3
open Go Go.Proofs.Tryz Go.Proofs Go.RowKit Go.c0 Go.bj
open Go.bj.N (lq)
open Go.aI (ef fP pU Uc g1)
theorem aB6(m:Nat)(c:m<5)(W:World):∃t:ByteArray,(W.alloc (.cells #[.string ⟨#[92,46,42]⟩,.string ⟨#[92,97,42,92,46,42]⟩,.string ⟨#[92,100,43]⟩,.string ⟨#[92,117,42]⟩,.string ⟨#[92,46,123,49,44,57,125]⟩] 9)).cell? ⟨W.heap.size,m,none⟩=some (.string t):=by
 have h:=da W (.cells #[.string ⟨#[92,46,42]⟩,.string ⟨#[92,97,42,92,46,42]⟩,.string ⟨#[92,100,43]⟩,.string ⟨#[92,117,42]⟩,.string ⟨#[92,46,123,49,44,57,125]⟩] 9);rcases(z:m=0∨m=1∨m=2∨m=3∨m=4)with rfl|rfl|rfl|rfl|rfl
 all_goals exact⟨_,by simp only[World.cell?,h];rfl⟩
theorem axZ(m:Nat)(c:m<2)(W:World):∃t:ByteArray,(W.alloc (.cells #[.string ⟨#[97,116,108,101,97,115,116]⟩,.string ⟨#[97,116,109,111,115,116]⟩] 9)).cell? ⟨W.heap.size,m,none⟩=some (.string t):=by
 have h:=da W (.cells #[.string ⟨#[97,116,108,101,97,115,116]⟩,.string ⟨#[97,116,109,111,115,116]⟩] 9);rcases(z:m=0∨m=1)with rfl|rfl
 all_goals exact⟨_,by simp only[World.cell?,h];rfl⟩
structure nk (w:World) (b:Nat) (a:Option Addr) (len:Nat) (aG c7 aT:Array Value) (wr:World):Prop where
 fh:mV w wr b a len
 g:wr.heap[w.heap.size]? =some (.cells aG 29 (0,0))
 i:wr.heap[w.heap.size+1]? =some (.cells c7 47 (0,0))
 v:wr.heap[w.heap.size+2]? =some (.cells aT 44 (0,0))
 o:wr.heap[w.heap.size+3]? =some (.cells x_ 47 (0,0))
section
variable {w wr w':World} {b:Nat} {a:Option Addr} {len:Nat} {aG c7 aT:Array Value}
theorem nk.g7(h:ef w b a len)(aG c7 aT:Array Value):nk w b a len aG c7 aT ((((w.alloc (.cells aG 29)).alloc (.cells c7 47)).alloc (.cells aT 44)).alloc (.cells x_ 47)):=by
 have N:=(((mV.mk h h (fP.refl b w)).alloc (.cells aG 29)).alloc (.cells c7 47)).alloc (.cells aT 44);have ab:=da w (.cells aG 29);have H:=da (w.alloc (.cells aG 29)) (.cells c7 47);have I:=da ((w.alloc (.cells aG 29)).alloc (.cells c7 47)) (.cells aT 44);have d:=da (((w.alloc (.cells aG 29)).alloc (.cells c7 47)).alloc (.cells aT 44)) (.cells x_ 47);have h7:∀(w:World) (o c:Obj) (k:Nat),w.heap[k]? =some c->(w.alloc o).heap[k]? =some c:=fun w o c k h=>((fH w o).block k (b1 h)).trans h;have e:∀(w:World) (o:Obj),(w.alloc o).heap.size=w.heap.size+1:=fun w o=>am;simp only[e]at H I d;exact⟨N.alloc _,h7 _ _ _ _ (h7 _ _ _ _ (h7 _ _ _ _ ab)),h7 _ _ _ _ (h7 _ _ _ _ H),h7 _ _ _ _ I,d⟩
theorem nk.next(h:nk w b a len aG c7 aT wr)(d:ef w' b a len)(c:fP b wr w'):nk w b a len aG c7 aT w':=by
 have A:=h.fh.o.lt;have k:∀{j:Nat} {o:Obj},wr.heap[j]? =some o->w.heap.size<=j->w'.heap[j]? =some o:=fun e f=>(c.block _ (b1 e) z).trans e;exact⟨h.fh.next d c,k h.g z,k h.i z,k h.v z,k h.o z⟩
theorem nk.U(h:nk w b a len aG c7 aT wr)(A:Below wr.heap.size wr w'):nk w b a len aG c7 aT w':=by
 have k:∀{j:Nat} {o:Obj},wr.heap[j]? =some o->w'.heap[j]? =some o:=fun e=>(A.block _ (b1 e)).trans e;exact⟨h.fh.U A,k h.g,k h.i,k h.v,k h.o⟩
theorem nk.alloc(h:nk w b a len aG c7 aT wr)(o:Obj):nk w b a len aG c7 aT (wr.alloc o):=h.U ((bi _ _).alloc (aZ _) o)
theorem nk.set(h:nk w b a len aG c7 aT wr)(i:Nat)(u:Value):nk w b a len aG (c7.setIfInBounds i u) aT (wr.setCell ⟨w.heap.size+1,i,none⟩ u):=by
 have k:∀{j:Nat} {o:Obj},wr.heap[j]? =some o->j≠w.heap.size+1->(wr.setCell ⟨w.heap.size+1,i,none⟩ u).heap[j]? =some o:=fun e c=>(hm _ _ _ _ c).trans e;exact⟨h.fh.Es ((bi _ wr).setCell (p:=⟨w.heap.size+1,i,none⟩) (oT _) u),k h.g z,hS h.i u,k h.v z,k h.o z⟩
theorem nk.done(h:nk w b a len aG c7 aT wr)(l:List Value)(c:l.length=16):(wr.setCells (w.heap.size+3) 0 l).heap[w.heap.size+3]? =some (.cells l.toArray 47 (0,0))/\mV w (wr.setCells (w.heap.size+3) 0 l) b a len:=
 ⟨QI h.o l c,h.fh.Es (Hm z l 0 wr (bi _ wr))⟩
end
def apT(f:ByteArray->ByteArray->Array Value)(e:Ending):Prop:=∃iI h2,e=.returned (.agg (f iI h2))
theorem akP{S:cO}{M:Nat->Nat}{rs:List bA}{ca X:Option Addr}{cc U rb aC rc:Nat}{w:World}(h:oX S M rs ca X cc U rb aC rc w)(b:Nat)(a:Option Addr)(len:Nat)(an:len<=maxLen)(aw:ef w b a len)(l1:∀x,ca=some x->x.block≠b) (id dM lM i5 eF:Int)(y:Option Addr)(L B:Nat)(r:Int)(bX:ByteArray)(K O u:Int)(C:Option Addr)(E:Nat)(F:Option Addr)(A:Nat)(iI h2:ByteArray)(g:Option Addr)(P o:Nat) (k:Int)(s:ByteArray)(N D n:Int)(va:Option Addr)(vD Y:Nat)(Z:Option Addr)(tm wc:Nat)(ah:k=1∨k=2∨k=3): Calls prog 51 #[.pointer (some ⟨b,0,none⟩),.agg (eh S rs ca X cc U rb aC rc),.agg (kz id dM lM i5 eF y L B r bX K O u C E F A iI h2 g P o),.agg (bY k s N D n va vD Y Z tm wc)] w fun e w'=> apT (fun iI h2=>(kz id dM lM i5 eF y L B r bX K O u C E F A iI h2 g P o)) e/\mV w w' b a len:=by
 have bk:=G fun(n:Int) (H:0<n) (I:n<=2000000000000001) w af=>pU w b a len n H I an af;have bK:=G fun w af=>Uc w b a len an af;have h6:=G fun(N:Int) (S:Nat) (W:World) (h:g1 N S) (bx:S<=3)=>aad (.gi N S h bx) W _ (aY.iE be 1 W 2 bL N S 0 none 0 none 0);have f:=G (nk.g7 aw (eh S rs ca X cc U rb aC rc) (kz id dM lM i5 eF y L B r bX K O u C E F A iI h2 g P o) (bY k s N D n va vD Y Z tm wc));obtain⟨l,Q,arr,bg,rfl,Bn,ab⟩:=h.c;have hn:Hid (∀wr,mV w wr b a len->∀i (hi:i<S.bs.length),wr.cell? ⟨l,Q+i*2,none⟩=some (.string S.bs[i].1)/\wr.cell? ⟨l,Q+i*2+1,none⟩=some (.int .i64 (S.bs[i].2:Nat))):=G fun wr aw i hi=>by have e:=(aw.s.block l (b1 Bn) (l1 _ rfl)).trans Bn;obtain⟨b6,cf⟩:=ab i hi;exact⟨by simp[World.cell?,e,b6],by simp[World.cell?,e,cf]⟩
 have ak:Hid ((S.bs.length:Int)<=8):=G (by have:=h.ok.bs;omega);clear h aw ab Bn l1;go_enter func51,ntmps51;go_upto_region 1 with fail
 generalize ((((w.alloc (.cells (eh S rs (some ⟨l,Q,none⟩) X cc U rb aC rc) 29)).alloc (.cells (kz id dM lM i5 eF y L B r bX K O u C E F A iI h2 g P o) 47)).alloc (.cells (bY k s N D n va vD Y Z tm wc) 44)).alloc (.cells x_ 47))=ap at f⊢;go_upto_if 12 with(go_at_call 16;(with_reducible refine(bk.out 4 ai ai _ f.out.fh.n).mono ?_);rintro e V ⟨⟨b',j_,Ws,rfl⟩,cz,cg⟩;have d:=G (f.out.next cz cg))
 clear cz cg f;generalize (b'==0)=q;cases q;rotate_left
 ·have c:=d.out;obtain⟨ex,g4,gx,i3,mI,ul,si,sj,zP,zQ,zN,zO,BE,s9,wK,x9⟩:=Df c.i;have gC:=aS 0 c.o;have z0:=Go.aI.cB (i:=0) c.o;have c_:=aS 1 c.o;have cy:=Go.aI.cB (i:=1) c.o;have dL:=aS 2 c.o;have dv:=Go.aI.cB (i:=2) c.o;have fU:=aS 3 c.o;have z3:=Go.aI.cB (i:=3) c.o;have gE:=aS 4 c.o;have z4:=Go.aI.cB (i:=4) c.o;have gM:=aS 5 c.o;have z5:=Go.aI.cB (i:=5) c.o;have gT:=aS 6 c.o;have eP:=Go.aI.cB (i:=6) c.o;have Qp:=aS 7 c.o;have Ci:=Go.aI.cB (i:=7) c.o;have Qq:=aS 8 c.o;have ru:=Go.aI.cB (i:=8) c.o;have Qr:=aS 9 c.o;have z9:=Go.aI.cB (i:=9) c.o;have Qj:=aS 10 c.o;have Rs:=Go.aI.cB (i:=10) c.o;have Qk:=aS 11 c.o;have Rt:=Go.aI.cB (i:=11) c.o;have Ql:=aS 12 c.o;have Ru:=Go.aI.cB (i:=12) c.o;have Qm:=aS 13 c.o;have Rv:=Go.aI.cB (i:=13) c.o;have Qn:=aS 14 c.o;have Rw:=Go.aI.cB (i:=14) c.o;have Qo:=aS 15 c.o;have Rx:=Go.aI.cB (i:=15) c.o;have lg:w.heap.size+3<V.heap.size:=b1 c.o;have re:w.heap.size+1<V.heap.size:=b1 c.i;have cP:=G (c.done [.int .i64 id,.int .i64 dM,.int .i64 lM,.int .i64 i5,.int .i64 eF,.slice y L B,.int .i64 r,.string bX,.int .i64 K,.int .i64 O,.int .i64 u,.slice C 0 E,.slice F 0 A,.string iI,.string h2,.slice g P o] rfl)
  go_wp2;refine fL (EA (fn:=f51) rfl _ _ (w.heap.size+3) 47 _ (0,0) _ rfl cP.out.1 underlying47 rfl Mj) rfl ?_;exact⟨⟨iI,h2,rfl⟩,cP.out.2⟩
 ·have v0:V.cell? ⟨w.heap.size+2,0,none⟩=some (.int .i64 k):=aS 0 d.out.v;have ld:Hid (b<w.heap.size):=G d.out.fh.o.lt;go_upto_block 0 with fail
  go_cut []from 64 (fun c9=>∃iI h2,nk w b a len (eh S rs (some ⟨l,Q,none⟩) X cc U rb aC rc) (kz id dM lM i5 eF y L B r bX K O u C E F A iI h2 g P o) (bY k s N D n va vD Y Z tm wc) c9)
  ·rcases ah with rfl|rfl|rfl
   ·have s9:V.cell? ⟨w.heap.size+1,13,none⟩=some (.string iI):=aS 13 d.out.i;have f13:=Go.aI.cB (i:=13) d.out.i;have cL:=b1 d.out.i;have T:Hid (nk w b a len (eh S rs (some ⟨l,Q,none⟩) X cc U rb aC rc) (kz id dM lM i5 eF y L B r bX K O u C E F A ⟨#[115,104,97,112,101]⟩ h2 g P o) (bY 1 s N D n va vD Y Z tm wc) (V.setCell ⟨w.heap.size+1,13,none⟩ (.string ⟨#[115,104,97,112,101]⟩))):=G (d.out.set 13 _);go_upto_region 6 with fail
    clear d s9 f13 cL v0;generalize (V.setCell ⟨w.heap.size+1,13,none⟩ (.string ⟨#[115,104,97,112,101]⟩))=bz at*
    go_wp2_with (go_at_call 16;(with_reducible refine(bk.out 5 ai ai _ (T.out.alloc _).fh.n).mono ?_);rintro e bh ⟨⟨jX,vo,Pw,rfl⟩,lL,qB⟩;have R:=G ((T.out.alloc _).next lL qB);obtain⟨m,rfl⟩:∃k:Nat,jX=(k:Int):=⟨jX.toNat,z⟩;obtain⟨t4,nZ⟩:=aB6 m z bz;have c4:bh.cell? ⟨bz.heap.size,m,none⟩=some (.string t4):=(by rw[mO (qB.block bz.heap.size am (by have:=T.out.fh.s.size;have:=ld.out;omega))];exact nZ);have wK:bh.cell? ⟨w.heap.size+1,14,none⟩=some (.string h2):=aS 14 R.out.i;have f14:=Go.aI.cB (i:=14) R.out.i;have G2:=b1 R.out.i;clear lL qB nZ);go_meet;exact⟨_,_,R.out.set 14 _⟩
   ·go_upto_region 9 with(go_at_call 16;(with_reducible refine(bk.out 2 ai ai _ (d.out.alloc _).fh.n).mono ?_);rintro e bh ⟨⟨jX,vo,Pw,rfl⟩,lL,qB⟩;have R:=G ((d.out.alloc _).next lL qB);obtain⟨m,rfl⟩:∃k:Nat,jX=(k:Int):=⟨jX.toNat,z⟩;obtain⟨t4,nZ⟩:=axZ m z V;have c4:bh.cell? ⟨V.heap.size,m,none⟩=some (.string t4):=(by rw[mO (qB.block V.heap.size am (by have:=d.out.fh.s.size;have:=ld.out;omega))];exact nZ);have s9:bh.cell? ⟨w.heap.size+1,13,none⟩=some (.string iI):=aS 13 R.out.i;have f13:=Go.aI.cB (i:=13) R.out.i;have G2:=b1 R.out.i;clear lL qB nZ)
    have k_:Hid (nk w b a len (eh S rs (some ⟨l,Q,none⟩) X cc U rb aC rc) (kz id dM lM i5 eF y L B r bX K O u C E F A t4 h2 g P o) (bY 2 s N D n va vD Y Z tm wc) (bh.setCell ⟨w.heap.size+1,13,none⟩ (.string t4))):=G (R.out.set 13 _);clear d R s9 f13 G2 v0 c4;generalize (bh.setCell ⟨w.heap.size+1,13,none⟩ (.string t4))=a' at*
    go_wp2_with (first
     |(go_at_call 99;(with_reducible refine(bK.out _ k_.out.fh.n).mono ?_);rintro e bq ⟨⟨NK,aj,rfl,al,ve⟩,sp,ad⟩;have rU:=G (k_.out.next sp ad);clear sp ad)
     |(go_at_call 50;(with_reducible refine(h6.out NK aj _ al ve).mono ?_);rintro e w7 ⟨⟨ZP,rfl,av⟩,ip⟩;have qX:=G (rU.out.U ip);have wK:w7.cell? ⟨w.heap.size+1,14,none⟩=some (.string h2):=aS 14 qX.out.i;have f14:=Go.aI.cB (i:=14) qX.out.i;have au:=b1 qX.out.i;have PQ:(1:Int)<=(ZP.size:Int):=z))
    go_meet;exact⟨_,_,qX.out.set 14 _⟩
   ·have eN:=ak.out;go_upto_region 11 with fail
    clear v0
    go_wp2;go_loopw [9] (fun i wr=>∃(j:Nat) (iI h2:ByteArray),j<=S.bs.length/\i=.int .i64 j/\nk w b a len (eh S rs (some ⟨l,Q,none⟩) X cc U rb aC rc) (kz id dM lM i5 eF y L B r bX K O u C E F A iI h2 g P o) (bY 3 s N D n va vD Y Z tm wc) wr) (fun i _=>S.bs.length-(RowKit.intOf i).toNat);case atStart=>exact⟨0,iI,h2,dq _,rfl,d.out⟩
    case round=>
     clear d;obtain⟨j,iI,h2,aa,rfl,b9⟩:=hrel;have bb:wr.cell? ⟨w.heap.size,2,none⟩=some (.slice (some ⟨l,Q,none⟩) S.bs.length cc):=aS 2 b9.g;by_cases aq:j<S.bs.length
     ·have li:(j:Int)<S.bs.length:=z;have ax:(0:Int)<=(j:Int):=z;have c1:=(hn.out wr b9.fh j aq).2;have f:=G b9;have p_:=G aq;generalize xW:((S.bs[j].2:Nat):Int)=ar at*;clear xW b9 aq;go_upto_if 54 with fail
      generalize (ar==3)=q;cases q
      ·go_wp2;exact⟨⟨j+1,iI,h2,by have:=p_.out;omega,bM,f.out⟩,by simp[RowKit.intOf];have:=p_.out;omega⟩
      ·have s9:wr.cell? ⟨w.heap.size+1,13,none⟩=some (.string iI):=aS 13 f.out.i;have f13:=Go.aI.cB (i:=13) f.out.i;have cL:=b1 f.out.i;have T:Hid (nk w b a len (eh S rs (some ⟨l,Q,none⟩) X cc U rb aC rc) (kz id dM lM i5 eF y L B r bX K O u C E F A ⟨#[110,111,116,98,101,102,111,114,101]⟩ h2 g P o) (bY 3 s N D n va vD Y Z tm wc) (wr.setCell ⟨w.heap.size+1,13,none⟩ (.string ⟨#[110,111,116,98,101,102,111,114,101]⟩))):=G (f.out.set 13 _);go_upto_region 16 with fail
       clear f s9 f13 cL bb c1;generalize (wr.setCell ⟨w.heap.size+1,13,none⟩ (.string ⟨#[110,111,116,98,101,102,111,114,101]⟩))=bz at*;have bb:bz.cell? ⟨w.heap.size,2,none⟩=some (.slice (some ⟨l,Q,none⟩) S.bs.length cc):=aS 2 T.out.g;have br:=(hn.out bz T.out.fh j p_.out).1;have wK:bz.cell? ⟨w.heap.size+1,14,none⟩=some (.string h2):=aS 14 T.out.i;have f14:=Go.aI.cB (i:=14) T.out.i;have hp:=b1 T.out.i;generalize S.bs[j].1=bo at*
       go_wp2;exact⟨⟨j+1,_,bo,by have:=p_.out;omega,bM,T.out.set 14 _⟩,by simp[RowKit.intOf];have:=p_.out;omega⟩
     ·have li:¬(j:Int)<S.bs.length:=z
      go_wp2;go_meet;exact⟨_,_,b9⟩
  case rest=>
   obtain⟨ag,ae,c⟩:=hcut;obtain⟨ex,g4,gx,i3,mI,ul,si,sj,zP,zQ,zN,zO,BE,s9,wK,x9⟩:=Df c.i;have gC:=aS 0 c.o;have z0:=Go.aI.cB (i:=0) c.o;have c_:=aS 1 c.o;have cy:=Go.aI.cB (i:=1) c.o;have dL:=aS 2 c.o;have dv:=Go.aI.cB (i:=2) c.o;have fU:=aS 3 c.o;have z3:=Go.aI.cB (i:=3) c.o;have gE:=aS 4 c.o;have z4:=Go.aI.cB (i:=4) c.o;have gM:=aS 5 c.o;have z5:=Go.aI.cB (i:=5) c.o;have gT:=aS 6 c.o;have eP:=Go.aI.cB (i:=6) c.o;have Qp:=aS 7 c.o;have Ci:=Go.aI.cB (i:=7) c.o;have Qq:=aS 8 c.o;have ru:=Go.aI.cB (i:=8) c.o;have Qr:=aS 9 c.o;have z9:=Go.aI.cB (i:=9) c.o;have Qj:=aS 10 c.o;have Rs:=Go.aI.cB (i:=10) c.o;have Qk:=aS 11 c.o;have Rt:=Go.aI.cB (i:=11) c.o;have Ql:=aS 12 c.o;have Ru:=Go.aI.cB (i:=12) c.o;have Qm:=aS 13 c.o;have Rv:=Go.aI.cB (i:=13) c.o;have Qn:=aS 14 c.o;have Rw:=Go.aI.cB (i:=14) c.o;have Qo:=aS 15 c.o;have Rx:=Go.aI.cB (i:=15) c.o;have lg:w.heap.size+3<wc.heap.size:=b1 c.o;have re:w.heap.size+1<wc.heap.size:=b1 c.i;have cP:=G (c.done [.int .i64 id,.int .i64 dM,.int .i64 lM,.int .i64 i5,.int .i64 eF,.slice y L B,.int .i64 r,.string bX,.int .i64 K,.int .i64 O,.int .i64 u,.slice C 0 E,.slice F 0 A,.string ag,.string ae,.slice g P o] rfl)
   go_wp2;refine fL (EA (fn:=f51) rfl _ _ (w.heap.size+3) 47 _ (0,0) _ rfl cP.out.1 underlying47 rfl Mj) rfl ?_;exact⟨⟨ag,ae,rfl⟩,cP.out.2⟩
end Go.b3
namespace Go.b3
open Go Go.Proofs.Tryz Go.Proofs Go.RowKit Go.Lib Go.aI
theorem fw.next{w w':World}{b:Nat}{a:Option Addr}{n:Nat}{N:Int}{e:Ending}(c:tE w b a n N e w'){base:Nat}(A:b<base):fw (gR base) w w':=
 ⟨by have:=c.2.2.1;omega,fun g d _=>c.2.2.2.1 g (by have:base<=g:=d;omega)⟩
theorem fw.aBV{base r:Nat}{w:World}(b:r<base)(i:Nat)(u:Value):fw (gR base) w (w.setCell ⟨r,i,none⟩ u):=
 (fw.refl (gR base) w).set (fun(h:base<=r)=>z) i u
structure rQ (w:World) (a:Option Addr) (n:Nat) (aG:Array Value) (wr:World):Prop where
 g:wr.heap[w.heap.size]? =some (.cells aG 29 (0,0))
 m:∃c b0:Nat,wr.heap[w.heap.size+1]? =some (.cells #[.slice a n c,.int .i64 b0] 57 (0,0))
 b:Below w.heap.size w wr
theorem rQ.num{w wr:World}{a:Option Addr}{n:Nat}{aG:Array Value}(h:rQ w a n aG wr)(d:k7 w a n)(f:∀q,a=some q->0<n->q.block<w.heap.size):ef wr (w.heap.size+1) a n:=by
 obtain⟨c,m,k⟩:=h.m;refine⟨c,m,k,?_,fun q l ab e=>?_⟩
 ·rcases d with d|⟨b,o,rfl,g⟩
  ·exact .inl d
  ·exact .inr ⟨b,o,rfl,fun i hi=>by obtain⟨x,j⟩:=g i hi;exact⟨x,aA h.b (show b<w.heap.size from f _ rfl z) j⟩⟩
 ·have:=f q l ab;omega
theorem rQ.next{w wr w':World}{a:Option Addr}{n:Nat}{aG:Array Value}(h:rQ w a n aG wr){N:Int}{e:Ending}(d:tE wr (w.heap.size+1) a n N e w'):rQ w a n aG w':=by
 obtain⟨_,⟨c,i,f,_⟩,g,b,j,ah,ag⟩:=d;refine⟨by rw[b _ z];exact h.g,⟨c,i,f⟩,⟨j.trans h.b.os,ah.trans h.b.tape,ag.trans h.b.output,by rw[g];exact h.b.size,fun k l=>by rw[b _ z];exact h.b.block k l⟩⟩
theorem rQ.U{w wr w':World}{a:Option Addr}{n:Nat}{aG:Array Value}(h:rQ w a n aG wr)(A:Below (w.heap.size+2) wr w'):rQ w a n aG w':=by
 obtain⟨c,d,b⟩:=h.m;exact⟨by rw[A.block _ z];exact h.g,⟨c,d,by rw[A.block _ z];exact b⟩,h.b.trans (A.mono z)⟩
theorem rQ.lt{w wr:World}{a:Option Addr}{n:Nat}{aG:Array Value}(h:rQ w a n aG wr):w.heap.size+2<=wr.heap.size:=by
 obtain⟨c,d,b⟩:=h.m;have:=b1 b;omega
theorem rQ.g7(w:World)(a:Option Addr)(n c:Nat)(aG:Array Value):rQ w a n aG ((w.alloc (.cells aG 29)).alloc (.cells #[.slice a n c,.int .i64 0] 57)):=by
 have b:(w.alloc (.cells aG 29)).heap.size=w.heap.size+1:=am;have I:=da (w.alloc (.cells aG 29)) (.cells #[.slice a n c,.int .i64 0] 57);rw[b]at I;have A:=(bi (w.alloc (.cells aG 29)).heap.size (w.alloc (.cells aG 29))).alloc (aZ _) (.cells #[.slice a n c,.int .i64 0] 57);exact⟨(A.block _ z).trans (da w _),⟨c,0,I⟩,((bi _ _).alloc (aZ _) _).alloc am _⟩
structure my (w:World) (a:Option Addr) (n:Nat) (aG:Array Value) (wr:World) (aT:Array Value) (c9:World):Prop where
 r:rQ w a n aG c9
 k:fw (gR (w.heap.size+2)) wr c9
 kI:w.heap.size+2<=wr.heap.size
 v:c9.heap[wr.heap.size]? =some (.cells aT 44 (0,0))
section
variable {w wr c9 w':World} {a:Option Addr} {n:Nat} {aG:Array Value} {aT:Array Value}
theorem my.next(h:my w a n aG wr aT c9){N:Int}{e:Ending}(b:tE c9 (w.heap.size+1) a n N e w'):my w a n aG wr aT w':=by
 have c:=h.kI;exact⟨h.r.next b,h.k.trans (fw.next b z),c,by rw[b.2.2.2.1 _ z];exact h.v⟩
theorem my.U(h:my w a n aG wr aT c9)(A:Below c9.heap.size c9 w'):my w a n aG wr aT w':=
 ⟨h.r.U (A.mono h.r.lt),h.k.trans (.g0 A),h.kI,by rw[A.block _ (b1 h.v)];exact h.v⟩
theorem my.alloc(h:my w a n aG wr aT c9)(o:Obj):my w a n aG wr aT (c9.alloc o):=h.U ((bi _ _).alloc (aZ _) _)
theorem my.drew(h:my w a n aG wr aT c9):my w a n aG wr aT c9.drew:=h.U ((bi _ _).drew)
theorem my.set(h:my w a n aG wr aT c9)(i:Nat)(u:Value):my w a n aG wr (aT.setIfInBounds i u) (c9.setCell ⟨wr.heap.size,i,none⟩ u):=
 ⟨h.r.U ((bi _ _).setCell h.kI _),⟨by simpa using h.k.1,fun b H I=>by rw[hm _ _ _ _ (fun(e:b=wr.heap.size)=>z)];exact h.k.2 b H I⟩,h.kI,hS h.v _⟩
theorem my.num(h:my w a n aG wr aT c9)(b:k7 w a n)(c:∀q,a=some q->0<n->q.block<w.heap.size):ef c9 (w.heap.size+1) a n:=h.r.num b c
end
def vK(wr:World)(aT:Array Value)(c9:World):Prop:=∃u,aY (gR (wr.heap.size+1)) 1 c9 aT u/\eR 1 u
theorem vK.next{w wr c9 w':World}{a:Option Addr}{n:Nat}{aT:Array Value}{N:Int}{e:Ending}(h:vK wr aT c9)(b:tE c9 (w.heap.size+1) a n N e w')(c:w.heap.size+2<=wr.heap.size):vK wr aT w':=by
 obtain⟨u,H,I⟩:=h;exact⟨u,H.gf (fw.next b z),I⟩
theorem vK.zero(wr c9:World):vK wr fi c9:=⟨gZ 0,aY.iE _ 1 c9 0 bL 0 0 0 none 0 none 0,.gZ 0 ai ai⟩
theorem vK.hz{wr c9:World}{aT:Array Value}(h:vK wr aT c9):∃k s N S n ca cl cc ra rl rc,aT=bY k s N S n ca cl cc ra rl rc:=by
 obtain⟨⟨k,s,N,S,n,cs,a_⟩,H,_⟩:=h;obtain⟨_,_,_,_,e,_⟩:=H.hz;exact⟨_,_,_,_,_,_,_,_,_,_,_,e⟩
theorem j3.next{w w':World}{b:Nat}{a:Option Addr}{n:Nat}{N:Int}{e:Ending}{base d:Nat}{v:Value}{l:List (List bH)}(h:j3 base d w v l)(c:tE w b a n N e w')(A:b<base):j3 base d w' v l:=h.gf (fw.next c A)
theorem j3.set{r i base d:Nat}{w:World}{v u:Value}{l:List (List bH)}(h:j3 base d w v l)(b:r<base):j3 base d (w.setCell ⟨r,i,none⟩ u) v l:=h.gf (fw.aBV b i u)
def apU(base:Nat)(s:ByteArray)(N:Int)(e:Ending)(w':World):Prop:=∃p c,e=.returned (.slice p 2 c)/\cU (gR base) (aY (gR base) 0) w' p [g8 s,gi N 0]
theorem aie(s:ByteArray)(N:Int)(w:World):Calls prog 95 #[.string s,.int .i64 N] w fun e w'=>apU w.heap.size s N e w'/\Below w.heap.size w w':=by
 go_enter func95,ntmps95
 go_wp2;go_ret;have A:=fH w (.cells ((bY 1 s 0 0 0 none 0 0 none 0 0)++(bY 2 bL N 0 0 none 0 0 none 0 0)) 44);have c:=da w (.cells ((bY 1 s 0 0 0 none 0 0 none 0 0)++(bY 2 bL N 0 0 none 0 0 none 0 0)) 44);refine⟨⟨_,_,rfl,am,fun _=>⟨w.heap.size,0,rfl,aZ _,b1 c,fun j d=>?_⟩⟩,A⟩;have:j=0∨j=1:=by simp at d;omega
 rcases this with rfl|rfl
 ·exact⟨_,_,_,_,_,_,_,_,_,_,_,aY.iE _ 0 _ 1 s 0 0 0 none 0 none 0,aS 0 c,aS 1 c,aS 2 c,aS 3 c,aS 4 c,aS 5 c,aS 6 c⟩
 ·exact⟨_,_,_,_,_,_,_,_,_,_,_,aY.iE _ 0 _ 2 bL N 0 0 none 0 none 0,aS 7 c,aS 8 c,aS 9 c,aS 10 c,aS 11 c,aS 12 c,aS 13 c⟩
end Go.b3
namespace Go.b3
open Go Go.Proofs Go.RowKit Go.Lib Go.aI
theorem an'{w:World}{base:Nat}{e t:TypeId}{size:Nat}{v:Value}{n:Nat}{aK:List Value}(h:w.ownsRow base e size v n aK){b:Nat}{cs:Array Value}{fr:Nat×Nat}(A:w.heap[b]? =some (.cells cs t fr))(ah:t≠e):some b≠v.ownBlock:=fun ak=>by
 rcases h.2 with⟨c,_⟩|⟨g,cap,f,I,d,c,_⟩
 ·subst c;simp[Value.ownBlock]at ak
 ·subst I
  simp[Value.ownBlock]at ak
  subst ak
  rw[A]at c
  injection c with c
  injection c with _ c _
  exact ah c
theorem my.grown{w wr c9 w':World}{a:Option Addr}{n:Nat}{aG:Array Value}{aT:Array Value}(h:my w a n aG wr aT c9)(A:Below (wr.heap.size+1) c9 w'):my w a n aG wr aT w':=by
 have c:=h.kI;exact⟨h.r.U (A.mono z),⟨db h.k.1 A.size,fun b H I=>(A.block b z).trans (h.k.2 b H I)⟩,c,(A.block _ z).trans h.v⟩
structure nP (w:World) (a:Option Addr) (n:Nat) (aG:Array Value) (cR:World) (bJ:Nat) (e8:Value) (a_:List (List bH)) (c9:World):Prop where
 k:my w a n aG cR #[.int .i64 5,.string bL,.int .i64 0,.int .i64 0,.int .i64 0,.slice (some ⟨bJ,0,none⟩) 2 2,e8] c9
 o:j3 (cR.heap.size+1) 0 c9 e8 a_
 s:c9.heap[bJ]? =some (.cells #[.string kV,.string kH] 9 (0,0))
 kI:cR.heap.size<bJ
section
variable {w cR c9 w':World} {a:Option Addr} {n bJ:Nat} {aG:Array Value} {e8:Value} {a_:List (List bH)}
theorem nP.next(h:nP w a n aG cR bJ e8 a_ c9){N:Int}{e:Ending}(b:tE c9 (w.heap.size+1) a n N e w'):nP w a n aG cR bJ e8 a_ w':=by
 have d:=h.k.kI;have c:=h.kI;exact⟨h.k.next b,h.o.next b z,by rw[b.2.2.2.1 _ z];exact h.s,c⟩
theorem nP.U(h:nP w a n aG cR bJ e8 a_ c9)(A:Below c9.heap.size c9 w'):nP w a n aG cR bJ e8 a_ w':=
 ⟨h.k.U A,h.o.U A,by rw[A.block _ (b1 h.s)];exact h.s,h.kI⟩
theorem nP.alloc(h:nP w a n aG cR bJ e8 a_ c9)(o:Obj):nP w a n aG cR bJ e8 a_ (c9.alloc o):=h.U ((bi _ _).alloc (aZ _) _)
theorem nP.drew(h:nP w a n aG cR bJ e8 a_ c9):nP w a n aG cR bJ e8 a_ c9.drew:=h.U ((bi _ _).drew)
theorem nP.push{e d:World}(i:nP w a n aG cR bJ e8 a_ e)(h:nP w a n aG cR bJ e8 a_ c9){p:Option Addr}{u:List bH}{c:Nat}(r:cU (gR e.heap.size) (aY (gR e.heap.size) 0) c9 p u){o:Obj}{g cap:Nat}(f:(c9.alloc o).grownBy d e8.ownBlock)(B:e8.ownBlock=some g∨g=c9.heap.size+1) {ss:List Value}(D:ss.length=a_.length)(k:∀j (H:j<ss.length) (I:j<a_.length),∃a c,ss[j]=.slice a a_[j].length c/\cU (iQ (cR.heap.size+1) e8) (aY (iQ (cR.heap.size+1) e8) 0) c9 a a_[j]) (x:d.ownsRow (cR.heap.size+1) 45 1 (.slice (some ⟨g,0,none⟩) (a_.length+1) cap) (a_.length+1) (ss++[.slice p u.length c])): nP w a n aG cR bJ (.slice (some ⟨g,0,none⟩) (a_.length+1) cap) (a_++[u]) (d.setCell ⟨cR.heap.size,6,none⟩ (.slice (some ⟨g,0,none⟩) (a_.length+1) cap)):=by
 have y:cR.heap.size+1<=c9.heap.size:=b1 h.k.v;have m:cR.heap.size+1<=e.heap.size:=b1 i.k.v;have q:Below (cR.heap.size+1) c9 d:=((bi _ _).alloc y o).grown f bu (fun b A=>(h.o.lt b A).1);have t:=h.k.grown q;have s:=j3.push h.o (i.o.st (aZ _) m r) f B D k x;obtain⟨E,H,I,_⟩:=h.o.o;have l:d.heap[bJ]? =some (.cells #[.string kV,.string kH] 9 (0,0)):=by rw[f.block bJ (by have:=b1 h.s;simp;omega) (an' I h.s ai),Ck c9 _ bJ (b1 h.s)];exact h.s
 have C:=h.kI;exact⟨t.set 6 _,s.set z,by rw[hm _ _ _ _ (show bJ≠cR.heap.size by omega)];exact l,C⟩
theorem nP.value(h:nP w a n aG cR bJ e8 a_ c9)(d:a_.length<=3)(c:∀r∈a_,sC r):∃ea,ea=#[.int .i64 5,.string bL,.int .i64 0,.int .i64 0,.int .i64 0,.slice (some ⟨bJ,0,none⟩) 2 2,e8]/\vK cR ea c9:=by
 obtain⟨ra,rc,rfl,e⟩:=h.o.a_ z;have f:=h.kI;refine⟨_,rfl,iw a_,⟨some ⟨bJ,0,none⟩,2,ra,rc,rfl,⟨ai,fun _=>⟨bJ,0,rfl,f,b1 h.s,fun i hi=>?_⟩⟩,e⟩,.iw a_ d c⟩;have:i=0∨i=1:=by simp at hi;omega
 rcases this with rfl|rfl
 ·exact aS 0 h.s
 ·exact aS 1 h.s
end
end Go.b3
namespace Go.b3
open Go Go.Proofs.Tryz Go.Proofs Go.RowKit Go.Lib Go.aI
theorem aqW(m:Nat)(op aF:ByteArray)(dR:List Nat)(f:xa)(w:World)(F:Value)(ca:Option Addr)(cl cc:Nat)(X:Option Addr)(rl rc:Nat) (R:∀W,Below w.heap.size w W->Calls prog 85 #[.string op,.string aF,F,.slice ca cl cc] W fun e w'=>AW dR e w'/\Below W.heap.size W w') (Q:∀W,Calls prog 167 #[.string op,.string aF] W fun e w'=>AV f e w'/\Below W.heap.size W w') (M:∀k∈dR,1<=k)(A:Option Addr)(ac:Nat)(l:List bH)(x:∀v∈l,∃n,eR n v)(h:cU be (aY be 1) w A l) (F8:(op.toList==[105,102])=false)(JY:(op.toList==[99,111,108])=false)(Oy:(op.toList==[116,101,120,116])=true)(B:eR m (g8 aF)): Calls prog 284 #[.string op,.string aF,.slice A l.length ac,F,.slice ca cl cc,.slice X rl rc] w fun e w'=>eS w.heap.size m e w'/\Below w.heap.size w w':=by
 have s:=G (uA.g7 w);have D:=G R;have C:=G Q;have pu:=G fun W (t:Below w.heap.size w W)=>(cU.U (aY.mono be 1) h t).2;have rG:=G x;have eN:=h.1;have y3:=G M;have S:=G B;clear B;clear R Q h x M;go_enter func284,ntmps284;go_upto_region 1 with fail
 generalize w.alloc (.cells fi 44)=ap at s⊢;have y:=s.out.b;go_upto_region 2 with(go_at_call 85;refine(D.out _ y).mono ?_;rintro e ao ⟨⟨GZ,G0,G1,rfl,hN⟩,E⟩;generalize qn:dR.length=m_)
 have eK:=G (s.out.U E);clear D s y E;by_cases K:l.length=m_
 ·have eg:((l.length:Int) !=(m_:Int))=false:=by simp[K]
  have ha:=G fun W (t:Below ao.heap.size ao W)=>(hN.U t).2;clear hN
  go_wp2;go_loopw [20,21] (fun i _ wr=>∃k:Nat,k<=l.length/\i=.int .i64 k/\Below ao.heap.size ao wr/\oh dR l k) (fun i _ _=>l.length-(RowKit.intOf i).toNat);case atStart=>exact⟨0,dq _,rfl,bi _ _,oh.zero _ _⟩
  case round=>
   obtain⟨k,aa,rfl,bc,pG⟩:=hrel;have eG:=G (eK.out.U bc);by_cases aq:k<l.length
   ·exact G9
   ·have qj:uH dR l:=pG.all (K.trans qn.symm) z;have T:=bc.size;clear pG ha pu rG eK bc;go_upto_region 22 with(go_at_call 167;refine(C.out _).mono ?_;rintro e a ⟨⟨g,j,d,r,c,rfl,P,O⟩,bC⟩)
    have N:=eG.out.U bC;have L:=G (N.U (fH a (.cells (eM g f.bo.length j f.k f.n f.dn f.ds d r c) 222)));have I:=da a (.cells (eM g f.bo.length j f.k f.n f.dn f.ds d r c) 222);have Y:=G (P.U (fH a (.cells (eM g f.bo.length j f.k f.n f.dn f.ds d r c) 222)));have Z:=G (ol.U O (fH a (.cells (eM g f.bo.length j f.k f.n f.dn f.ds d r c) 222)));clear N bC eG P O C;generalize a.heap.size=iD at*;generalize a.alloc (.cells (eM g f.bo.length j f.k f.n f.dn f.ds d r c) 222)=H at*;replace I:=G I;clear Y Z qj T;have pq:=G (Re aF H);have x4:w.heap.size<=H.heap.size:=L.out.b.size
    go_wp2_with (go_at_call 368;(with_reducible refine pq.out.mono ?_);rintro e yz ⟨rfl,nu⟩;have J:=G (L.out.U nu);have u:=J.out.o;obtain⟨gC,c_,dL,fU,gE,gM,gT⟩:=eU u;obtain⟨z0,cy,dv,z3,z4,z5,eP⟩:=gI u);refine fL (jp (fn:=f284) rfl _ _ w.heap.size 44 _ (0,0) _ _ rfl rfl (h3 u _ _ _ _ _ _ _) underlying44 rfl iJ) rfl ?_;exact⟨eS.some _ _ _ (aY.iE _ 1 _ 1 aF 0 0 0 none 0 none 0) S.out,ib J.out.b z _ _ _ _ _ _ _⟩
 ·exact Ei
theorem aqV(m:Nat)(op aF:ByteArray)(dR:List Nat)(f:xa)(w:World)(H:Value)(ca:Option Addr)(cl cc:Nat)(X:Option Addr)(rl rc:Nat) (R:∀W,Below w.heap.size w W->Calls prog 85 #[.string op,.string aF,H,.slice ca cl cc] W fun e w'=>AW dR e w'/\Below W.heap.size W w') (Q:∀W,Calls prog 167 #[.string op,.string aF] W fun e w'=>AV f e w'/\Below W.heap.size W w') (M:∀k∈dR,1<=k)(B:Option Addr)(ac:Nat)(l:List bH)(y:∀v∈l,∃n,eR n v)(h:cU be (aY be 1) w B l) (F8:(op.toList==[105,102])=false)(JY:(op.toList==[99,111,108])=false)(Oy:(op.toList==[116,101,120,116])=false)(Ut:(op.toList==[110,117,109,98,101,114])=true)(C:eR m (gi f.dn f.ds)): Calls prog 284 #[.string op,.string aF,.slice B l.length ac,H,.slice ca cl cc,.slice X rl rc] w fun e w'=>eS w.heap.size m e w'/\Below w.heap.size w w':=by
 have s:=G (uA.g7 w);have E:=G R;have D:=G Q;have pu:=G fun W (t:Below w.heap.size w W)=>(cU.U (aY.mono be 1) h t).2;have rG:=G y;have eN:=h.1;have y3:=G M;have S:=G C;clear C;clear R Q h y M;go_enter func284,ntmps284;go_upto_region 1 with fail
 generalize w.alloc (.cells fi 44)=ap at s⊢;have A:=s.out.b;go_upto_region 2 with(go_at_call 85;refine(E.out _ A).mono ?_;rintro e ao ⟨⟨GZ,G0,G1,rfl,hN⟩,F⟩;generalize qn:dR.length=m_)
 have eK:=G (s.out.U F);clear E s A F;by_cases K:l.length=m_
 ·have eg:((l.length:Int) !=(m_:Int))=false:=by simp[K]
  have ha:=G fun W (t:Below ao.heap.size ao W)=>(hN.U t).2;clear hN
  go_wp2;go_loopw [20,21] (fun i _ wr=>∃k:Nat,k<=l.length/\i=.int .i64 k/\Below ao.heap.size ao wr/\oh dR l k) (fun i _ _=>l.length-(RowKit.intOf i).toNat);case atStart=>exact⟨0,dq _,rfl,bi _ _,oh.zero _ _⟩
  case round=>
   obtain⟨k,aa,rfl,bc,pG⟩:=hrel;have eG:=G (eK.out.U bc);by_cases aq:k<l.length
   ·exact G9
   ·have qj:uH dR l:=pG.all (K.trans qn.symm) z;have T:=bc.size;clear pG ha pu rG eK bc;go_upto_region 22 with(go_at_call 167;refine(D.out _).mono ?_;rintro e a ⟨⟨g,j,d,r,c,rfl,P,O⟩,bC⟩)
    have N:=eG.out.U bC;have L:=G (N.U (fH a (.cells (eM g f.bo.length j f.k f.n f.dn f.ds d r c) 222)));have u:=da a (.cells (eM g f.bo.length j f.k f.n f.dn f.ds d r c) 222);have Y:=G (P.U (fH a (.cells (eM g f.bo.length j f.k f.n f.dn f.ds d r c) 222)));have Z:=G (ol.U O (fH a (.cells (eM g f.bo.length j f.k f.n f.dn f.ds d r c) 222)));clear N bC eG P O D;generalize a.heap.size=iD at*;generalize a.alloc (.cells (eM g f.bo.length j f.k f.n f.dn f.ds d r c) 222)=I at*;replace u:=G u;clear Y Z qj T;obtain⟨-,-,-,q6,u'⟩:=aew u.out;have pq:=G (Qg f.dn f.ds I);have x4:w.heap.size<=I.heap.size:=L.out.b.size
    go_wp2_with (go_at_call 369;(with_reducible refine pq.out.mono ?_);rintro e yz ⟨rfl,nu⟩;have J:=G (L.out.U nu);have x:=J.out.o;obtain⟨gC,c_,dL,fU,gE,gM,gT⟩:=eU x;obtain⟨z0,cy,dv,z3,z4,z5,eP⟩:=gI x);refine fL (jp (fn:=f284) rfl _ _ w.heap.size 44 _ (0,0) _ _ rfl rfl (h3 x _ _ _ _ _ _ _) underlying44 rfl iJ) rfl ?_;exact⟨eS.some _ _ _ (aY.iE _ 1 _ 2 bL f.dn f.ds 0 none 0 none 0) S.out,ib J.out.b z _ _ _ _ _ _ _⟩
 ·exact Ei
theorem aY.kind{B:Nat->Prop}{d:Nat}{w:World}{v:bH}{ce c a f:Int}{b:ByteArray}{ca ra:Option Addr}{cl cc rl rc:Nat}(h:aY B d w (bY ce b c a f ca cl cc ra rl rc) v):v.kind=ce:=by
 obtain⟨k,s,N,S,n,cs,a_⟩:=v;obtain⟨_,_,_,_,e,_⟩:=h.hz;injection e with e
 injection e with e _
 injection e with _ e
 exact e.symm
theorem aY.al_{B:Nat->Prop}{d:Nat}{w:World}{v:bH}{F:Array Value}(h:aY B d w F v):∃k s N S n ca cl cc ra rl rc,F=bY k s N S n ca cl cc ra rl rc:=by
 obtain⟨k,s,N,S,n,cs,a_⟩:=v;obtain⟨_,_,_,_,e,_⟩:=h.hz;exact⟨_,_,_,_,_,_,_,_,_,_,_,e⟩
theorem att{m:Nat}{v:bH}{F:Array Value}(b:eR m v){w:World}(h:aY be 1 w F v)(a:v.kind=0):Calls prog 367 #[.agg F] w fun e w'=>ac0 e/\Below w.heap.size w w':=by
 cases b with
 |gZ e ab H=>obtain⟨_,_,_,_,rfl,_⟩:=h.hz;exact aff _ _ _ _ _ ab H w
 |_=>exact absurd a (by simp[bH.kind,g8,gi,ju,lU,iw])
theorem aqT(m:Nat)(op aF:ByteArray)(dR:List Nat)(f:xa)(w:World)(bp:Value)(ca:Option Addr)(cl cc:Nat)(K:Option Addr)(rl rc:Nat) (oe:∀W,Below w.heap.size w W->Calls prog 85 #[.string op,.string aF,bp,.slice ca cl cc] W fun e w'=>AW dR e w'/\Below W.heap.size W w') (od:∀W,Calls prog 167 #[.string op,.string aF] W fun e w'=>AV f e w'/\Below W.heap.size W w') (j9:∀k∈dR,1<=k)(Y:Option Addr)(ac:Nat)(l:List bH)(T:∀v∈l,∃n,eR n v)(h:cU be (aY be 1) w Y l) (F8:(op.toList==[105,102])=false)(JY:(op.toList==[99,111,108])=true)(cs:List (ByteArray×Nat))(fS:cs.length=cl)(L:Go.c0.iM w ca cs)(af:cs.length<=8)(N:∃x∈cs,x.1=aF)(R:List bH)(h9:R.length=rl)(xT:cs.length=R.length)(I:cU be (aY be 1) w K R)(O:∀v∈R,eR m v): Calls prog 284 #[.string op,.string aF,.slice Y l.length ac,bp,.slice ca cl cc,.slice K rl rc] w fun e w'=>eS w.heap.size m e w'/\Below w.heap.size w w':=by
 have D:=G (uA.g7 w);have bk:=G oe;have bK:=G od;have pu:=G fun W (a:Below w.heap.size w W)=>(cU.U (aY.mono be 1) h a).2;have rG:=G T;have eN:=h.1;have y3:=G j9;subst fS;subst h9;have Z:=G fun W (a:Below w.heap.size w W)=>atE cs R W ca K cc rc (L.U a) af (fun v J=>⟨m,O v J⟩) (cU.U (aY.mono be 1) I a);have Fg:=G fun W (a:Below w.heap.size w W)=>arO W ca cc cs aF (L.U a) af N;have ae:=G fun W (a:Below w.heap.size w W)=>(cU.U (aY.mono be 1) I a).2;have an:=G O;have av:=G xT;have am:Hid (0<R.length):=G (by obtain⟨x,aj,_⟩:=N;have:=List.length_pos_of_mem aj;omega);clear L N I O xT;clear oe od h T j9;go_enter func284,ntmps284;go_upto_region 1 with fail
 generalize w.alloc (.cells fi 44)=ap at D⊢;have X:=D.out.b;go_upto_region 2 with(go_at_call 85;refine(bk.out _ X).mono ?_;rintro e ao ⟨⟨GZ,G0,G1,rfl,hN⟩,bm⟩;generalize qn:dR.length=m_)
 have eK:=G (D.out.U bm);clear bk D X bm;by_cases dh:l.length=m_
 ·have eg:((l.length:Int) !=(m_:Int))=false:=by simp[dh]
  have ha:=G fun W (a:Below ao.heap.size ao W)=>(hN.U a).2;clear hN
  go_wp2;go_loopw [20,21] (fun i _ wr=>∃k:Nat,k<=l.length/\i=.int .i64 k/\Below ao.heap.size ao wr/\oh dR l k) (fun i _ _=>l.length-(RowKit.intOf i).toNat);case atStart=>exact⟨0,dq _,rfl,bi _ _,oh.zero _ _⟩
  case round=>
   obtain⟨k,aD,rfl,bc,pG⟩:=hrel;have eG:=G (eK.out.U bc);by_cases aq:k<l.length
   ·exact G9
   ·have qj:uH dR l:=pG.all (dh.trans qn.symm) z;have dN:=bc.size;clear pG ha pu rG eK bc;go_upto_region 22 with(go_at_call 167;refine(bK.out _).mono ?_;rintro e d ⟨⟨t,u,s,y,r,rfl,oB,o'⟩,bC⟩)
    have k_:=eG.out.U bC;have M:=G (k_.U (fH d (.cells (eM t f.bo.length u f.k f.n f.dn f.ds s y r) 222)));have ck:=da d (.cells (eM t f.bo.length u f.k f.n f.dn f.ds s y r) 222);have kO:=G (oB.U (fH d (.cells (eM t f.bo.length u f.k f.n f.dn f.ds s y r) 222)));have kR:=G (ol.U o' (fH d (.cells (eM t f.bo.length u f.k f.n f.dn f.ds s y r) 222)));clear k_ bC eG oB o' bK;generalize d.heap.size=iD at*;generalize d.alloc (.cells (eM t f.bo.length u f.k f.n f.dn f.ds s y r) 222)=bq at*;clear ck kO kR qj dN;have C:=Z.out bq M.out.b;replace C:=G C;go_upto_region 25 with(go_at_call 366;(with_reducible refine C.out.mono ?_);rintro e w7 ⟨⟨aw,rfl⟩,ip⟩)
    have g:=G (M.out.U ip);clear M C Z ip;cases aw with
    |false=>
     have Q:=g.out.o;obtain⟨gC,c_,dL,fU,gE,gM,gT⟩:=eU Q;obtain⟨z0,cy,dv,z3,z4,z5,eP⟩:=gI Q
     go_wp2;refine fL (jp (fn:=f284) rfl _ _ w.heap.size 44 _ (0,0) _ _ rfl rfl (h3 Q _ _ _ _ _ _ _) underlying44 rfl iJ) rfl ?_;exact⟨eS.none _ _ _ 1 ai ai,ib g.out.b z _ _ _ _ _ _ _⟩
    |true=>
     go_upto_region 27 with fail
     have ab:=G (Fg.out w7 g.out.b);obtain⟨rb,aC,rfl,_,h0,kj⟩:=ae.out w7 g.out.b am.out;have ad:=G kj;have aB:rb<w7.heap.size:=h0;clear kj ae h0;go_upto_region 28 with(go_at_call 168;(with_reducible refine ab.out.mono ?_);rintro e B ⟨⟨j,aa,rfl,GB⟩,zJ⟩;have ah:j<R.length:=(by have:=av.out;omega);obtain⟨ce,cg,ci,cY,cz,k',tR,la,kB,ut,kC,ag,V⟩:=ad.out j ah;have al:=an.out _ (fM ah);generalize R[j]=v at*;have iO:=G ag;have cd:=G al;subst zJ;have ft:=V.br;have dS:=V.c1;have eo:=V.c2;have hj:=V.c3;have jW:=V.c4;have kb:=V.c5;have ll:=V.fk;have g4:(0:Int)<=(j:Int):=z;have gx:(j:Int)<R.length:=z;clear ag al V GB)
     have S:=fH w7 (.cells (bY ce cg ci cY cz k' tR la kB ut kC) 44);have E:=G (g.out.U S);have H:=G (iO.out.U S);have az:=da w7 (.cells (bY ce cg ci cY cz k' tR la kB ut kC) 44);clear ft dS eo hj jW kb ll iO g ad aB S g4 gx ab;generalize w7.heap.size=us at*;generalize w7.alloc (.cells (bY ce cg ci cY cz k' tR la kB ut kC) 44)=B at*;obtain⟨fV,b6,cf,ep,kA,ro,n3⟩:=eU az;clear az;by_cases Ph:ce=0
     ·subst Ph;have E8:=G (att cd.out H.out H.out.kind)
      go_wp2_with (go_at_call 367;(with_reducible refine E8.out.mono ?_);rintro e yz ⟨⟨q5,rfl,ay,aA⟩,P⟩;have A:=G (E.out.U P);have c:=A.out.o;obtain⟨gC,c_,dL,fU,gE,gM,gT⟩:=eU c;obtain⟨z0,cy,dv,z3,z4,z5,eP⟩:=gI c);refine fL (jp (fn:=f284) rfl _ _ w.heap.size 44 _ (0,0) _ _ rfl rfl (h3 c _ _ _ _ _ _ _) underlying44 rfl iJ) rfl ?_;exact⟨eS.none _ _ _ q5 ay aA,ib A.out.b z _ _ _ _ _ _ _⟩
     ·have aE:(ce==0)=false:=by simpa using Ph
      have x4:w.heap.size<=B.heap.size:=E.out.b.size;have lg:w.heap.size<B.heap.size:=b1 E.out.o;have Az:=G (JK 0 B _ _ H.out)
      go_wp2_with (go_at_call 365;(with_reducible refine Az.out.mono ?_);rintro e yz ⟨⟨aG,rfl,F⟩,P⟩;obtain⟨hY,bB,lz,lA,j7,lW,lB,lX,lY,lD,lZ,rfl⟩:=F.al_;have yZ:=G F;clear F;have A:=G (E.out.U P);have c:=A.out.o;obtain⟨gC,c_,dL,fU,gE,gM,gT⟩:=eU c;obtain⟨z0,cy,dv,z3,z4,z5,eP⟩:=gI c);refine fL (jp (fn:=f284) rfl _ _ w.heap.size 44 _ (0,0) _ _ rfl rfl (h3 c _ _ _ _ _ _ _) underlying44 rfl iJ) rfl ?_;exact⟨eS.put (base:=B.heap.size) (eS.some _ _ _ yZ.out cd.out) lg x4,ib A.out.b z _ _ _ _ _ _ _⟩
 ·exact Ei
end Go.b3
