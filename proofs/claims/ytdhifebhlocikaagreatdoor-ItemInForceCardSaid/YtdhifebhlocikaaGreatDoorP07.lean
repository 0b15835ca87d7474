/- ItemInForce, one part of the proof. -/
import Derived.Test.YtdhifebhlocikaaGreatDoorP06
set_option linter.all false
set_option maxRecDepth 100000
set_option maxHeartbeats 16000000
namespace Go.bE
open Go Go.Proofs.Tryz Go.Proofs Go.RowKit Go.Lib Go.aM
variable{w:Γ}{b:Nat}
def de{o:Obj}(h:w.heap[b]? =some o):b<w.heap.size:=(hl.1 h).1
def avX(n M:Nat)(e:Ending):Prop:=∃(neg:Bool) (k:Nat),nU neg k M e/\k<=n
def aHh(p q:Bool)(a b:Ψ)(m n s u M:Nat)(w:Γ)(aL:dG a m)(G:dG b n)(c:m<=1000000000000000)(d:n<=1000000000000000)(i:M=max s u)(j:M<=3)(X Y:Nat)(f:X=m*10^(M-s))(g:Y=n*10^(M-u)): χ 566 #[.agg #[.bool p,a,s],.agg #[.bool q,b,u]] w λe w'=>avX (X+Y) M e:=by
 have r:10^(M-s)<=10^3:=k5 z z;have t:10^(M-u)<=10^3:=k5 z z;have k:X<=1000000000000000000:=by rw[f];exact yQ c r
 have l:Y<=1000000000000000000:=by rw[g];exact yQ d t
 by_cases o:p=q;subst o;exact(acO p a b m n s u M w aL G c d i j X Y f g k l).mono λe w' ⟨h,G⟩=>⟨⟨_,_,h,aY _⟩,G⟩
 .cases p
  .obtain rfl:q=true:=by cases q<;>simp_all
   by_cases au:X<Y;exact(aqD a b m n s u M w aL G c d i j X Y f g k l au).mono λe w' ⟨h,G⟩=>⟨⟨_,_,h,z⟩,G⟩;exact(aqF a b m n s u M w aL G c d i j X Y f g k l z).mono λe w' ⟨h,G⟩=>⟨⟨_,_,h,z⟩,G⟩
  .obtain rfl:q=false:=by cases q<;>simp_all
   by_cases au:X<Y;exact(aqE a b m n s u M w aL G c d i j X Y f g k l au).mono λe w' ⟨h,G⟩=>⟨⟨_,_,h,z⟩,G⟩;exact(aqG a b m n s u M w aL G c d i j X Y f g k l z).mono λe w' ⟨h,G⟩=>⟨⟨_,_,h,z⟩,G⟩
variable{v:Φ}
def sk{c i j k:Nat}{u:Φ}(h:c≠b):((w.setCell ⟨c,j,none⟩ u).setCell ⟨c,k,none⟩ v) ⟨b,i,none⟩=w ⟨b,i,none⟩:=by rw[ve _ _ _ _ h,ve _ _ _ _ h]
def QF(w:Γ)(a b c:Obj):β w (((w.alloc a).alloc b).alloc c)/\(((w.alloc a).alloc b).alloc c).heap[w.heap.size]? =some a/\(((w.alloc a).alloc b).alloc c).heap[w.heap.size+1]? =some b/\(((w.alloc a).alloc b).alloc c).heap[w.heap.size+1+1]? =some c:=by have cC:=jt w a;have dC:=jt (w.alloc a) b;exact ab'
def aib(i j:Int)(m q M:Nat)(w:Γ)(H:hC i m)(I:hC j q)(fx:M=max m q)(iD:M<=3)(X Y:Nat)(U:X=i.natAbs*10^(M-m))(fB:Y=j.natAbs*10^(M-q))(DL:X+Y<=1000000000000000): χ 532 #[.agg #[i,m],.agg #[j,q]] w λe w'=>A4 (X+Y) M e:=by have T:=A λW=>x7 i m W H;have R:=A λW=>x7 j q W I;have ia:=A λa b W (aL:dG a i.natAbs) (G:dG b j.natAbs)=>aHh (decide (i<0)) (decide (j<0)) a b i.natAbs j.natAbs m q M W aL G (by have:=H.2.2;omega) (by have:=I.2.2;omega) fx iD X Y U fB;have lQ:=A λneg a n W (aL:dG a n) (ax:n<=X+Y)=>Jk neg a n M W aL z iD;obtain⟨W,F⟩:∃W,W=((w.alloc (.cells #[i,m] 41)).alloc (.cells #[j,q] 41)).alloc (.cells #[.int .i64 0,.int .i64 0] 41):=⟨_,rfl⟩;have ay:=QF w (.cells #[i,m] 41) (.cells #[j,q] 41) (.cells #[.int .i64 0,.int .i64 0] 41);rw[<-F]at ay;let⟨D,J,E,C⟩:=ay;clear H I fx U fB DL;go_enter func532,ntmps532;go_wp2;rw[<-F];clear F;let⟨fV,V⟩:=j' J;let⟨Z,du⟩:=j' E;let⟨gg,cr⟩:=j' C;let⟨z0,cC⟩:=m3 C;have K:=(hl.1 J).1;have b7:=(hl.1 E).1;have cw:=(hl.1 C).1;have P:w.heap.size+1+1≠w.heap.size:=z;have Q:w.heap.size+1+1≠w.heap.size+1:=z;have cp:=A C;have L:=A D;clear J E C D;go_region_held3 (λaZ=>aZ ⟨w,0,none⟩=i/\aZ ⟨w,1,none⟩=m/\aZ ⟨w.heap.size+1,0,none⟩=j/\aZ ⟨w.heap.size+1,1,none⟩=q) (first|exact⟨fV,V,Z,du⟩|exact⟨u,t,s,r⟩|exact⟨(sk P).trans u,(sk P).trans t,(sk Q).trans s,(sk Q).trans r⟩|go_keep) (first|(go_at_call 403;(with_reducible refine(lQ.out _ _ _ _ qV O).mono ?_);rintro e br ⟨⟨N,S,rfl,kq,uD,uE,w8⟩,o⟩;have u:=aA o l u;have t:=aA o l t;have s:=aA o k s;have r:=aA o k r;have fi:=aA o c fi;have x:=aA o c x;have B:=rR o c B;have y:=rR o c y)|(go_at_call 566;(with_reducible refine(ia.out _ _ _ rM o').mono ?_);rintro e bc ⟨⟨aa,n5,⟨t5,rfl,qV⟩,O⟩,d⟩;have u:=aA d l u;have t:=aA d l t;have s:=aA d k s;have r:=aA d k r;have fi:=aA d c fi;have x:=aA d c x;have B:=rR d c B;have y:=rR d c y;have l:=cT d l;have k:=cT d k;have c:=cT d c)|(have ab:=rM;go_at_call 305;(with_reducible refine(R.out _).mono ?_);rintro e bh ⟨⟨t4,rfl,o'⟩,g⟩;have u:=aA g l u;have t:=aA g l t;have s:=aA g k s;have r:=aA g k r;have fi:=aA g c fi;have x:=aA g c x;have B:=rR g c B;have y:=rR g c y;have l:=cT g l;have k:=cT g k;have c:=cT g c)|(go_at_call 305;(with_reducible refine(T.out _).mono ?_);rintro e w3 ⟨⟨t3,rfl,rM⟩,f⟩;have u:=aA f K fV;have t:=aA f K V;have s:=aA f b7 Z;have r:=aA f b7 du;have fi:=aA f cw gg;have x:=aA f cw cr;have B:=rR f cw z0;have y:=rR f cw cC;have l:=cT f K;have k:=cT f b7;have c:=cT f cw));have i5:=L.out.drew.trans (f.mono L.out.size);have jx:=b3 i5 g;have hR:=b3 jx d;have gC:=b3 hR o;have D:=A ((gC.setCell (p:=⟨w.heap.size+1+1,0,none⟩) (show w.heap.size<=w.heap.size+1+1 by omega) N).setCell (p:=⟨w.heap.size+1+1,1,none⟩) (show w.heap.size<=w.heap.size+1+1 by omega) S);clear i5 jx hR gC L T R ia lQ cp;go_wp2;refine gd (by simp[results,results532,go_sem,fi,x];rfl) rfl ?_;exact⟨⟨N,S,rfl,kq,uD,c6 uE O,w8⟩,D⟩
def aFh(f g:Int)(c d M:Nat)(w:Γ)(fx:M=c+d)(H:hC f c)(I:hC g d)(iD:c+d<=3)(av:f.natAbs<16777216)(ax:g.natAbs<2147483648)(DL:f.natAbs*g.natAbs<=1000000000000000): χ 534 #[.agg #[f,c],.agg #[g,d]] w λe w'=>A4 (f.natAbs*g.natAbs) M e:=by
 have bp:=A λW=>x7 f c W H;have bP:=A λW=>x7 g d W I;have ia:=A λa b W (aL:dG a f.natAbs) (G:dG b g.natAbs)=>apx a b _ _ W aL G av ax;have lQ:Hid (∀(neg:Bool) (a:Ψ) (W:Γ),dG a (f.natAbs*g.natAbs)->χ 403 #[.agg #[.bool neg,a,.int .i64 ((c:Int)+(d:Int))]] W λe w'=>A4 (f.natAbs*g.natAbs) M e):=A λneg a W aL=>by rw[show(c:Int)+(d:Int)=M by omega];exact Jk neg a _ M W aL DL z
 obtain⟨W,V⟩:∃W,W=((w.alloc (.cells #[f,c] 41)).alloc (.cells #[g,d] 41)).alloc (.cells #[.int .i64 0,.int .i64 0] 41):=⟨_,rfl⟩;have ay:=QF w (.cells #[f,c] 41) (.cells #[g,d] 41) (.cells #[.int .i64 0,.int .i64 0] 41);rw[<-V]at ay;let⟨o,ct,T,k⟩:=ay;have m':IntKind.i64.wrap ((c:Int)+(d:Int))=(c:Int)+(d:Int):=pU _ ⟨z,z⟩;have l4:(c:Int)<=3:=z;have pa:(d:Int)<=3:=z;clear H I DL av ax;go_enter func534,ntmps534;go_upto_region 1 with fail
 rw[<-V];clear V;let⟨D,u⟩:=j' ct;go_upto_region 2 with(go_at_call 305;(with_reducible refine(bp.out _).mono ?_);rintro e w3 ⟨⟨t3,rfl,rM⟩,l⟩)
 have i5:=(b3 o l).alloc (b3 o l).size (.cells #[.bool (decide (f<0)),t3,c] 338);have O:β W (w3.alloc (.cells #[.bool (decide (f<0)),t3,c] 338)):=l.alloc l.size _;have FZ:=(O.block _ (de T)).trans T;have P:=(O.block _ (de k)).trans k;have L:=c7 w3 (.cells #[.bool (decide (f<0)),t3,c] 338);have BS:w.heap.size+1+1<w3.heap.size:=i4 (de k) l.size;clear D u ct T k o l O;generalize w3.heap.size=q at*;generalize (w3.alloc (.cells #[.bool (decide (f<0)),t3,c] 338))=ze at*;let⟨x,y⟩:=j' FZ;go_upto_region 3 with(go_at_call 305;(with_reducible refine(bP.out _).mono ?_);rintro e n ⟨⟨t4,rfl,o'⟩,m⟩)
 have jx:=(b3 i5 m).alloc (b3 i5 m).size (.cells #[.bool (decide (g<0)),t4,d] 338);have U:β ze (n.alloc (.cells #[.bool (decide (g<0)),t4,d] 338)):=m.alloc m.size _;have k:=(U.block _ (de P)).trans P;have Q:=(U.block _ (de L)).trans L;have R:=c7 n (.cells #[.bool (decide (g<0)),t4,d] 338);have ab:q<n.heap.size:=i4 (de L) m.size;clear x y FZ P L i5 m U;generalize n.heap.size=s at*;generalize (n.alloc (.cells #[.bool (decide (g<0)),t4,d] 338))=aa at*;let⟨D,u,x⟩:=x_ Q;let⟨y,oO,xB⟩:=x_ R;let⟨gg,cr⟩:=j' k;let⟨z0,cC⟩:=m3 k;have E:=de Q;have b7:=de R;have cw:=de k;have X:w.heap.size+1+1≠q:=z;have Z:w.heap.size+1+1≠s:=z;have oU:=A jx;clear Q R k jx;go_region_held3 (λaZ=>aZ ⟨q,0,none⟩=some (.bool (decide (f<0)))/\aZ ⟨q,1,none⟩=t3/\aZ ⟨q,2,none⟩=c/\aZ ⟨s,0,none⟩=some (.bool (decide (g<0)))/\aZ ⟨s,1,none⟩=t4/\aZ ⟨s,2,none⟩=d) (first|exact⟨D,u,x,y,oO,xB⟩|exact⟨C,B,t,r,K,J⟩|exact⟨(sk X).trans C,(sk X).trans B,(sk X).trans t,(sk Z).trans r,(sk Z).trans K,(sk Z).trans J⟩|go_keep) (first|(go_at_call 403;(with_reducible refine(lQ.out _ _ _ qV).mono ?_);rintro e br ⟨⟨N,S,rfl,kq,uD,uE,w8⟩,j⟩;have C:=aA j iG C;have B:=aA j iG B;have t:=aA j iG t;have r:=aA j gF r;have K:=aA j gF K;have J:=aA j gF J;have fi:=aA j F fi;have Y:=aA j F Y;have eQ:=rR j F eQ;have dB:=rR j F dB)|(go_at_call 199;(with_reducible refine(ia.out _ _ _ rM o').mono ?_);rintro e bc ⟨⟨t5,rfl,qV⟩,i⟩;have C:=aA i E D;have B:=aA i E u;have t:=aA i E x;have r:=aA i b7 y;have K:=aA i b7 oO;have J:=aA i b7 xB;have fi:=aA i cw gg;have Y:=aA i cw cr;have eQ:=rR i cw z0;have dB:=rR i cw cC;have iG:=cT i E;have gF:=cT i b7;have F:=cT i cw));have hR:=oU.out.drew.trans (i.mono oU.out.size);have gC:=b3 hR j;have o:=A ((gC.setCell (p:=⟨w.heap.size+1+1,0,none⟩) (show w.heap.size<=w.heap.size+1+1 by omega) N).setCell (p:=⟨w.heap.size+1+1,1,none⟩) (show w.heap.size<=w.heap.size+1+1 by omega) S);clear hR gC oU bp bP ia lQ;go_wp2;refine gd (by simp[results,results534,go_sem,fi,Y];rfl) rfl ?_;exact⟨⟨N,S,rfl,kq,uD,uE,w8⟩,o⟩
def arl(n p:Nat)(ag:0<p):(n*2+p)/(p*2)<=n:=by
 have h:n*2+p<p*2*(n+1):=by(have I:n<=n*p:=atF n ag;have a:p*2*(n+1)=2*(n*p)+2*p:=by rw[EV,tX,H9 p 2,EW,H9 p n]);omega
 have:=(Nat.div_lt_iff_lt_mul (z:0<p*2)).2 (by rw[H9 (n+1)];exact h);omega
def aIq(N:Int)(S:Nat)(w:Γ)(H:hC N S)(bt:S<=3)(dX:N.natAbs<=1000000000000): χ 535 #[.agg #[N,S],.int .i64 1] w λe w'=>A4 N.natAbs 1 e:=by
 have bp:=A λW=>x7 N S W H;have T:=k0 w (.cells #[N,S] 41 (0,0)) (.cells #[.int .i64 0,.int .i64 0] 41 (0,0));have M:=T.p;have l:=T.q;have u:=T.h;let⟨o,m⟩:=j' M;clear T;obtain⟨W,F⟩:∃W,W=(w.alloc (.cells #[N,S] 41 (0,0))).alloc (.cells #[.int .i64 0,.int .i64 0] 41 (0,0)):=⟨_,rfl⟩;rw[<-F]at M l u o m;go_enter func535,ntmps535;go_upto_region 3 with fail
 rw[<-F];clear F;go_upto_region 4 with(go_at_call 305;(with_reducible refine(bp.out _).mono ?_);rintro e w3 ⟨⟨t3,rfl,rM⟩,j⟩)
 have i5:=(b3 u j).alloc (b3 u j).size (.cells #[.bool (decide (N<0)),t3,S] 338);have Y:β W (w3.alloc (.cells #[.bool (decide (N<0)),t3,S] 338)):=j.alloc j.size _;have t:=(Y.block _ (de l)).trans l;have y:=c7 w3 (.cells #[.bool (decide (N<0)),t3,S] 338);have BS:w.heap.size+1<w3.heap.size:=i4 (de l) j.size;clear o m M l u j Y;generalize w3.heap.size=fA at*;generalize (w3.alloc (.cells #[.bool (decide (N<0)),t3,S] 338))=ze at*;let⟨o,m,dq⟩:=x_ y;have Q:=A i5;have K:=A t;have x:=de y;have b7:=de t;by_cases ay:S<=1
 .have dZ:(S:Int)<=1:=z;have P:=A λW=>Jk (decide (N<0)) t3 N.natAbs S W rM z z;clear H t y i5;go_wp2_with (go_at_call 403;(with_reducible refine(P.out _).mono ?_);rintro e br ⟨⟨J,Z,rfl,O,R,U,w8⟩,d⟩;have ae:=(d.block _ b7).trans K;let⟨gg,L⟩:=j' ae;let⟨z0,cC⟩:=m3 ae);have q:=b3 Q d;refine gd (by simp[results,results535,go_sem,gg,L];rfl) rfl ?_;exact⟨⟨J,Z,rfl,O,R,U,z⟩,(q.setCell (p:=⟨w.heap.size+1,0,none⟩) (show w.heap.size<=w.heap.size+1 by omega) _).setCell (p:=⟨w.heap.size+1,1,none⟩) (show w.heap.size<=w.heap.size+1 by omega) _⟩
 .have dZ:¬(S:Int)<=1:=z;have ag:0<10^(S-1):=H_ z;have ij:10^(S-1)<=100:=by have:10^(S-1)<=10^2:=k5 z z;omega
  have bP:Hid (∀W,χ 306 #[.int .i64 ((S:Int)-1)] W λe w'=>h1 (10^(S-1)) e):=A λW=>by rw[show(S:Int)-1=((S-1:Nat):Int) by omega];exact Kp (S-1) W z
  have ab:Hid (∀W,χ 121 #[.int .i64 2] W λe w'=>h1 2 e):=A λW=>qn 2 W z;generalize 10^(S-1)=p at*;have Ry:=A λb W (G:dG b 2)=>UL t3 b N.natAbs 2 W rM G z z z;have yW:=A λa b W (aL:dG a p) (G:dG b 2)=>UL a b p 2 W aL G z z z;have p0:=A λa b W (aL:dG a (N.natAbs*2)) (G:dG b p)=>Fu a b _ p W aL G z z;have Rz:=A λa b W (aL:dG a (N.natAbs*2+p)) (G:dG b (p*2))=>Ai a b _ _ W aL G z z z;have P:Hid (∀(a:Ψ) (W:Γ),dG a ((N.natAbs*2+p)/(p*2))->χ 403 #[.agg #[.bool (decide (N<0)),a,.int .i64 1]] W λe w'=>A4 ((N.natAbs*2+p)/(p*2)) 1 e):=A λa W aL=>Jk (decide (N<0)) a _ 1 W aL (c6 (arl _ p ag) z) z;have dQ:=arl N.natAbs p ag;clear H t y i5;go_upto_region 7 with(go_at_call 306;(with_reducible refine(bP.out _).mono ?_);rintro e I ⟨⟨t5,rfl,qV⟩,g⟩)
  have E:=aA g x m;have aj:=aA g x o;have D:=cT g x;have ad:=A ((g.block _ b7).trans K);have C:=cT g b7;have q:=A (b3 Q g);clear o m dq x b7 K Q g;go_region_held3 (λaZ=>aZ ⟨fA,1,none⟩=t3) (first|exact E|exact n|go_keep) (first|(go_at_call 54;(with_reducible refine(p0.out _ _ _ ar qV).mono ?_);rintro e dc ⟨⟨Hx,rfl,am⟩,k⟩;have f:=aA k c f;have n:=aA k c n;have c:=cT k c)|(go_at_call 199;(with_reducible refine(Ry.out _ _ yv).mono ?_);rintro e w7 ⟨⟨Cu,rfl,ar⟩,i⟩;have f:=aA i c f;have n:=aA i c n;have c:=cT i c)|(go_at_call 121;(with_reducible refine(ab.out _).mono ?_);rintro e br ⟨⟨nc,rfl,yv⟩,d⟩;have f:=aA d D aj;have n:=aA d D E;have c:=cT d D));have gC:=q.out.drew.trans (d.mono q.out.size);have fJ:=b3 gC i;have X:=b3 fJ k;have mX:=A (k.block _ (i4 (i4 (show w.heap.size+1<I from C) d.size) i.size));have pr:=i.block _ (i4 (show w.heap.size+1<I from C) d.size);have xT:=d.block _ (show w.heap.size+1<I from C);have V:=A ((((mX.out.trans pr).trans xT).trans ad));have ak:=A X;have aa:w.heap.size+1<dc.heap.size:=de V;clear q gC fJ X mX pr xT ad d i k aj E p0 Ry;go_wp2_with (first|(go_at_call 403;(with_reducible refine(P.out _ _ ap).mono ?_);rintro e Ax ⟨⟨J,Z,rfl,O,R,U,w8⟩,oE⟩;have af:=(oE.block _ aq).trans ax;let⟨gg,L⟩:=j' af;let⟨z0,cC⟩:=m3 af)|(go_at_call 307;(with_reducible refine(Rz.out _ _ _ am al).mono ?_);rintro e aC ⟨⟨aB,tr,rfl,ap,az⟩,B⟩;have ax:=(B.block _ ah).trans aw;have bi:=aA B c f;have aq:=cT B ah)|(go_at_call 199;(with_reducible refine(yW.out _ _ _ qV an).mono ?_);rintro e yK ⟨⟨EB,rfl,al⟩,s⟩;have aw:=(s.block _ ai).trans C3;have ah:=cT s ai;have f:=aA s c f;have c:=cT s c)|(go_at_call 121;(with_reducible refine(ab.out _).mono ?_);rintro e gI ⟨⟨t9,rfl,an⟩,r⟩;have C3:=(r.block _ aa).trans V;have ai:=cT r aa;have f:=aA r c f;have c:=cT r c));have E0:=b3 ak r;have au:=b3 E0 s;have Lq:=b3 au B;have av:=b3 Lq oE;refine gd (by simp[results,results535,go_sem,gg,L];rfl) rfl ?_;exact⟨⟨J,Z,rfl,O,R,c6 U dQ,w8⟩,(av.setCell (p:=⟨w.heap.size+1,0,none⟩) (show w.heap.size<=w.heap.size+1 by omega) _).setCell (p:=⟨w.heap.size+1,1,none⟩) (show w.heap.size<=w.heap.size+1 by omega) _⟩
def aIh(n:Int)(w:Γ):Calls prog 422 #[n] w λe w'=>e=.returned (.bool (decide (0<=n)&&decide (n<=3652058)))/\w=w':=by
 by_cases af:0<=n
 .go_enter func422,ntmps422;go_wp2;go_ret;exact⟨by simp[af],rfl⟩
 .go_enter func422,ntmps422;go_wp2;go_ret;exact⟨bw,rfl⟩
def avJ(e:Ending):Prop:=∃(n:Int) (ok:Bool),e=.returned (.tuple #[.int .i64 n,.bool ok])/\(ok=true->0<=n/\n<=3652058)
def awC(n d:Int)(af:0<=n)(H:n<=3652058)(hd: -1000000000000000<=d)(g:d<=1000000000000000)(w:Γ):Calls prog 537 #[n,d] w λe w'=>avJ e/\w=w':=by
 have bp:=A λn w=>aIh n w;have ak:(decide (0<=n)&&decide (n<=3652058))=true:=by simp[af,H]
 have j:IntKind.i64.wrap (n+d)=n+d:=pU _ ⟨z,z⟩;by_cases I:d< -3652058;exact aoX
 .by_cases i:3652058<d;exact aoX
  .by_cases b:0<=n+d/\n+d<=3652058
   .have a:(decide (0<=n+d)&&decide (n+d<=3652058))=true:=by simp[b.1,b.2]
    go_enter func537,ntmps537;go_wp2_with (first|(have f:=c;go_at_call 422;(with_reducible refine(bp.out _ _).mono ?_);rintro e am ⟨rfl,rfl⟩;rw[a])|(go_at_call 422;(with_reducible refine(bp.out _ _).mono ?_);rintro e am ⟨rfl,rfl⟩;rw[ak];have c:True:=gL));go_ret2;exact⟨⟨_,true,rfl,λ_=>b⟩,rfl⟩
   .have a:(decide (0<=n+d)&&decide (n+d<=3652058))=false:=bw;go_enter func537,ntmps537;go_wp2_with (first|(have f:=c;go_at_call 422;(with_reducible refine(bp.out _ _).mono ?_);rintro e am ⟨rfl,rfl⟩;rw[a])|(go_at_call 422;(with_reducible refine(bp.out _ _).mono ?_);rintro e am ⟨rfl,rfl⟩;rw[ak];have c:True:=gL));go_ret2;exact⟨⟨0,false,rfl,λh=>by simp at h⟩,rfl⟩
def abs(w:Γ)(a:Θ)(c:Nat)(l:List Ψ)(s:Ψ)(h:g0 aD w a l): Calls prog 562 #[.slice a l c,s] w λe w'=>ahD l s e/\w=w':=by have d:=h.1;have ay:=A h.2;clear h;go_enter func562,ntmps562;exact aoe
def avD(e:Ending):Prop:=∃r:Bool,e=.returned (.bool r)
def abz(d g:Nat)(w:Γ)(F a:Ω)(v u:bs)(h:aR aD d w F v)(c:aR aD g w a u): χ 563 #[.agg F,.agg a] w λe w'=>avD e:=by
 let⟨k,s,N,S,n,cs,aG⟩:=v;let⟨j,l,z,C,n',m,B⟩:=u;have jn:β w ((w.alloc (.cells F 44 (0,0))).alloc (.cells a 44 (0,0))):= ((bl _ _).alloc (aY _) _).alloc aq _;have bp:=A (Za d g _ F a _ _ (h.K jn) (c.K jn));obtain⟨ca,cc,ra,rc,rfl,_⟩:=h.gX;obtain⟨o,y,r,x,rfl,_⟩:=c.gX;have T:=k0 w (.cells (bC k s N S n ca cs cc ra aG rc) 44 (0,0)) (.cells (bC j l z C n' o m y r B x) 44 (0,0));clear h c;by_cases f:k=0;subst f;exact aoD
 .have q:(k==0)=false:=by simpa using f
  exact aoD
variable{n:Nat}
def anb(aG:List (List bs))(J:e9 n (jl aG))(w:Γ)(F:Ω)(h:aR aD 1 w F (jl aG)): χ 564 #[.agg F] w λe w'=>oW e:=by have c:β w (w.alloc (.cells F 44 (0,0))):=(bl _ _).alloc (aY _) _;have d:=A (ac5 J _ F (h.K c));obtain⟨ca,cc,ra,rc,rfl,_⟩:=h.gX;have f:∀o,(w.alloc o).heap[w.heap.size]? =some o:=λo=>c7 w o;have au:∀o,w.heap.size<(w.alloc o).heap.size:=λo=>aq;clear h J;go_enter func564,ntmps564;go_wp2_with (go_at_call 211;refine(d.out).mono ?_;rintro e g ⟨rfl,a⟩;have j:=aN 0 ((a.block _ (au _)).trans (f _)));go_ret;exact⟨rfl,b3 c a⟩
def ant:lM≠lv:=al
variable{x:Int}
def axS(h:(∃(k:Nat) (a:k<[lM,lv].length),x=k/\[lM,lv][k]=lv)∨(x= -1/\lv∉[lM,lv])):x=1:=by
 rcases h with⟨k,a,rfl,aP⟩|⟨_,aP⟩
 .match k,a with
  |0,_=>exact absurd aP ant
  |1,_=>rfl
 exact absurd aq aP
def axV(h:(∃(k:Nat) (a:k<[lM,lv].length),x=k/\[lM,lv][k]=lM)∨(x= -1/\lM∉[lM,lv])):x=0:=by
 rcases h with⟨k,a,rfl,aP⟩|⟨_,aP⟩
 .match k,a with
  |0,_=>rfl
  |1,_=>exact absurd aP.symm ant
 exact absurd aq aP
variable{d:Nat}
def k7.lt{base:Nat}{l:List bs}(h:k7 base d w v l):∀g,v.ownBlock=some g->base<=g/\g<w.heap.size:=by exact anX
def k7.pf{base a:Nat}{w':Γ}{l:List bs}(h:k7 base d w v l){F:Ω}{u:bs}(f:w.heap.size<=n)(G:base<=n)(J:aR (fj n) a w' F u):aR (i_ base v) a w' F u:=
 J.low λb c=>⟨c6 G c,λe=>by have:=(h.lt b e.symm).2;have:n<=b:=c;omega⟩
def vu(d base:Nat)(v:bs)(e:Ending)(w':Γ):Prop:=∃F,e=.returned (.agg F)/\aR (fj base) d w' F v
def Wz(P:Γ->Ω->bs->Prop)(d:Nat):Prop:=∀(w:Γ) (F:Ω) (v:bs),P w F v->
 Calls prog 67 #[.agg F] w λe w'=>vu d w.heap.size v e w'/\Below w.heap.size w w'
def Se(d base:Nat)(l:List bs)(e:Ending)(w':Γ):Prop:=∃a c,e=.returned (.slice a l.length c)/\cm (fj base) (aR (fj base) d) w' a l
def YA{P:Γ->Ω->bs->Prop}(uQ:qF aD P)(u:Wz P d)(w:Γ)(a:Θ)(c:Nat)(l:List bs)(h:cm aD P w a l): χ 33 #[.slice a l c] w (Se d w l):=by
 have Y:=A (λW (M:β w W)=>(cm.K uQ h M).2);have U:=A u;have R:=h.1;clear h u;go_enter func33,ntmps33;go_wp2;go_loopw [3,4] (λs i wr=>∃(k:Nat),k<=l.length/\i=.int .i64 k/\k7 w d wr s (l.take k)/\β w wr) (λ_ i _=>l.length-(RowKit.intOf i).toNat);case atStart=>exact⟨0,dh _,rfl,k7.nil _ _ _,bl _ _⟩
 case round=>obtain⟨k,B,rfl,b,G⟩:=hrel;by_cases au:k<l;{(obtain⟨dK,eL,rfl,_,iE,q⟩:=Y.out _ G z;let⟨bN,bH,bL,cL,bT,fq,mB,fs,e5,mO,e6,ag,L⟩:=q k au;let⟨eQ,dB,dF,gB,hI,h8,iI⟩:=L;have V:=A (U.out _ _ _ ag);have gQ:(0:Int)<=(k:Int):=z;have gb:(k:Int)<l.length:=z;have r:l.take (k+1)=l.take k++[l[k]]:=(r6 au);have T:=A r;have Z:(l.take k).length<=100:=by rw[mw];omega);have g:=A b;clear q ag b r;generalize l[k]=x at*;let⟨H,aH,C,D,I,E,K⟩:=x;let⟨va,O,t⟩:=g.out.gX;rw[mw,Wl B]at t;subst t;have Q:=G.size;go_wp2_with (first|(go_at_call 67;refine V.out.mono ?_;rintro e bh ⟨⟨F,rfl,J⟩,f⟩;obtain⟨g9,ho,h9,hQ,rfl,_⟩:=J.gX;have X:=A J;have aa:=f.size;clear J)|(at_builtin;refine KR rfl _ _ rfl (base:=w.heap.size) (d:=d) (l:=l.take k) (y:=.mk H aH C D I E K) (v:=.slice va k O) rfl (g.out.K f) rfl (g.out.pf (aY _) Q X) Z z ?_;intro v5 bc m _ n;have j:=A m;have o:=A ((b3 G f).trans n);clear m n));(rw[<-T.out]at j;go_roundw;case rel=>first|exact⟨k+1,z,bz,j,o⟩|((repeat apply Exists.intro);refine⟨?_,rfl⟩;exact⟨k+1,z,bz,j,o⟩));case measure=>simp[RowKit.intOf];omega};{obtain rfl:k=l.length:=z;rw[sL]at b;obtain⟨a',S,rfl,N⟩:=b.P7 R;go_wp2;go_ret;exact⟨⟨a',S,rfl,N⟩,G⟩}
end Go.bE
namespace Go.bk.N
open Go Go.Proofs.Tryz Go.Proofs Go.RowKit Go.di
variable{w:Γ}{ca:Θ}
def _root_.Go.di.jy.bB{cs:List (Ψ×Nat)}(h:jy w ca cs)(g:cs.length<=8)(f:∀c∈cs,c.1.size<=maxLen):RB w ca cs:=
 ⟨z,λ_=>by
  let⟨b,o,arr,bd,e,a,d⟩:=h
  exact⟨b,o,e,de a,λi hi=>⟨_,_,f _ (fp hi),by simp only[World.cell?,a];exact(d i hi).1,by simp only[World.cell?,a];exact(d i hi).2⟩⟩⟩
variable{M:Nat->Nat}
def _root_.Go.di.s4.aJ{cs:List (Ψ×Nat)}(h:s4 w ca cs M)(j:cs.length<=12)(f:∀c∈cs,c.1.size<=maxLen)(g:∀i,1<=M i/\M i<=5):Si w ca cs:=
 ⟨z,λ_=>by
  let⟨b,o,e,d,a⟩:=h
  exact⟨b,o,e,d,λi hi=>⟨_,_,_,f _ (fp hi),(a i hi).1,(a i hi).2.1,(a i hi).2.2,z,by have:=(g i).2;omega⟩⟩⟩
structure nS (w:Γ) (base:Nat) (v:Φ) (k:Nat) (b8 M:Nat->Nat) (bQ:Nat->Nat->Nat):Prop where
 row:w.ownsRow base 107 1 v k ((List.range k).map λs=>.slice (some ⟨b8 s,0,none⟩) (M s+1) (M s+1))
 tJ:∀s,s<k->base<=b8 s/\kg w (b8 s) (M s+1) (bQ s)
 inj:∀s t,s<k->t<k->s≠t->b8 s≠b8 t
variable{w':Γ}{e:TypeId}{v:Φ}{n:Nat}{aH:List Φ}
def Es{base:Nat}{size:Nat}(h:w.ownsRow base e size v n aH)(G:β w w'):w'.ownsRow base e size v n aH:=by exact aca
variable{t:TypeId}{b:Nat}{cs:Ω}
def U1{base:Nat}{size:Nat}(h:w.ownsRow base e size v n aH){fr:Nat×Nat}(G:w.heap[b]? =some (.cells cs t fr))(aj:t≠e):some b≠v.ownBlock:=by exact an'
variable{k:Nat}{bQ:Nat->Nat->Nat}
def nS.K{base:Nat}{b8:Nat->Nat}(h:nS w base v k b8 M bQ)(G:β w w'):nS w' base v k b8 M bQ:=
 ⟨Es h.row G,λs a=>⟨(h.tJ s a).1,(h.tJ s a).2.K (h.tJ s a).2.1 G⟩,h.inj⟩
def nS.mono{base:Nat}{b8:Nat->Nat}{b:Nat->Nat->Nat}(h:nS w base v k b8 M bQ)(hu:∀s i,s<k->i<M s+1->bQ s i<=b s i):nS w base v k b8 M b:=
 ⟨h.row,λs a=>⟨(h.tJ s a).1,(h.tJ s a).2.mono λi hi=>hu s i a hi⟩,h.inj⟩
def nS.gX{base:Nat}{b8:Nat->Nat}(h:nS w base v k b8 M bQ)(af:0<k):∃g cap,v=.slice (some ⟨g,0,none⟩) k cap/\base<=g/\g<w/\∀s,s<k->w ⟨g,s,none⟩=some (.slice (some ⟨b8 s,0,none⟩) (M s+1) (M s+1)):=by
 let⟨⟨f,a⟩,_,_⟩:=h;rcases a with⟨a,i⟩|⟨g,cap,d,ak,c,bv,j,l,m,e⟩
 omega
 .refine⟨g,cap,ak,c,de bv,λs b=>?_⟩;have:(d.toList.take (k*1))[s]? =some (Value.slice (some ⟨b8 s,0,none⟩) (M s+1) (M s+1)):=by rw[e];simp[b]
  exact aol
def nS.set{base:Nat}{b8:Nat->Nat}{b:Nat->Nat->Nat}(h:nS w base v k b8 M bQ)(hu:∀s i,s<k->i<M s+1->bQ s i<=b s i){s j m:Nat}{t:Ψ}(c:s<k)(f:j<M s+1)(aj:AY t m)(n:m<=b s j):nS (w.setCell ⟨b8 s,j,none⟩ (.string t)) base v k b8 M b:=by
 let⟨_,cs,r,_⟩:=(h.tJ s c).2;have bO:=U1 h.row r al;refine⟨⟨h.row.1,?_⟩,λq a=>⟨(h.tJ q a).1,?_⟩,h.inj⟩;rcases h.row.2 with d|⟨g,cap,cq,ak,aI,bv,cI⟩;exact .inl d;exact ape
 by_cases e:q=s;subst e;exact((h.tJ q a).2.mono λi hi=>hu q i a hi).set f aj n;have H:=((h.tJ q a).2.mono λi hi=>hu q i a hi);let⟨af,o,I,l⟩:=H;exact⟨by simpa using af,o,by rw[ht _ _ _ _ (h.inj q s a c e)];exact I,l⟩
def kg.as4(w:Γ)(n:Nat)(bQ:Nat->Nat):kg (w.alloc (.cells (Array.replicate n (.string ⟨#[]⟩)) 106)) w n bQ:=
 ⟨aq,Array.replicate n (.string ⟨#[]⟩),c7 w _,aq,λi hi=>⟨⟨#[]⟩,0,by simp[hi],⟨rfl,al,λ_=>rfl⟩,dh _⟩⟩
variable{a:Γ}{i:Φ}{o:Obj}
def nS.next{base:Nat}{b8:Nat->Nat}(h:nS w base v k b8 M bQ)(G:base<=w.heap.size) (m:a.ownsRow base 107 1 i (k+1) (((List.range k).map λs=>Value.slice (some ⟨b8 s,0,none⟩) (M s+1) (M s+1))++[.slice (some ⟨w,0,none⟩) (M k+1) (M k+1)])) (ar:((w.alloc (.cells (Array.replicate (M k+1) (.string ⟨#[]⟩)) 106)).alloc o).grownBy a v.ownBlock):nS a base i (k+1) (λs=>if s=k then w.heap.size else b8 s) M bQ:=by
 have g:β w ((w.alloc (.cells (Array.replicate (M k+1) (.string ⟨#[]⟩)) 106)).alloc o):=((bl _ _).alloc (aY _) _).alloc aq _;have hN:∀(b:Nat) (cs:Ω) (fr:Nat×Nat),((w.alloc (.cells (Array.replicate (M k+1) (.string ⟨#[]⟩)) 106)).alloc o).heap[b]? =some (Obj.cells cs 106 fr)->a.heap[b]? =some (Obj.cells cs 106 fr):=λb cs fr c=>by have:=U1 (Es h.row g) c al;rw[ar.block b (de c) this];exact c
 refine⟨?_,λs V=>?_,λs t V aj l=>?_⟩
 .rw[Li,yO];have ak:(List.range k).map (λs=>Value.slice (some ⟨if s=k then w.heap.size else b8 s,0,none⟩) (M s+1) (M s+1))=(List.range k).map (λs=>Value.slice (some ⟨b8 s,0,none⟩) (M s+1) (M s+1)):=by exact aor
  rw[ak];simpa using m
 by_cases e:s=k;subst e;rw[ci rfl];refine⟨G,?_⟩;let⟨af,cs,H,I⟩:=(kg.as4 w (M s+1) (bQ s)).K (B:=w.heap.size+1) z (w':=(w.alloc (.cells (Array.replicate (M s+1) (.string ⟨#[]⟩)) 106)).alloc o) ((bl _ _).alloc aq _);exact⟨i4 af ar.size,cs,hN _ _ _ H,I⟩;rw[bo e];let⟨j,d⟩:=h.tJ s z;let⟨af,cs,H,I⟩:=d.K d.1 g;exact⟨j,i4 af ar.size,cs,hN _ _ _ H,I⟩;have lt:∀s,s<k->b8 s<w.heap.size:=λs V=>(h.tJ s V).2.1;by_cases e:s=k;rw[ci e,bo z];have:=lt t z;omega;rw[bo e];by_cases f:t=k;rw[ci f];have:=lt s z;omega;rw[bo f];exact h.inj s t z z l
def aDe:(prog.info? 107).map (λi=>(i.zero,i.size,i.bytes))=some (some (.slice none 0 0),1,24):=aw
def aE6(m:Nat)(H:1<=m)(a:m<=5):∀(w:Γ),(Instr.makeSlice 107 (.int .i64 ((m:Int)+1)) (.int .i64 ((m:Int)+1))).run prog w=.ok (.slice (some ⟨w,0,none⟩) (m+1) (m+1)) (w.alloc (.cells (Array.replicate (m+1) (.string ⟨#[]⟩)) 106)):=by
 have:m=1∨m=2∨m=3∨m=4∨m=5:=z;rcases this with rfl|rfl|rfl|rfl|rfl
 all_goals(intro w;kernel_rfl)
def aDi:(prog.info? 141).map (λi=>(i.zero,i.size,i.bytes))=some (some (.agg #[.string ⟨#[]⟩,.int .i64 0]),2,24):=aw
def aDh:(prog.info? 60).map (λi=>(i.zero,i.size,i.bytes))=some (some (.agg #[.string ⟨#[]⟩,.int .i64 0,.int .i64 0]),3,32):=aw
def amZ:(prog.info? 101).map (λi=>(i.zero,i.size,i.bytes))=some (some (.agg #[.int .i64 0,.string ⟨#[]⟩,.string ⟨#[]⟩,.slice none 0 0]),4,64):=aw
def aDf:(prog.info? 3).map (λi=>(i.zero,i.size,i.bytes))=some (some (.int .i64 0),1,8):=aw
def sn:List (Ψ×Nat)->List Φ
 |[]=>[]
 |c::l=>.string c.1::.int .i64 c.2::sn l
def rY:List (Ψ×Nat)->(Nat->Nat)->Nat->List Φ
 |[],_,_=>[]
 |c::l,M,k=>.string c.1::.int .i64 c.2::.int .i64 (M k)::rY l M (k+1)
def s5:List Nat->List Φ
 |[]=>[]
 |a::l=>.int .i64 a::s5 l
abbrev vt:=bD×Nat×Nat×Nat
def u_:List vt->List Φ
 |[]=>[]
 |e::l=>.int .i64 e.1.h::.string e.1.op::.string e.1.aO::.slice (some ⟨e.2.1,e.2.2.1,none⟩) e.1.args.length e.2.2.2::u_ l
def aiQ:∀l,(sn l).length=l.length*2
 |[]=>rfl
 |c::l=>by simp[sn,aiQ l];omega
def asw(M:Nat->Nat):∀l k,(rY l M k).length=l.length*3
 |[],_=>rfl
 |c::l,k=>by simp[rY,asw M l];omega
def aif:∀l,(s5 l).length=l.length
 |[]=>rfl
 |c::l=>by simp[s5,aif l]
def aru:∀a b,u_ (a++b)=u_ a++u_ b
 |[],b=>rfl
 |e::a,b=>by simp[u_,aru a b]
def aiR:∀l,∀u∈sn l,u.oneCell'=true
 |[],u,h=>by simp[sn]at h
 |c::l,u,h=>by simp only[sn,gJ]at h;(rcases h with rfl|rfl|h);{rfl};{rfl};{exact aiR l u h}
def asx(M:Nat->Nat):∀l k,∀u∈rY l M k,u.oneCell'=true
 |[],k,u,h=>by simp[rY]at h
 |c::l,k,u,h=>by simp only[rY,gJ]at h;(rcases h with rfl|rfl|rfl|h);{rfl};{rfl};{rfl};{exact asx M l _ u h}
def aig:∀l,∀u∈s5 l,u.oneCell'=true
 |[],u,h=>by simp[s5]at h
 |c::l,u,h=>by simp only[s5,gJ]at h;(rcases h with rfl|h);{rfl};{exact aig l u h}
def Ys:∀(l:List (Ψ×Nat)) (i:Nat) (hi:i<l),(sn l)[i*2]? =some (.string l[i].1)/\(sn l)[i*2+1]? =some (.int .i64 l[i].2)
 |c::l,0,_=>⟨rfl,rfl⟩
 |c::l,i+1,hi=>by have:=Ys l i (by simpa using hi);rw[show(i+1)*2=i*2+1+1 by omega];simpa[sn]using this
def adK(M:Nat->Nat):∀(l:List (Ψ×Nat)) (k i:Nat) (hi:i<l),(rY l M k)[i*3]? =some (.string l[i].1)/\(rY l M k)[i*3+1]? =some (.int .i64 l[i].2)/\(rY l M k)[i*3+2]? =some (.int .i64 (M (k+i)))
 |c::l,k,0,_=>⟨rfl,rfl,rfl⟩
 |c::l,k,i+1,hi=>by have:=adK M l (k+1) i (by simpa using hi);rw[show(i+1)*3=i*3+1+1+1 by omega,show k+(i+1)=k+1+i by omega];simpa[rY]using this
def XU:∀(l:List Nat) (i:Nat) (hi:i<l),(s5 l)[i]? =some (.int .i64 l[i])
 |c::l,0,_=>rfl
 |c::l,i+1,hi=>by simpa[s5]using XU l i (by simpa using hi)
def arv:∀(l:List vt) (i:Nat) (hi:i<l),(u_ l)[i*4]? =some (.int .i64 l[i].1.h)/\(u_ l)[i*4+1]? =some (.string l[i].1.op)/\(u_ l)[i*4+2]? =some (.string l[i].1.aO)/\(u_ l)[i*4+3]? =some (.slice (some ⟨l[i].2.1,l[i].2.2.1,none⟩) l[i].1.args.length l[i].2.2.2)
 |e::l,0,_=>⟨rfl,rfl,rfl,rfl⟩
 |e::l,i+1,hi=>by have:=arv l i (by simpa using hi);rw[show(i+1)*4=i*4+1+1+1+1 by omega];simpa[u_]using this
def LG(w:Γ)(b o:Nat)(l:List Φ):Prop:=∀j u,l[j]? =some u->w.cell? ((⟨b,o,none⟩:Addr).add j)=some u
def XN(b o j:Nat):(⟨b,o,none⟩:Addr).add j=⟨b,o+j,none⟩:=by unfold Addr.add;split<;>simp_all
def LG.cons{w:Γ}{b o:Nat}{v:Φ}{l:List Φ}(h:w ⟨b,o,none⟩=some v)(c:LG w b (o+1) l):LG w b o (v::l):=λj u a=>by
 cases j with
 |zero=>simp at a;subst a;rw[XN];exact h
 |succ j=>
  have:=c j u (by simpa using a)
  rw[XN]at this|-
  rw[show o+(j+1)=o+1+j by omega]
  exact this
def arn{w:Γ}{b:Nat}:∀(l:List (Ψ×Nat)) (o:Nat),(∀i (hi:i<l.length),w ⟨b,o+i*2,none⟩=some (.string l[i].1)/\w ⟨b,o+i*2+1,none⟩=some (.int .i64 l[i].2))->LG w b o (sn l)
 |[],o,_=>λj u a=>by simp[sn]at a
 |c::l,o,h=>.cons (by have:=(h 0 (CP _)).1;simp only[vh,hY]at this;exact this) (.cons (by have:=(h 0 (CP _)).2;simp only[vh,hY]at this;exact this) (arn l _ λi hi=>by
  have:=h (i+1) (Wn hi)
  rw[show o+1+1+i*2=o+(i+1)*2 by omega]
  exact this))
def aro{w:Γ}{b:Nat}(M:Nat->Nat):∀(l:List (Ψ×Nat)) (k o:Nat),(∀i (hi:i<l.length),w ⟨b,o+i*3,none⟩=some (.string l[i].1)/\w ⟨b,o+i*3+1,none⟩=some (.int .i64 l[i].2)/\w ⟨b,o+i*3+2,none⟩=some (.int .i64 (M (k+i))))->LG w b o (rY l M k)
 |[],k,o,_=>λj u a=>by simp[rY]at a
 |c::l,k,o,h=>.cons (by have:=(h 0 (CP _)).1;simp only[vh,hY]at this;exact this) (.cons (by have:=(h 0 (CP _)).2.1;simp only[vh,hY]at this;exact this) (.cons (by have:=(h 0 (CP _)).2.2;simp only[vh,hY]at this;exact this) (aro M l (k+1) _ λi hi=>by
  have:=h (i+1) (Wn hi)
  rw[show o+1+1+1+i*3=o+(i+1)*3 by omega,show k+1+i=k+(i+1) by omega]
  exact this)))
def arm{w:Γ}{b:Nat}:∀(l:List Nat) (o:Nat),(∀i (hi:i<l.length),w ⟨b,o+i,none⟩=some (.int .i64 l[i]))->LG w b o (s5 l)
 |[],o,_=>λj u a=>by simp[s5]at a
 |c::l,o,h=>.cons (by have:=h 0 (CP _);simp only[hY]at this;exact this) (arm l _ λi hi=>by
  have:=h (i+1) (Wn hi)
  rw[show o+1+i=o+(i+1) by omega]
  exact this)
def RJ{base:Nat}{size:Nat}(h:w.ownsRow base e size v n aH)(af:v≠ .slice none 0 0):∃g cap cq,v=.slice (some ⟨g,0,none⟩) n cap/\base<=g/\w.heap[g]? =some (.cells cq e (0,0))/\n<=cap/\cq.size=cap*size/\∀i,i<n*size->cq[i]? =aH[i]? :=by exact anY
def vx(w:Γ)(b t:Nat):Prop:=∃(arr:Ω) (bd:Nat×Nat),w.heap[b]? =some (Obj.cells arr t bd)
def A7(w:Γ)(a:Θ)(ss:List (Ψ×Nat))(M:Nat->Nat):Prop:=∃b o,a=some ⟨b,o,none⟩/\vx w b 60/\∀i (hi:i<ss.length),w ⟨b,o+i*3,none⟩=some (.string ss[i].1)/\w ⟨b,o+i*3+1,none⟩=some (.int .i64 ss[i].2)/\w ⟨b,o+i*3+2,none⟩=some (.int .i64 (M i))
def Lo(w:Γ)(b:Θ)(l:List Nat):Prop:=0<l.length->∃a c,b=some ⟨a,c,none⟩/\vx w a 3
def A5(w:Γ)(ra:Θ)(rs:List bD):Prop:=∃b o,ra=some ⟨b,o,none⟩/\vx w b 101/\∀i (hi:i<rs.length),∃a ac,II w b (o+i*4) rs[i] a ac/\Lo w a rs[i].args/\rs[i].args.length<=ac
def xR(S:c8)(M:Nat->Nat)(rs:List bD)(w:Γ)(F:Ω):Prop:=
 ∃ca cc b a ra rc,F=#[.string S.nm,.int .i64 S.dk,.slice ca S.bB.length cc,.slice b S.aJ.length a,.slice ra rs.length rc,.int .i64 S.an]/\jy w ca S.bB/\A7 w b S.aJ M/\A5 w ra rs/\S.bB.length<=cc/\S.aJ.length<=a/\rs.length<=rc
def yU(w:Γ)(e:vt):Prop:=e.1.args.length<=e.2.2.2/\∃arr bd,w.heap[e.2.1]? =some (.cells arr 3 bd)/\∀i (hi:i<e.1.args.length),arr[e.2.2.1+i]? =some (.int .i64 e.1.args[i])
structure sN (S:c8) (M:Nat->Nat) (rs:List bD) (base:Nat) (w:Γ) (gN oq fU:Φ) (bU:List vt):Prop where
 c:w.ownsRow base 141 2 gN S.bB.length (sn S.bB)
 s:w.ownsRow base 60 3 oq S.aJ.length (rY S.aJ M 0)
 r:w.ownsRow base 101 4 fU bU.length (u_ bU)
 e:bU.map (·.1)=rs
 a:∀e∈bU,yU w e
structure vi (w:Γ) (aF no:Ω) (wr:Γ):Prop where
 b:Below w.heap.size w wr
 g:wr.heap[w.heap.size]? =some (.cells aF 29 (0,0))
 q:wr.heap[w.heap.size+1]? =some (.cells #[.string ⟨#[]⟩,.int .i64 0,.slice none 0 0,.slice none 0 0,.slice none 0 0,.int .i64 0] 29 (0,0))
 o:wr.heap[w.heap.size+1+1]? =some (.cells no 29 (0,0))
variable{wr:Γ}
def vi.K{a b:Ω}(h:vi w a b wr)(G:β wr w'):vi w a b w':=
 ⟨b3 h.b G,by rw[G.block _ (de h.g)];exact h.g,by rw[G.block _ (de h.q)];exact h.q,by rw[G.block _ (de h.o)];exact h.o⟩
def vi.gZ{a b:Ω}(h:vi w a b wr)(i:Nat)(u:Φ):vi w a (b.setIfInBounds i u) (wr.setCell ⟨w.heap.size+1+1,i,none⟩ u):=
 ⟨h.b.setCell bw _,by rw[ht _ _ _ _ (by show w.heap.size≠w.heap.size+1+1;omega)];exact h.g,by rw[ht _ _ _ _ (by show w.heap.size+1≠w.heap.size+1+1;omega)];exact h.q,h' h.o _⟩
def BU{base:Nat}{size:Nat}(h:w.ownsRow base e size v n aH){fr:Nat×Nat}(G:w.heap[b]? =some (.cells cs t fr))(aj:t≠e)(i:Nat)(u:Φ):(w.setCell ⟨b,i,none⟩ u).ownsRow base e size v n aH:=by
 have bO:=U1 h G aj;refine⟨h.1,?_⟩;rcases h.2 with a|⟨g,cap,cq,ak,aI,bv,cI⟩
 exact .inl a;exact ape
def aih{e:vt}(h:yU w e){t:Nat}{fr:Nat×Nat}(G:w.heap[b]? =some (.cells cs t fr))(aj:t≠3)(i:Nat)(u:Φ):yU (w.setCell ⟨b,i,none⟩ u) e:=by let⟨af,arr,bd,H,I⟩:=h;refine⟨af,arr,bd,?_,I⟩;rw[ht _ _ _ _ (λak=>?_)];exact H;rw[ak,G]at H;cases H;exact aj rfl
def yU.K{e:vt}(h:yU w e)(G:β w w'):yU w' e:=by let⟨af,arr,bd,H,I⟩:=h;exact⟨af,arr,bd,by rw[G.block _ (de H)];exact H,I⟩
variable{c d:Φ}
def sN.K{S:c8}{rs:List bD}{base:Nat}{b:Φ}{a:List vt}(h:sN S M rs base w c d b a)(G:β w w'):sN S M rs base w' c d b a:=
 ⟨Es h.c G,Es h.s G,Es h.r G,h.e,λe aP=>(h.a e aP).K G⟩
def xp(w:Γ)(base:Nat)(e:TypeId)(size:Nat)(G:base<=w.heap.size):(w.alloc (.cells #[] e)).ownsRow base e size (.slice (some ⟨w,0,none⟩) 0 0) 0 []:=
 ⟨aq,.inr ⟨w.heap.size,0,#[],rfl,G,c7 _ _,aY _,dh _,aq,aq⟩⟩
def G3{base:Nat}{size:Nat}(h:w.ownsRow base e size v n aH)(af:v≠ .slice none 0 0):∃g cap,v=.slice (some ⟨g,0,none⟩) n cap:=by
 rcases h.2 with⟨ak,_⟩|⟨g,cap,a,ak,_⟩
 exact absurd ak af;exact⟨g,cap,ak⟩
def Jp(ar:(w.alloc (.cells #[] e)).grownBy w' (Value.slice (some ⟨w,0,none⟩) 0 0).ownBlock):β w w':=
 ((bl _ _).alloc (aY _) _).grown ar aq (λg a=>by simp[Value.ownBlock]at a;omega)
def aqe{base:Nat}{size:Nat}(h:w.ownsRow base e size v n aH):∀b,v.ownBlock=some b->∃cs fr,w.heap[b]? =some (.cells cs e fr)/\base<=b:=by
 intro b G;rcases h.2 with⟨c,_⟩|⟨g,cap,i,ak,a,d,f⟩
 subst c;simp[Value.ownBlock]at G;subst ak;simp[Value.ownBlock]at G;subst G;exact⟨_,_,d,a⟩
variable{row:Option Nat}
def NJ(ar:(w.alloc o).grownBy w' row)(c:∀b,row=some b->∃cs fr,w.heap[b]? =some (.cells cs 101 fr)){fr:Nat×Nat}(G:w.heap[b]? =some (.cells cs t fr))(aj:t≠101):w'.heap[b]? =some (.cells cs t fr):=by rw[ar.block b (by have:=de G;simp;omega) (λe=>?_),uC _ _ (de G)];exact G;let⟨f,d,a⟩:=c b e.symm;rw[G]at a;cases a;exact aj rfl
def aqc(ar:(w.alloc o).grownBy w' row)(d:∀b,row=some b->∃cs fr,w.heap[b]? =some (.cells cs 101 fr)){base:Nat}{size:Nat}(h:w.ownsRow base e size v n aH)(aP:e≠101):w'.ownsRow base e size v n aH:=by
 refine⟨h.1,?_⟩;rcases h.2 with c|⟨g,cap,j,ak,a,f,i⟩
 exact .inl c;exact .inr ⟨g,cap,j,ak,a,NJ ar d f aP,i⟩
def vi.grown{f:Γ}{d g:Ω}(h:vi w d g a)(ar:(a.alloc o).grownBy f row)(e:∀b,row=some b->∃cs fr,a.heap[b]? =some (.cells cs 101 fr)/\w.heap.size<=b):vi w d g f:=by
 have c:∀b,row=some b->∃cs fr,a.heap[b]? =some (.cells cs 101 fr):=λb G=>by let⟨cs,fr,H,_⟩:=e b G;exact⟨cs,fr,H⟩
 exact⟨(h.b.alloc h.b.size o).grown ar (by have:=h.b.size;simp;omega) (λb G=>by let⟨_,_,_,H⟩:=e b G;exact H),NJ ar c h.g al,NJ ar c h.q al,NJ ar c h.o al⟩
variable{f:Φ}
def sN.next{S:c8}{l:List bD}{base:Nat}{g:Φ}{a:List vt}(h:sN S M l base w g i c a)(e:vt)(m:yU w e)(ar:(w.alloc o).grownBy w' c.ownBlock)(k:w'.ownsRow base 101 4 f (a.length+1) (u_ a++u_ [e])):sN S M (l++[e.1]) base w' g i f (a++[e]):=by
 have d:∀b,c.ownBlock=some b->∃cs fr,w.heap[b]? =some (.cells cs 101 fr):=λb G=>by let⟨cs,fr,H,_⟩:=aqe h.r b G;exact⟨cs,fr,H⟩
 have aL:∀q,yU w q->yU w' q:=λq ⟨af,arr,bd,H,I⟩=>⟨af,arr,bd,NJ ar d H al,I⟩;refine⟨aqc ar d h.c al,aqc ar d h.s al,?_,by simp[h.e],λq j=>?_⟩;rw[aru];simpa using k;rcases kx.1 j with H|H;exact aL q (h.a q H);simp at H;subst H;exact aL _ m
def sN.Hc{S:c8}{l:List bD}{base:Nat}{a:List vt}(h:sN S M l base w d f c a){fr:Nat×Nat}(G:w.heap[b]? =some (.cells cs 29 fr))(i:Nat)(u:Φ):sN S M l base (w.setCell ⟨b,i,none⟩ u) d f c a:=
 ⟨BU h.c G al i u,BU h.s G al i u,BU h.r G al i u,h.e,λe aP=>aih (h.a e aP) G al i u⟩
def awX{base g cap:Nat}{r:bD}(h:w.ownsRow base 3 1 (.slice (some ⟨g,0,none⟩) n cap) n (s5 r.args))(d:n=r.args.length):yU w (r,g,0,cap):=by let⟨f,j,b,ak,_,a,e,_,c⟩:=RJ h aq;cases ak;refine⟨by simp only;omega,b,_,a,λi hi=>?_⟩;simp only at hi|-;rw[gy,c i z];exact XU r.args i hi
def aJf{S:c8}{l:List bD}{base:Nat}{j e:Φ}{c:List vt}(h:sN S M l base w f j e c){z0 n o z3 z4 z5:Φ}(G:w.heap[b]? =some (.cells #[z0,n,o,z3,z4,z5] 29 (0,0)))(a0 bZ cz a3 a4 a5:Φ): sN S M l base ((((((w.setCell ⟨b,0,none⟩ a0).setCell ⟨b,1,none⟩ bZ).setCell ⟨b,2,none⟩ cz).setCell ⟨b,3,none⟩ a3).setCell ⟨b,4,none⟩ a4).setCell ⟨b,5,none⟩ a5) f j e c/\((((((w.setCell ⟨b,0,none⟩ a0).setCell ⟨b,1,none⟩ bZ).setCell ⟨b,2,none⟩ cz).setCell ⟨b,3,none⟩ a3).setCell ⟨b,4,none⟩ a4).setCell ⟨b,5,none⟩ a5).heap[b]? =some (.cells #[a0,bZ,cz,a3,a4,a5] 29 (0,0)):=by have d:=h' (i:=0) G a0;have a:=h' (i:=1) d bZ;have cF:=h' (i:=2) a cz;have g:=h' (i:=3) cF a3;have k:=h' (i:=4) g a4;have m:=h' (i:=5) k a5;exact⟨(((((h.Hc G 0 a0).Hc d 1 bZ).Hc a 2 cz).Hc cF 3 a3).Hc g 4 a4).Hc k 5 a5,m⟩
def X1{B:Nat}(h:Below B a w)(G:B<=b)(a0 bZ cz a3 a4 a5:Φ):Below B a ((((((w.setCell ⟨b,0,none⟩ a0).setCell ⟨b,1,none⟩ bZ).setCell ⟨b,2,none⟩ cz).setCell ⟨b,3,none⟩ a3).setCell ⟨b,4,none⟩ a4).setCell ⟨b,5,none⟩ a5):=
 (((((h.setCell (p:=⟨b,0,none⟩) G a0).setCell (p:=⟨b,1,none⟩) G bZ).setCell (p:=⟨b,2,none⟩) G cz).setCell (p:=⟨b,3,none⟩) G a3).setCell (p:=⟨b,4,none⟩) G a4).setCell (p:=⟨b,5,none⟩) G a5
def arX:(prog.info? 29).map (·.size)=some 6:=aw
def azT(S:c8)(b c a:Φ):Ω:=#[.string S.nm,.int .i64 S.dk,b,c,a,.int .i64 S.an]
def I4(S:c8)(bt:rx S)(w:Γ)(M:Nat->Nat)(rs:List bD)(P:rs.length<=40)(N_:∀r∈rs,r.args.length<=3)(ca be ra:Θ)(cc f rc:Nat)(eD:jy w ca S.bB)(fB:s4 w be S.aJ M)(dE:wH w ra rs): Calls prog 20 #[.agg #[.string S.nm,.int .i64 S.dk,.slice ca S.bB.length cc,.slice be S.aJ.length f,.slice ra rs.length rc,.int .i64 S.an]] w λe w'=>(∃gN oq C a,e=.returned (.agg (azT S gN oq C))/\sN S M rs w.heap.size w' gN oq C a)/\β w w':=by
 obtain⟨ar,an,l2,mm,mn⟩:=iz aDi;obtain⟨ao,aj,th,aV,bu⟩:=iz aDh;obtain⟨Ue,TL,lz,jF,m8⟩:=iz amZ;obtain⟨jg,TM,TA,TB,DR⟩:=iz aDf;have aA:=bt.bB;have sx:=bt.aJ;obtain⟨d,j,ay,ax,rfl,lA,dt⟩:=eD;obtain⟨bS,g,rfl,j3,kf⟩:=fB;obtain⟨rb,aK,rfl,iR,kU⟩:=dE;go_enter func20,ntmps20;go_upto_region 2 with fail
 have q:vi w #[.string S.nm,.int .i64 S.dk,.slice (some ⟨d,j,none⟩) S.bB.length cc,.slice (some ⟨bS,g,none⟩) S.aJ.length f,.slice (some ⟨rb,aK,none⟩) rs.length rc,.int .i64 S.an] #[.string S.nm,.int .i64 S.dk,.slice (some ⟨d,j,none⟩) S.bB.length cc,.slice (some ⟨bS,g,none⟩) S.aJ.length f,.slice (some ⟨rb,aK,none⟩) rs.length rc,.int .i64 S.an] (((w.alloc (.cells #[.string S.nm,.int .i64 S.dk,.slice (some ⟨d,j,none⟩) S.bB.length cc,.slice (some ⟨bS,g,none⟩) S.aJ.length f,.slice (some ⟨rb,aK,none⟩) rs.length rc,.int .i64 S.an] 29)).alloc (.cells #[.string ⟨#[]⟩,.int .i64 0,.slice none 0 0,.slice none 0 0,.slice none 0 0,.int .i64 0] 29)).alloc (.cells #[.string S.nm,.int .i64 S.dk,.slice (some ⟨d,j,none⟩) S.bB.length cc,.slice (some ⟨bS,g,none⟩) S.aJ.length f,.slice (some ⟨rb,aK,none⟩) rs.length rc,.int .i64 S.an] 29)):=by have cC:=jt w (.cells #[.string S.nm,.int .i64 S.dk,.slice (some ⟨d,j,none⟩) S.bB.length cc,.slice (some ⟨bS,g,none⟩) S.aJ.length f,.slice (some ⟨rb,aK,none⟩) rs.length rc,.int .i64 S.an] 29);have dC:=jt (w.alloc (.cells #[.string S.nm,.int .i64 S.dk,.slice (some ⟨d,j,none⟩) S.bB.length cc,.slice (some ⟨bS,g,none⟩) S.aJ.length f,.slice (some ⟨rb,aK,none⟩) rs.length rc,.int .i64 S.an] 29)) (.cells #[.string ⟨#[]⟩,.int .i64 0,.slice none 0 0,.slice none 0 0,.slice none 0 0,.int .i64 0] 29);exact ab'
 generalize (((w.alloc (.cells #[.string S.nm,.int .i64 S.dk,.slice (some ⟨d,j,none⟩) S.bB.length cc,.slice (some ⟨bS,g,none⟩) S.aJ.length f,.slice (some ⟨rb,aK,none⟩) rs.length rc,.int .i64 S.an] 29)).alloc (.cells #[.string ⟨#[]⟩,.int .i64 0,.slice none 0 0,.slice none 0 0,.slice none 0 0,.int .i64 0] 29)).alloc (.cells #[.string S.nm,.int .i64 S.dk,.slice (some ⟨d,j,none⟩) S.bB.length cc,.slice (some ⟨bS,g,none⟩) S.aJ.length f,.slice (some ⟨rb,aK,none⟩) rs.length rc,.int .i64 S.an] 29))=O at q|-;have aI:O ⟨w.heap.size,2,none⟩=some (.slice (some ⟨d,j,none⟩) S.bB.length cc):=aN 2 q.g;have b7:=de q.g;have iS:=de q.o;have Df:=A (arn (w:=O.alloc (.cells #[] 141)) (b:=d) S.bB j λi hi=>by
  have aa:(O.alloc (.cells #[] 141)).heap[d]? =some (.cells ay 141 ax):=by
   rw[(q.b.alloc q.b.size _).block d (de lA)];exact lA
  simp only[World.cell?,aa]
  exact dt i hi)
 go_upto_region 3 with(at_builtin;refine lP _ rfl _ _ 25 rfl w.heap.size 141 ar _ 2 24 underlying25 an l2 mm mn rfl al (.slice (some ⟨O.heap.size,0,none⟩) 0 0) 0 [] rfl (xp O _ _ _ q.b.size) ⟨d,j,none⟩ S.bB.length cc (sn S.bB) rfl (aiQ _) Df.out (aiR _) (by unfold maxLen;omega) z (by have:=q.b.size;simp;omega) ?_;intro eq ap Y vP zT;rw[gy,vf]at Y;obtain⟨u,x,rfl⟩:=G3 Y (λe=>by have:=(zT.1 e).1;cases this);have ex:=Jp vP;have Q:=q.K ex;have c2:ap ⟨w.heap.size+1+1,2,none⟩=some (.slice (some ⟨d,j,none⟩) S.bB.length cc):=aN 2 Q.o;have hK:ap.frozen? ⟨w.heap.size+1+1,2,none⟩=false:=(by simp[World.frozen?,Q.o]))
 have F:=Q.gZ 2 (.slice (some ⟨u,0,none⟩) S.bB.length x);have ZP:=BU Y Q.o al 2 (.slice (some ⟨u,0,none⟩) S.bB.length x);have n:=F.b;clear Y vP zT c2 hK Q q Df ex aI b7 iS;generalize (ap.setCell ⟨w.heap.size+1+1,2,none⟩ (.slice (some ⟨u,0,none⟩) S.bB.length x))=w3 at F ZP n|-;have bv:w3 ⟨w.heap.size,3,none⟩=some (.slice (some ⟨bS,g,none⟩) S.aJ.length f):=aN 3 F.g;have b7:=de F.g;have iS:=de F.o;have ae:=A (aro (w:=w3.alloc (.cells #[] 60)) (b:=bS) M S.aJ 0 g λi hi=>by
  rw[(n.alloc n.size _).cell j3,(n.alloc n.size _).cell j3,(n.alloc n.size _).cell j3,gy]
  exact kf i hi)
 go_upto_region 4 with(at_builtin;refine lP _ rfl _ _ 26 rfl w.heap.size 60 ao _ 3 32 underlying26 aj th aV bu rfl al (.slice (some ⟨w3.heap.size,0,none⟩) 0 0) 0 [] rfl (xp w3 _ _ _ n.size) ⟨bS,g,none⟩ S.aJ.length f (rY S.aJ M 0) rfl (asw _ _ _) ae.out (asx _ _ _) (by unfold maxLen;omega) z (by have:=n.size;simp;omega) ?_;intro v4 H W ah ai;rw[gy,vf]at W;obtain⟨l,m,rfl⟩:=G3 W (λe=>by have:=(ai.1 e).1;cases this);have jx:=Jp ah;have s:=F.K jx;have c4:H ⟨w.heap.size+1+1,3,none⟩=some (.slice (some ⟨bS,g,none⟩) S.aJ.length f):=aN 3 s.o;have wW:H.frozen? ⟨w.heap.size+1+1,3,none⟩=false:=(by simp[World.frozen?,s.o]);have c5:H ⟨w.heap.size+1+1,4,none⟩=some (.slice (some ⟨rb,aK,none⟩) rs.length rc):=aN 4 s.o;have f5:H.frozen? ⟨w.heap.size+1+1,4,none⟩=false:=(by simp[World.frozen?,s.o]))
 have zG:=(s.gZ 3 (.slice (some ⟨l,0,none⟩) S.aJ.length m)).gZ 4 (.slice none 0 0);have ZQ:=BU (BU (Es ZP jx) s.o al 3 (.slice (some ⟨l,0,none⟩) S.aJ.length m)) (s.gZ 3 (.slice (some ⟨l,0,none⟩) S.aJ.length m)).o al 4 (.slice none 0 0);have yg:=BU (BU W s.o al 3 (.slice (some ⟨l,0,none⟩) S.aJ.length m)) (s.gZ 3 (.slice (some ⟨l,0,none⟩) S.aJ.length m)).o al 4 (.slice none 0 0);have zH:vi w #[.string S.nm,.int .i64 S.dk,.slice (some ⟨d,j,none⟩) S.bB.length cc,.slice (some ⟨bS,g,none⟩) S.aJ.length f,.slice (some ⟨rb,aK,none⟩) rs.length rc,.int .i64 S.an] #[.string S.nm,.int .i64 S.dk,(.slice (some ⟨u,0,none⟩) S.bB.length x),(.slice (some ⟨l,0,none⟩) S.aJ.length m),.slice none 0 0,.int .i64 S.an] ((H.setCell ⟨w.heap.size+1+1,3,none⟩ (.slice (some ⟨l,0,none⟩) S.aJ.length m)).setCell ⟨w.heap.size+1+1,4,none⟩ (.slice none 0 0)):=zG;clear zG;go_wp2;clear W ah ai c4 wW c5 f5 s F ae jx bv b7 iS ZP n;generalize ((H.setCell ⟨w.heap.size+1+1,3,none⟩ (.slice (some ⟨l,0,none⟩) S.aJ.length m)).setCell ⟨w.heap.size+1+1,4,none⟩ (.slice none 0 0))=br at zH ZQ yg|-;go_loopw [4] (λi wr=>∃(k:Nat) (C:Φ) (a:List vt),k<=rs.length/\i=.int .i64 k/\vi w #[.string S.nm,.int .i64 S.dk,.slice (some ⟨d,j,none⟩) S.bB.length cc,.slice (some ⟨bS,g,none⟩) S.aJ.length f,.slice (some ⟨rb,aK,none⟩) rs.length rc,.int .i64 S.an] #[.string S.nm,.int .i64 S.dk,(.slice (some ⟨u,0,none⟩) S.bB.length x),(.slice (some ⟨l,0,none⟩) S.aJ.length m),C,.int .i64 S.an] wr/\sN S M (rs.take k) w.heap.size wr (.slice (some ⟨u,0,none⟩) S.bB.length x) (.slice (some ⟨l,0,none⟩) S.aJ.length m) C a) (λi _=>rs.length-(RowKit.intOf i).toNat);case atStart=>exact⟨0,_,[],dh _,rfl,zH,ZQ,yg,ne _ _ _ _,aq,λe aP=>by cases aP⟩
 case round=>
  clear zH ZQ yg;obtain⟨k,C,a,aa,rfl,c,G⟩:=hrel;have df:a.length=k:=by have:=iY List.length G.e;simpa[Wl aa]using this
  subst df;have cI:wr ⟨w.heap.size,4,none⟩=some (.slice (some ⟨rb,aK,none⟩) rs.length rc):=aN 4 c.g;have b7:=de c.g;have iS:=de c.o;have av:=c.b.size;by_cases au:a.length<rs.length
  .obtain⟨aU,ac,P⟩:=kU a.length au;have K:=P.K iR c.b;obtain⟨y,B,rfl⟩:=P.cG;have o4:=N_ _ (fp au);have lw:=K.bi;have h3:=K.c1;have hK:=K.c2;have f3:=K.c3;have az:rb<wr.heap.size:=z;have m':(0:Int)<=(a.length:Int):=z;have l4:(a.length:Int)<rs.length:=z;have pa:(a.length:Int)<=1000:=z;have ad:=A (arm (w:=(wr.alloc (.cells #[.int .i64 rs[a.length].h,.string rs[a.length].op,.string rs[a.length].aO,.slice (some ⟨y,B,none⟩) rs[a.length].args.length ac] 101)).alloc (.cells #[] 3)) (b:=y) rs[a.length].args B λi hi=>by
    obtain⟨cQ,kX,la,jc,kc⟩:=P.args z
    cases la
    rw[((c.b.alloc av _).alloc bw _).cell jc]
    exact kc i hi)
   have N:=A c;have U:=A G;clear c G P K;go_upto_region 10 with(at_builtin;refine lP _ rfl _ _ 22 rfl w.heap.size 3 jg _ 1 8 pj TM TA TB DR rfl al (.slice (some ⟨wr.heap.size+1,0,none⟩) 0 0) 0 [] rfl (by have:=xp (wr.alloc (.cells #[.int .i64 rs[a.length].h,.string rs[a.length].op,.string rs[a.length].aO,.slice (some ⟨y,B,none⟩) rs[a.length].args.length ac] 101)) w.heap.size 3 1 bw;rw[jt]at this;exact this) ⟨y,B,none⟩ rs[a.length].args.length ac (s5 rs[a.length].args) rfl (by rw[aif];omega) ad.out (aig _) (by unfold maxLen;omega) z bw ?_;intro nM w7 X n4 T2;rw[gy,vf]at X;obtain⟨D,E,rfl⟩:=G3 X (λe=>by have:=(T2.1 e).1;cases this);have fJ:Below (wr.alloc (.cells #[.int .i64 rs[a.length].h,.string rs[a.length].op,.string rs[a.length].aO,.slice (some ⟨y,B,none⟩) rs[a.length].args.length ac] 101)).heap.size (wr.alloc (.cells #[.int .i64 rs[a.length].h,.string rs[a.length].op,.string rs[a.length].aO,.slice (some ⟨y,B,none⟩) rs[a.length].args.length ac] 101)) w7:=Jp (by rw[jt];exact n4);have L:w7.heap[wr.heap.size]? =some (.cells #[.int .i64 rs[a.length].h,.string rs[a.length].op,.string rs[a.length].aO,.slice (some ⟨y,B,none⟩) rs[a.length].args.length ac] 101 (0,0)):=(by rw[fJ.block _ aq];exact c7 _ _);have nZ:w7 ⟨wr.heap.size,3,none⟩=some (.slice (some ⟨y,B,none⟩) rs[a.length].args.length ac):=aN 3 L;have f7:w7.frozen? ⟨wr.heap.size,3,none⟩=false:=(by simp[World.frozen?,L]))
   have Gg:(w7.setCell ⟨wr.heap.size,3,none⟩ (.slice (some ⟨D,0,none⟩) rs[a.length].args.length E)).heap[wr.heap.size]? =some (.cells #[.int .i64 rs[a.length].h,.string rs[a.length].op,.string rs[a.length].aO,.slice (some ⟨D,0,none⟩) rs[a.length].args.length E] 101 (0,0)):=h' L _;have T:β wr (w7.setCell ⟨wr.heap.size,3,none⟩ (.slice (some ⟨D,0,none⟩) rs[a.length].args.length E)):=((((bl _ _).alloc (aY _) _).trans (fJ.mono aq)).setCell (aY _) _);have Ju:=aih (awX X rfl) L al 3 (.slice (some ⟨D,0,none⟩) rs[a.length].args.length E);clear L fJ X n4 T2 nZ f7 ad lw h3 hK f3 cI;generalize (w7.setCell ⟨wr.heap.size,3,none⟩ (.slice (some ⟨D,0,none⟩) rs[a.length].args.length E))=dc at Gg T Ju|-;have R:=N.out.K T;have ZS:=U.out.K T;obtain⟨va,o,rfl⟩:∃va o,C=.slice va a.length o:=by(rcases ZS.r.2 with⟨aS,b4⟩|⟨mH,cap,cq,ak,aI,_⟩);{rw[b4];exact⟨_,_,aS⟩};{exact⟨_,_,ak⟩}
   have gG:dc ⟨w.heap.size+1+1,4,none⟩=some (.slice va a.length o):=aN 4 R.o;obtain⟨fi,b_,cv,ek⟩:=YG Gg;have JZ:=R.b.size;have mX:=A R;have V:=A ZS;have RN:=A Ju;clear N U R ZS Ju Gg T;go_wp2_with (at_builtin;refine lP _ rfl _ _ 27 rfl w.heap.size 101 Ue _ 4 64 afk TL lz jF m8 rfl al (.slice va a.length o) a.length (u_ a) rfl (V.out.r.alloc _) ⟨dc.heap.size,0,none⟩ 1 1 [.int .i64 rs[a.length].h,.string rs[a.length].op,.string rs[a.length].aO,.slice (some ⟨D,0,none⟩) rs[a.length].args.length E] rfl rfl (r5 (cs:=#[.int .i64 rs[a.length].h,.string rs[a.length].op,.string rs[a.length].aO,.slice (some ⟨D,0,none⟩) rs[a.length].args.length E]) (t:=101) (fr:=(0,0)) (pW dc _)) (by simp[Value.oneCell']) (by unfold maxLen;omega) z bw ?_;intro v9 gI qS qQ aw;obtain⟨Z,zm,rfl⟩:=G3 qS (λe=>by have:=(aw.1 e).2;omega);have I:=A (mX.out.grown qQ (aqe V.out.r));have oZ:gI ⟨w.heap.size+1+1,4,none⟩=some (.slice va a.length o):=aN 4 I.out.o;have FW:gI.frozen? ⟨w.heap.size+1+1,4,none⟩=false:=(by simp[World.frozen?,I.out.o]));have af:=I.out.gZ 4 (.slice (some ⟨Z,0,none⟩) (a.length+1) zm);have ab:=(V.out.next (rs[a.length],D,0,E) RN.out qQ qS).Hc I.out.o 4 (.slice (some ⟨Z,0,none⟩) (a.length+1) zm);rw[<-r6 au]at ab;have ag:vi w #[.string S.nm,.int .i64 S.dk,.slice (some ⟨d,j,none⟩) S.bB.length cc,.slice (some ⟨bS,g,none⟩) S.aJ.length f,.slice (some ⟨rb,aK,none⟩) rs.length rc,.int .i64 S.an] #[.string S.nm,.int .i64 S.dk,(.slice (some ⟨u,0,none⟩) S.bB.length x),(.slice (some ⟨l,0,none⟩) S.aJ.length m),.slice (some ⟨Z,0,none⟩) (a.length+1) zm,.int .i64 S.an] (gI.setCell ⟨w.heap.size+1+1,4,none⟩ (.slice (some ⟨Z,0,none⟩) (a.length+1) zm)):=af;clear af oZ FW qS qQ I mX V;go_roundw;case rel=>first|exact⟨a.length+1,_,_,z,bz,ag,ab⟩|((repeat apply Exists.intro);refine⟨?_,rfl⟩;exact⟨a.length+1,_,_,z,bz,ag,ab⟩)
   case measure=>simp[RowKit.intOf];omega
  .have rF:a.length=rs.length:=z;rw[rF,sL]at G;obtain⟨va,o,rfl⟩:∃va o,C=.slice va rs.length o:=by(rw[<-rF];rcases G.r.2 with⟨aS,b4⟩|⟨mH,cap,cq,ak,aI,_⟩);{rw[b4];exact⟨_,_,aS⟩};{exact⟨_,_,ak⟩}
   obtain⟨hf,dn,dR,fy,gG,hg⟩:=gp c.o;obtain⟨eQ,dB,dF,gB,hI,h8⟩:=gp c.q;have z0:wr.frozen? ⟨w.heap.size+1,0,none⟩=false:=by simp[World.frozen?,c.q]
   have cC:wr.frozen? ⟨w.heap.size+1,1,none⟩=false:=by simp[World.frozen?,c.q]
   have dC:wr.frozen? ⟨w.heap.size+1,2,none⟩=false:=by simp[World.frozen?,c.q]
   have z3:wr.frozen? ⟨w.heap.size+1,3,none⟩=false:=by simp[World.frozen?,c.q]
   have z4:wr.frozen? ⟨w.heap.size+1,4,none⟩=false:=by simp[World.frozen?,c.q]
   have z5:wr.frozen? ⟨w.heap.size+1,5,none⟩=false:=by simp[World.frozen?,c.q]
   have N:=A c;have U:=A G;clear c G;have fY:=aJf U.out N.out.q (.string S.nm) (.int .i64 S.dk) (.slice (some ⟨u,0,none⟩) S.bB.length x) (.slice (some ⟨l,0,none⟩) S.aJ.length m) (.slice va rs.length o) (.int .i64 S.an);have dj:=X1 N.out.b (b:=w.heap.size+1) z (.string S.nm) (.int .i64 S.dk) (.slice (some ⟨u,0,none⟩) S.bB.length x) (.slice (some ⟨l,0,none⟩) S.aJ.length m) (.slice va rs.length o) (.int .i64 S.an);have LJ:=A fY;have gn:=A dj;clear fY dj;go_wp2;refine gd (afq (fn:=f20) rfl _ _ (w.heap.size+1) 29 _ (0,0) _ rfl LJ.out.2 underlying29 rfl arX) rfl ?_;exact⟨⟨_,_,_,a,rfl,LJ.out.1⟩,gn.out⟩
end Go.bk.N
namespace Go.bE
open Go Go.Proofs.Tryz Go.Proofs Go.RowKit Go.Lib Go.aM
def J3:(prog.info? 45).map (λi=>(i.zero,i.size,i.bytes))=some (some (.slice none 0 0),1,24):=aw
def am1:(prog.info? 9).map (λi=>(i.zero,i.size,i.bytes))=some (some (.string ⟨#[]⟩),1,16):=aw
variable{n cap:Nat}{w w':Γ}{o:Obj}{v:Φ}
def aqd{base g:Nat}(ar:(w.alloc o).grownBy w' v.ownBlock)(a:v.ownBlock=some g∨g=w.heap.size+1): eR (i_ base v) w w'/\∀b,i_ base v b/\b<w.heap.size->i_ base (.slice (some ⟨g,0,none⟩) n cap) b:=by
 refine⟨⟨by have:=ar.size;simp at this;omega,λb G au=>by
   rw[ar.block b bw G.2]
   exact CJ w _ b au⟩,?_⟩
 rintro b ⟨⟨d,c⟩,cF⟩;refine⟨d,λe=>?_⟩;simp[Value.ownBlock]at e;subst e;rcases a with a|a
 exact c a.symm;omega
variable{d:Nat}{a:Θ}
def cm.push{base g:Nat}(ar:(w.alloc o).grownBy w' v.ownBlock)(i:v.ownBlock=some g∨g=w.heap.size+1){l:List bs}(h:cm (i_ base v) (aR (i_ base v) d) w a l):cm (i_ base (.slice (some ⟨g,0,none⟩) n cap)) (aR (i_ base (.slice (some ⟨g,0,none⟩) n cap)) d) w' a l:=by let⟨e,c⟩:=aqd (base:=base) (n:=n) (cap:=cap) ar i;have H:=h.lt (P':=aR (λb=>i_ base v b/\b<w) d) (λF v f=>f.lt);have I:=H.eB (w':=w') (λ_ _ _ _ ag G=>ag.eB G) (e.yL λb G=>G.1);exact I.low c (λ_ _ _ ag=>ag.low c)
structure iu (base d:Nat) (w:Γ) (v:Φ) (l:List (List bs)):Prop where
 o:∃ss:List Φ,ss.length=l.length/\w.ownsRow base 45 1 v l.length ss/\∀j (H:j<ss.length) (I:j<l.length),∃a c,ss[j]=.slice a l[j].length c/\cm (i_ base v) (aR (i_ base v) d) w a l[j]
def iu.nil(base d:Nat)(w:Γ):iu base d w (.slice none 0 0) []:=⟨[],rfl,ne _ _ _ _,λj H=>by cases H⟩
def iu.gX{base:Nat}{l:List (List bs)}(h:iu base d w v l):∃a c,v=.slice a l c:=by let⟨e,H,I,b⟩:=h.o;exact UA
def iu.lt{base:Nat}{l:List (List bs)}(h:iu base d w v l):∀g,v.ownBlock=some g->base<=g/\g<w.heap.size:=by exact anX
def iu.eB{base:Nat}{l:List (List bs)}(h:iu base d w v l)(f:eR (fj base) w w'):iu base d w' v l:=by let⟨k,H,I,i⟩:=h.o;refine⟨k,H,uS I f,λj a b=>?_⟩;let⟨p,c,e,g⟩:=i j a b;exact⟨p,c,e,g.eB (λ_ _ _ _ ag G=>ag.eB G) (f.yL λb G=>G.1)⟩
def iu.K{base:Nat}{l:List (List bs)}(h:iu base d w v l)(G:β w w'):iu base d w' v l:=h.eB (.hs G)
variable{c:Nat}
def iu.pf{base:Nat}{l:List (List bs)}(h:iu base d w v l){u:List bs}(i:w.heap.size<=n)(G:base<=n)(J:cm (fj n) (aR (fj n) c) w' a u):cm (i_ base v) (aR (i_ base v) c) w' a u:=by have f:∀b,fj n b->i_ base v b:=λb g=>⟨c6 G g,λe=>by have:=(h.lt b e.symm).2;have:n<=b:=g;omega⟩;exact J.low f λ_ _ _ ag=>ag.low f
def iu.push{base d:Nat}{w w':Γ}{v:Φ}{l:List (List bs)}(h:iu base d w v l){a:Θ}{u:List bs}{c:Nat}(n:cm (i_ base v) (aR (i_ base v) d) w a u){o:Obj}{g cap:Nat}(ar:(w.alloc o).grownBy w' v.ownBlock)(i:v.ownBlock=some g∨g=w.heap.size+1){ss:List Φ}(k:ss.length=l.length)(m:∀j (H:j<ss.length) (I:j<l.length),∃a c,ss[j]=.slice a l[j].length c/\cm (i_ base v) (aR (i_ base v) d) w a l[j]) (r:w'.ownsRow base 45 1 (.slice (some ⟨g,0,none⟩) (l.length+1) cap) (l.length+1) (ss++[.slice a u.length c])):iu base d w' (.slice (some ⟨g,0,none⟩) (l.length+1) cap) (l++[u]):=by
 refine⟨ss++[.slice a u.length c],by simp[k],by simpa using r,λj a' s=>?_⟩;by_cases f:j<ss.length
 .have b:j<l.length:=z;rw[xI f,xI b];obtain⟨p,q,e,ag⟩:=m j f b;exact⟨p,q,e,ag.push ar i⟩
 .have b:¬j<l.length:=z;rw[xJ z,xJ z];simp only[Rk];exact⟨a,c,rfl,n.push ar i⟩
def iu.aG{base:Nat}{l:List (List bs)}(h:iu base d w v l)(o:l.length<=100):∃a c,v=.slice a l c/\fz (fj base) (aR (fj base) d) w a l:=by
 let⟨ss,H,I,k⟩:=h.o;obtain⟨a,c,rfl⟩:=h.gX;refine⟨a,c,rfl,o,λaf=>?_⟩;have rC:=I;rcases I.2 with⟨r,m⟩|⟨g,cap,t,ak,f,n,s,u,x,y⟩
 exact absurd m z
 .injection ak with mg _ _
  refine⟨g,0,mg,f,bM n,λj i=>?_⟩;let⟨p,q,e,ag⟩:=k j z i;refine⟨p,q,?_,ag.low (λb G=>G.1) λ_ _ _ J=>J.low λb G=>G.1⟩;exact aoR
section
variable {P:Program} {w:Γ}
def aeu{ops:Array Oper}{rest:List Oper}{o:Oper}{a:Act}{c':Exit->Act->Γ->Prop}(y:o.guard=none)(s x:Operand)(t:TypeId)
  (n:o.op=.call {callee:=.builtin .append,args:=#[s,x],argTypes:=#[t,t]})
  (e:TypeId)(i:TypeInfo)(aj:P.underlying t=some (.slice e))(hi:P.info? e=some i)(b off m cap:Nat)(l:m<=cap)(ca:Θ)(c:Nat)
  (f:a.eval s=.slice (some ⟨b,off,none⟩) m cap)(g:a.eval x=.slice ca 0 c)(h:wpList P ops c' rest (a.put o.dst (.slice (some ⟨b,off,none⟩) m cap)) w):wpList P ops c' (o::rest) a w:=
 Wb y λ_ r=>by
  have q:Src P i.size t (.slice ca 0 c) 0 [] w:=by
   cases ca with
   |none=>exact Src.ofNil w aj c
   |some ad=>exact Src.ofSlice w aj ad 0 c [] aq (λj u hu=>by simp at hu) (λu hu=>by cases hu)
  have k:=run_append_room_src (P:=P) w t t o.type e i aj hi b off m cap (.slice ca 0 c) 0 [] q l (λj d=>by cases d) (λj d=>by cases d)
  unfold Oper.wp execOp
  simp only[n,resolve,invoke,builtin,e7,fI,eY,Rl,qu,ER,f,g,k]
  exact r _ _ h
end
abbrev fo:Ω:=#[.int .i64 0,.string ⟨#[]⟩,.int .i64 0,.int .i64 0,.int .i64 0,.slice none 0 0,.slice none 0 0]
structure r8 (w:Γ) (F no:Ω) (wr:Γ):Prop where
 b:Below w.heap.size w wr
 g:wr.heap[w.heap.size]? =some (.cells F 44 (0,0))
 q:wr.heap[w.heap.size+1]? =some (.cells fo 44 (0,0))
 o:wr.heap[w.heap.size+1+1]? =some (.cells no 44 (0,0))
variable{wr:Γ}{F:Ω}
def r8.K{a:Ω}(h:r8 w F a wr)(G:β wr w'):r8 w F a w':=
 ⟨b3 h.b G,by rw[G.block _ (bM h.g)];exact h.g,by rw[G.block _ (bM h.q)];exact h.q,by rw[G.block _ (bM h.o)];exact h.o⟩
def r8.gZ{a:Ω}(h:r8 w F a wr)(i:Nat)(u:Φ):r8 w F (a.setIfInBounds i u) (wr.setCell ⟨w.heap.size+1+1,i,none⟩ u):=
 ⟨h.b.setCell bw _,by rw[ht _ _ _ _ (by show w.heap.size≠w.heap.size+1+1;omega)];exact h.g,by rw[ht _ _ _ _ (by show w.heap.size+1≠w.heap.size+1+1;omega)];exact h.q,h' h.o _⟩
def r8.grown{a w7:Γ}{f:Ω}(h:r8 w F f a){row:Option Nat}(ar:(a.alloc o).grownBy w7 row)(d:∀b,row=some b->w.heap.size+3<=b):r8 w F f w7:=by
 have c:∀b,b<w.heap.size+3->b<a.heap.size->w7.heap[b]? =a.heap[b]? :=λb G au=>by rw[ar.block b bw (λe=>by have:=d b e.symm;omega)];exact CJ a _ b au
 exact⟨(h.b.alloc h.b.size o).grown ar (by have:=h.b.size;simp;omega) (λb G=>by have:=d b G;omega),by rw[c _ z (bM h.g)];exact h.g,by rw[c _ z (bM h.q)];exact h.q,by rw[c _ z (bM h.o)];exact h.o⟩
def r8.start(w:Γ)(F:Ω):r8 w F F (((w.alloc (.cells F 44)).alloc (.cells fo 44)).alloc (.cells F 44)):=by have cC:=jt w (.cells F 44);have dC:=jt (w.alloc (.cells F 44)) (.cells fo 44);exact ab'
def Ap(l:List Ψ):List Φ:=l.map Value.string
def asm{w:Γ}{ad:Addr}{l:List Ψ}{b o:Nat}(e:ad=⟨b,o,none⟩)(c:∀i (hi:i<l.length),w ⟨b,o+i,none⟩=some (.string l[i])):∀j u,(Ap l)[j]? =some u->w.cell? (ad.add j)=some u:=λj u hu=>by
 subst e
 rw[AD]
 rw[Ap,ou]at hu
 by_cases a:j<l.length
 .rw[j_ a]at hu
  simp at hu
  rw[c j a,hu]
 .rw[rh z]at hu
  cases hu
variable{l:List Ψ}
def asl{base:Nat}{g:Nat}(f:l.length<=40)(h:w.ownsRow base 9 1 (.slice (some ⟨g,0,none⟩) n cap) n (Ap l)):g0 (fj base) w (some ⟨g,0,none⟩) l:=
 ⟨f,λaf=>by
  have d:=h
  rcases h.2 with⟨c,j⟩|⟨m,o,k,ak,b,e,_⟩
  .cases c
  .injection ak with a _ _
   injection a with a
   injection a with a
   subst a
   refine⟨g,0,rfl,b,bM e,λi hi=>?_⟩
   have:=d.cells (g:=g) rfl i (.string l[i]) (by simp[Ap,hi])
   rw[AD]at this
   exact this⟩
def YC(d:Nat)(k:Int)(s:Ψ)(N S n:Int)(cs:List Ψ)(aG:List (List bs))(V:0<aG.length->∀(w:Γ) (a:Θ) (c:Nat) (l:List bs),cm aD (aR aD d) w a l->Calls prog 33 #[.slice a l.length c] w λe w'=>Se d w.heap.size l e w'/\β w w') (w:Γ)(F:Ω)(h:aR aD (d+1) w F (.mk k s N S n cs aG)):Calls prog 67 #[.agg F] w λe w'=>vu (d+1) w.heap.size (.mk k s N S n cs aG) e w'/\β w w':=by
 obtain⟨ca,cc,ra,rc,rfl,M,Q⟩:=h;have f':=A (r8.start w (bC k s N S n ca cs.length cc ra aG.length rc));obtain⟨D_,DY,hH,P,jI⟩:=iz am1;obtain⟨O0,Ow,nC,hW,lg⟩:=iz J3;go_enter func67,ntmps67;go_upto_region 2 with fail
 generalize (((w.alloc (.cells (bC k s N S n ca cs.length cc ra aG.length rc) 44)).alloc (.cells fo 44)).alloc (.cells (bC k s N S n ca cs.length cc ra aG.length rc) 44))=y at f'|-;go_cut [] (λc0=>∃(c1:Θ) (c2:Nat),r8 w (bC k s N S n ca cs.length cc ra aG.length rc) (bC k s N S n c1 cs.length c2 ra aG.length rc) c0/\g0 (fj (w.heap.size+3)) c0 c1 cs);case first=>have f:=f'.out;have h2:y ⟨w.heap.size,5,none⟩=some (.slice ca cs.length cc):=aN 5 f.g;have b7:=bM f.g;have iS:=bM f.o;have j9:y ⟨w.heap.size+1+1,5,none⟩=some (.slice ca cs.length cc):=aN 5 f.o;have z5:y.frozen? ⟨w.heap.size+1+1,5,none⟩=false:=kt 5 f.o;have dO:=f.b.size;have O:=A f;by_cases af:cs=[];{subst af;clear f Q V M;simp only[tV]at h2 j9;go_wp2_with (at_builtin;refine aeu rfl _ _ 42 rfl 9 D_ HV DY y.heap.size 0 0 0 (aY _) ca cc rfl rfl ?_);go_meet;refine⟨_,_,(O.out.gZ 5 _).K ((bl _ _).alloc (aY _) _),⟨aq,λaf=>absurd af aq⟩⟩};{(have NM:0<cs.length:=by(rcases cs with _|⟨x,l⟩);{exact absurd rfl af};{simp});have DE:=M.1;obtain⟨dw,fW,rfl,_,lA,dt⟩:=M.2 NM;have Df:=A (asm (w:=y.alloc (.cells #[] 9)) (ad:=⟨dw,fW,none⟩) (l:=cs) rfl λi hi=>((f.b.alloc dO _).cell lA).trans (dt i hi));have cN:=Go.bk.N.xp y (w.heap.size+3) 9 1 z;clear f Q V M dt;go_wp2_with (at_builtin;refine lP _ rfl _ _ 42 rfl (w.heap.size+3) 9 D_ _ 1 16 HV DY hH P jI rfl al (.slice (some ⟨y.heap.size,0,none⟩) 0 0) 0 [] rfl cN ⟨dw,fW,none⟩ cs.length cc (Ap cs) rfl (by simp[Ap]) Df.out (by simp[Ap,Value.oneCell']) (by unfold maxLen;omega) z bw ?_;intro eq C n8 vP zT;rw[gy,vf]at n8;obtain⟨bb,sj,rfl⟩:=Go.bk.N.G3 n8 (λe=>by have:=(zT.1 e).1;cases this);have ex:=A (Go.bk.N.Jp vP);have E:=O.out.K ex.out;have c2:C ⟨w.heap.size+1+1,5,none⟩=_:=aN 5 E.o;have hK:=kt 5 E.o);go_meet;exact⟨_,_,E.gZ 5 _,asl DE (Go.bk.N.BU n8 E.o al 5 _)⟩}
 case rest=>
  obtain⟨c1,c2,f,ah⟩:=hcut;have l7:wc ⟨w.heap.size+1+1,6,none⟩=some (.slice ra aG.length rc):=aN 6 f.o;have eJ:wc.frozen? ⟨w.heap.size+1+1,6,none⟩=false:=kt 6 f.o;have E:r8 w (bC k s N S n ca cs.length cc ra aG.length rc) (bC k s N S n c1 cs.length c2 none 0 0) (wc.setCell ⟨w.heap.size+1+1,6,none⟩ (.slice none 0 0)):=f.gZ 6 (.slice none 0 0);have Ty:g0 (fj (w.heap.size+3)) (wc.setCell ⟨w.heap.size+1+1,6,none⟩ (.slice none 0 0)) c1 cs:=ah.eB ((eR.refl _ wc).set (by show ¬(w.heap.size+3<=w.heap.size+1+1);omega) 6 _);have e0:=A E;have ud:=A Ty;have n6:=bM f.o;clear f ah M f' E Ty;go_wp2;clear l7 eJ;generalize wc.setCell ⟨w.heap.size+1+1,6,none⟩ (.slice none 0 0)=C at*;have ig:=A (λW (ao:β w W)=>(fz.K (aR.mono aD d) Q ao).2);have Jq:=Q.1;have gM:=A V;clear Q V;have W_:=A ud.out.lt;have ai:w.heap.size+3<=C.heap.size:=bM e0.out.o;have aj:C.heap.size<=C.heap.size:=aY _;clear ud;obtain⟨B,NR⟩:∃B,B=C.heap.size:=⟨_,rfl⟩;rw[<-NR]at W_ ai;have ae:B<=C.heap.size:=z;clear NR aj;go_loopw [4] (λi wr=>∃(j:Nat) (c3:Θ) (c4:Nat),j<=aG.length/\i=.int .i64 j/\r8 w (bC k s N S n ca cs.length cc ra aG.length rc) (bC k s N S n c1 cs.length c2 c3 j c4) wr/\g0 (λb=>fj (w.heap.size+3) b/\b<B) wr c1 cs/\iu B d wr (.slice c3 j c4) (aG.take j)/\B<=wr.heap.size) (λi _=>aG.length-(RowKit.intOf i).toNat);case atStart=>exact⟨0,none,0,dh _,rfl,e0.out,W_.out,iu.nil _ _ _,ae⟩
  case round=>
   clear e0 W_ ae;obtain⟨j,c3,c4,ab,rfl,m,T,D,NS⟩:=hrel;have jQ:wr ⟨w.heap.size,6,none⟩=some (.slice ra aG.length rc):=aN 6 m.g;have G:=m.b;by_cases au:j<aG.length
   .obtain⟨dK,eL,rfl,_,iE,h4⟩:=ig.out _ m.b z;obtain⟨dI,eu,aE,aa⟩:=h4 j au;obtain⟨ss,Y,yu,GA⟩:=D.o;have R:(aG.take j).length=j:=by rw[mw];omega
    rw[R]at Y yu;have ph:wr ⟨w.heap.size+1+1,6,none⟩=some (.slice c3 j c4):=aN 6 m.o;have hG:wr.frozen? ⟨w.heap.size+1+1,6,none⟩=false:=kt 6 m.o;have P:=bM m.o;have hH:=bM m.g;have gi:=A (λW (ao:β wr W)=>gM.out z W dI eu _ (cm.K (aR.mono aD d) aa ao));have em:=A yu;have L:=A D;have f:=A m;have O:=A T;have vo:=A GA;have X:Hid (some (w.heap.size+1+1)≠(Value.slice c3 j c4).ownBlock):=A λe=>by have:=(D.lt _ e.symm).1;omega
    have eh:Hid (aG.take (j+1)=aG.take j++[aG[j]]):=A (r6 au);have gQ:(0:Int)<=(j:Int):=z;have gb:(j:Int)<aG.length:=z;have o7:=G.size;clear h4 aa D m T yu GA G;generalize aG[j]=row at*;go_wp2
    go_region_law (first
     |(have Oq:=Z;refine K8 _ (by rfl) _ _ _ (by rfl) B 45 O0 _ 1 24 K5 Ow nC hW lg rfl al (.slice c3 j c4) j ss (by rfl) ((uS em.out (.hs K)).alloc _) ⟨o.heap.size,0,none⟩ 1 1 [.slice e1 row.length p'] (by rfl) (by rfl) (r5 (cs:=#[.slice e1 row.length p']) (t:=45) (fr:=(0,0)) (pW o _)) (by simp[Value.oneCell']) al (by unfold maxLen;omega) z bw (o.heap.size+1) aq ?_;intro g cap w7 cR q fG TW;have GK:w7 ⟨w.heap.size+1+1,6,none⟩=some (.slice c3 j c4):=(by rw[q.cell_far _ bw X.out,(fu o _).cell Z];exact ar);have f7:w7.frozen? ⟨w.heap.size+1+1,6,none⟩=false:=(by rw[q.frozen_far _ bw X.out,(fu o _).frozen Z];exact Bl))
     |(go_simp;go_at_call 33;refine(gi.out _ ((bl _ _).drew)).mono ?_;rintro e o ⟨⟨e1,p',rfl,w1⟩,U⟩;have ar:o ⟨w.heap.size+1+1,6,none⟩=some (.slice c3 j c4):=(by rw[U.cell (by simpa using P)];exact ph);have Bl:o.frozen? ⟨w.heap.size+1+1,6,none⟩=false:=(by rw[U.frozen (by simpa using P)];exact hG);have Z:w.heap.size+1+1<o.heap.size:=cT U P;have K:β wr o:=(lk wr).trans U;have GF:=K.size))
    all_goals(
     have Tg:=L.out.K K
     have pE:iu B d w7 (.slice (some ⟨g,0,none⟩) (j+1) cap) (aG.take j++[row]):=by
      have:=Tg.push (a:=e1) (u:=row) (c:=p') (L.out.pf (aY _) NS w1) q fG (Y.trans R.symm) (λp H I=>by
       obtain⟨b_,cv,e,ag⟩:=vo.out p H I
       exact⟨b_,cv,e,ag.eB (λ_ _ _ _ ag G=>ag.eB G) (.hs K)⟩) (by rw[R];exact cR)
      rw[R]at this
      exact this
     rw[<-eh.out]at pE
     have BM:B<=w7.heap.size:=by have:=q.size;simp at this;omega
     have N7:=(f.out.K K).grown q (λb G=>by have:=(L.out.lt b G).1;omega)
     have N1:=(O.out.K K).eB (w':=w7) ⟨by have:=q.size;simp at this;omega,λb G au=>by
      rw[q.block b bw (λe=>by have:=(L.out.lt b e.symm).1;have:=G.2;omega)]
      exact CJ o _ b au⟩
     clear gi em L f O vo X eh jQ ph hG aE w1 cR q fG Tg Y R
     go_wp2
     have DK:r8 w (bC k s N S n ca cs.length cc (some ⟨dK,eL,none⟩) aG.length rc) (bC k s N S n c1 cs.length c2 (some ⟨g,0,none⟩) (j+1) cap) (w7.setCell ⟨w.heap.size+1+1,6,none⟩ (.slice (some ⟨g,0,none⟩) (j+1) cap)):=N7.gZ 6 (.slice (some ⟨g,0,none⟩) (j+1) cap)
     have tf:=N1.eB ((eR.refl _ w7).set (r:=w.heap.size+1+1) (λG=>by have:=G.1;have:w.heap.size+3<=w.heap.size+1+1:=this;omega) 6 (.slice (some ⟨g,0,none⟩) (j+1) cap))
     have an:=pE.eB ((eR.refl _ w7).set (r:=w.heap.size+1+1) (λ(G:B<=w.heap.size+1+1)=>z) 6 (.slice (some ⟨g,0,none⟩) (j+1) cap))
     have JZ:B<=(w7.setCell ⟨w.heap.size+1+1,6,none⟩ (.slice (some ⟨g,0,none⟩) (j+1) cap)).heap.size:=by simpa using BM
     exact⟨⟨j+1,_,cap,z,bz,DK,tf,an,JZ⟩,by simp[RowKit.intOf];omega⟩)
   .obtain rfl:j=aG.length:=z;rw[sL]at D;obtain⟨a',eT,cg,dE⟩:=D.aG Jq;injection cg with ak aI bv
    subst ak;subst bv;obtain⟨hf,dn,dR,fy,gG,hg,hj⟩:=eU m.o;obtain⟨eQ,dB,dF,gB,hI,h8,iI⟩:=eU m.q;obtain⟨z0,cC,dC,z3,z4,z5,eJ⟩:=hp m.q;have f:=A m;have hn:=A (show aR (fj (w.heap.size+3)) (d+1) wr (bC k s N S n c1 cs.length c2 c3 aG.length c4) (.mk k s N S n cs aG)from⟨c1,c2,c3,c4,rfl,T.low λb G=>G.1,dE.low (λb (G:B<=b)=>(show w.heap.size+3<=b by omega)) λ_ _ _ J=>J.low λb (G:B<=b)=>(show w.heap.size+3<=b by omega)⟩);have oH:=bM m.q;clear m T D dE gM ig;go_wp2;refine gd (afq (fn:=f67) rfl _ _ (w.heap.size+1) 44 _ (0,0) _ rfl (iJ f.out.q _ _ _ _ _ _ _) k2 rfl jk) rfl ?_;exact⟨⟨_,rfl,(hn.out.eB (Kr (eR.refl _ wr) (by show ¬(w.heap.size+3<=w.heap.size+1);omega) _ _ _ _ _ _ _)).low λb G=>by have:w.heap.size+3<=b:=G;show w.heap.size<=b;omega⟩,iU f.out.b z _ _ _ _ _ _ _⟩
def ax8:Wz (aR aD 0) 0:=λw F v h=>by
 let⟨k,s,N,S,n,cs,aG⟩:=v
 obtain⟨rfl,b⟩:=h
 refine(YC 0 k s N S n cs [] (λaf=>absurd af aq) w F (aR.HG ⟨rfl,b⟩)).mono λe w' ⟨⟨a,H,I⟩,G⟩=>⟨⟨a,H,?_⟩,G⟩
 let⟨ca,cc,ra,rc,e,c,_⟩:=I
 exact⟨rfl,ca,cc,ra,rc,e,c⟩
def I4:∀(d:Nat),Wz (aR aD (d+1)) (d+1):=by
 intro d;induction d with
 |zero=>exact λw F ⟨k,s,N,S,n,cs,aG⟩ h=>YC 0 k s N S n cs aG (λ_ w a c l b=>YA (aR.mono aD 0) ax8 w a c l b) w F h
 |succ d e=>exact λw F ⟨k,s,N,S,n,cs,aG⟩ h=>YC (d+1) k s N S n cs aG (λ_ w a c l b=>YA (aR.mono aD (d+1)) e w a c l b) w F h
def ax6(d:Nat)(w:Γ)(a:Θ)(c:Nat)(l:List bs)(h:cm aD (aR aD (d+1)) w a l):
  χ 33 #[.slice a l c] w (Se (d+1) w l):=
 YA (aR.mono aD (d+1)) (I4 d) w a c l h
def e_(base n:Nat)(e:Ending)(w':Γ):Prop:=∃k s N S n' ca cl cc ra rl rc err,e=.returned (.tuple #[.agg (bC k s N S n' ca cl cc ra rl rc),.int .i64 err])/\0<=err/\err<=99/\(err=0->∃v,aR (fj base) 1 w' (bC k s N S n' ca cl cc ra rl rc) v/\e9 n v)
variable{k N n':Int}{s:Ψ}{ca ra:Θ}{cl cc rl rc:Nat}
def e_.none(base n:Nat)(w':Γ)(err:Int)(af:1<=err)(H:err<=99){S:Int}:e_ base n (.returned (.tuple #[.agg (bC k s N S n' ca cl cc ra rl rc),err])) w':=⟨_,_,_,_,_,_,_,_,_,_,_,_,rfl,z,H,λh=>z⟩
def e_.some(base n:Nat)(w':Γ){v:bs}{S:Int}(J:aR (fj base) 1 w' (bC k s N S n' ca cl cc ra rl rc) v)(ar:e9 n v):e_ base n (.returned (.tuple #[.agg (bC k s N S n' ca cl cc ra rl rc),.int .i64 0])) w':=⟨_,_,_,_,_,_,_,_,_,_,_,_,rfl,z,z,λ_=>⟨v,J,ar⟩⟩
def arp{c:Θ}{r:List bs}(h:cm aD (aR aD 0) w c r)(q:t_ r):∃s N a b k l n m f g d e,r=[hX s,gR N 0]/\kC s/\ -10<=N/\N<=10/\c=some ⟨a,b,none⟩/\a<w/\vv w a b (.int .i64 1) (.string s) (.int .i64 0) (.int .i64 0) (.int .i64 0) (.slice k 0 l) (.slice n 0 m)/\vv w a (b+7) (.int .i64 2) (.string bX) N (.int .i64 0) (.int .i64 0) (.slice f 0 g) (.slice d 0 e):=by
 obtain⟨s,N,rfl,t,H,I⟩:=q;obtain⟨a,b,rfl,_,x,o⟩:=h.2 aq;let⟨Q,bY,S,V,R,k,B,l,n,C,m,y,i⟩:=o 0 aq;let⟨bN,L,M,P,O,f,T,g,d,U,e,u,j⟩:=o 1 aq;let⟨_,z,A,D,E,dA,_⟩:=y;let⟨_,G,F,J,K,ak,_⟩:=u;injection dA with dA
 injection ak with ak
 simp only[qs,HX,HY,EK,EX,AM]at dA ak;obtain⟨rfl,rfl,rfl,rfl,rfl,⟨rfl,rfl,rfl⟩,rfl,rfl,rfl⟩:=dA;obtain⟨rfl,rfl,rfl,rfl,rfl,⟨rfl,rfl,rfl⟩,rfl,rfl,rfl⟩:=ak;simp only[vh,hY,Rr,tV]at i j;exact⟨_,_,a,b,_,_,_,_,_,_,_,_,rfl,t,H,I,rfl,x,i,j⟩
structure zb (w:Γ) (F:Ω) (wr:Γ):Prop where
 b:Below w.heap.size w wr
 g:wr.heap[w.heap.size]? =some (.cells F 44 (0,0))
 l:wr.heap[w.heap.size+1]? =some (.cells #[.int .i64 0,.int .i64 0] 41 (0,0))
 o:wr.heap[w.heap.size+1+1]? =some (.cells fo 44 (0,0))
def zb.K(h:zb w F wr)(G:β wr w'):zb w F w':=
 ⟨b3 h.b G,by rw[G.block _ (bM h.g)];exact h.g,by rw[G.block _ (bM h.l)];exact h.l,by rw[G.block _ (bM h.o)];exact h.o⟩
def zb.set(h:zb w F wr)(b:Nat)(G:w.heap.size+3<=b)(i:Nat)(u:Φ):zb w F (wr.setCell ⟨b,i,none⟩ u):=
 ⟨h.b.setCell (p:=⟨b,i,none⟩) (show w.heap.size<=b by omega) _,by rw[ht _ _ _ _ (by show w.heap.size≠b;omega)];exact h.g,by rw[ht _ _ _ _ (by show w.heap.size+1≠b;omega)];exact h.l,by rw[ht _ _ _ _ (by show w.heap.size+1+1≠b;omega)];exact h.o⟩
def zb.start(w:Γ)(F:Ω):zb w F (((w.alloc (.cells F 44)).alloc (.cells #[.int .i64 0,.int .i64 0] 41)).alloc (.cells fo 44)):=by let⟨H,I,b,a⟩:=QF w (.cells F 44) (.cells #[.int .i64 0,.int .i64 0] 41) (.cells fo 44);exact⟨H,I,b,a⟩
def awD(N M:Int)(w:Γ)(H:N.natAbs<=100)(I:M.natAbs<=100):χ 532 #[.agg #[N,.int .i64 0],.agg #[M,.int .i64 0]] w λe w'=>A4 (N.natAbs+M.natAbs) 0 e:=
 aib N M 0 0 0 w ⟨aq,aq,z,z,.inl rfl⟩ ⟨aq,aq,z,z,.inl rfl⟩ rfl z N.natAbs M.natAbs aq aq z
def aiN(N:Int)(w:Γ)(H:N.natAbs<=100):χ 538 #[.agg #[N,.int .i64 0],.agg #[.int .i64 0,.int .i64 0]] w λe w'=>(∃c,Fk c e):=
 (aiM N 0 0 0 0 w ⟨aq,aq,z,z,.inl rfl⟩ ⟨aq,aq,z,z,.inl rfl⟩ rfl z _ rfl).mono λe w' ⟨h,G⟩=>⟨⟨_,h⟩,G⟩
def aKf{m n:Nat}(av:1<=m)(aG:List (List bs))(J:e9 n (jl aG))(w:Γ)(F:Ω)(h:aR aD 1 w F (jl aG)): Calls prog 530 #[.agg F,.string lv,.agg #[.int .i64 0,.int .i64 0]] w λe w'=>e_ w.heap.size m e w'/\β w w':=by
 have zM:aG.length<=3/\∀r∈aG,t_ r:=by cases J with|jl _ ah h=>exact⟨ah,h⟩
 have bp:=A λW (L:β w W)=>anb aG J W F (h.K L);obtain⟨ca,cc,ra,rc,rfl,gt,qU⟩:=h;have X:=A (zb.start w (bC 5 bX 0 0 0 ca 2 cc ra aG.length rc));have bP:=A λW (L:β w W)=>abs W ca cc [lM,lv] lv (gt.K L);have ig:=A (λW (L:β w W)=>(fz.K (aR.mono aD 0) qU L).2);have cp:=A (λi (hi:i<aG.length)=>zM.2 _ (fp hi));have ah:=zM.1;clear J gt qU zM;go_enter func530,ntmps530;go_upto_region 1 with fail
 generalize (((w.alloc (.cells (bC 5 bX 0 0 0 ca 2 cc ra aG.length rc) 44)).alloc (.cells #[.int .i64 0,.int .i64 0] 41)).alloc (.cells fo 44))=am at X|-;have f:=X.out;obtain⟨eQ,dB,dF,gB,hI,h8,iI⟩:=eU f.g;have g3:=bM f.g;have aV:=f.b;clear f;go_upto_region 4 with(go_at_call 564;refine(bp.out _ aV).mono ?_;rintro e M ⟨rfl,bu⟩)
 have D:=A (X.out.K bu);have lm:=aN 5 D.out.g;have b7:=bM D.out.g;have bj:=D.out.b;clear eQ dB dF gB hI h8 iI g3 X aV bu;go_upto_region 7 with(go_at_call 562;refine(bP.out _ bj).mono ?_;rintro e w3 ⟨⟨x,rfl,aa⟩,rfl⟩;obtain rfl:=axS aa)
 have ma:=A (D.out.K (fu M (.cells #[.int .i64 0,.int .i64 0] 41)));have yt:=c7 M (.cells #[.int .i64 0,.int .i64 0] 41);have Z:w.heap.size+3<=M.heap.size:=bM D.out.o;go_wp2;clear lm b7 bp bP D bj;generalize qc:M.heap.size=bS at*;generalize (M.alloc (.cells #[.int .i64 0,.int .i64 0] 41))=bh at*;go_loopw [11] (λi wr=>∃(k:Nat) (N:Int),k<=aG.length/\i=.int .i64 k/\zb w (bC 5 bX 0 0 0 ca 2 cc ra aG.length rc) wr/\wr.heap[bS]? =some (.cells #[.int .i64 N,.int .i64 0] 41 (0,0))/\N.natAbs<=10*k) (λi _=>aG.length-(RowKit.intOf i).toNat);case atStart=>exact⟨0,0,dh _,rfl,ma.out,yt,aq⟩
 case round=>
  clear ma yt;obtain⟨k,N,af,rfl,f,O,dX⟩:=hrel;have T:=aN 6 f.g;have b7:=bM f.g;obtain⟨bY,B⟩:=j' O;have l:=bM O;by_cases au:k<aG.length
  .obtain⟨cV,lX,rfl,_,Y,kc⟩:=ig.out _ f.b z;obtain⟨dI,eu,y,ad⟩:=kc k au;obtain⟨fE,mb,jq,gP,jC,jD,jj,jK,fq,fs,e5,e6,lL,dm,ag,Bt,rfl,E,u,V⟩:=arp ad (cp.out k au);rw[lL]at y;simp only[l8,tV,Nat.reduceAdd,gy]at y;have eg:=V.bi;have Q:=V.c2;have P:=V.c3;have gQ:(0:Int)<=(k:Int):=z;have gb:(k:Int)<aG.length:=z;have U:=A f;have vo:=A O;have kT:=f.b.size;clear ad u V kc f O dm lL;go_upto_region 13 with fail
   have p0:=A λW=>awD N mb W z z
   go_region_held3 (λaZ=>aZ ⟨bS,0,none⟩=some (.int .i64 N)/\aZ ⟨bS,1,none⟩=some (.int .i64 0)/\aZ ⟨w.heap.size,6,none⟩=some (.slice (some ⟨cV,lX,none⟩) aG.length rc)/\aZ ⟨cV,lX+k,none⟩=some (.slice (some ⟨jq,gP,none⟩) 2 eu)/\aZ ⟨jq,gP+7+2,none⟩=some (.int .i64 mb)/\aZ ⟨jq,gP+7+3,none⟩=some (.int .i64 0)) (first|exact⟨bY,B,T,y,Q,P⟩|exact⟨v0,R,S,v3,v4,v5⟩|exact⟨(sk z).trans v0,(sk z).trans R,(sk z).trans S,(sk z).trans v3,(sk z).trans v4,(sk z).trans v5⟩|go_keep) (first
    |(go_at_call 532;refine(p0.out _).mono ?_;rintro e d ⟨⟨h0,XC,rfl,kq,uD,uE,w8⟩,j⟩;obtain rfl:XC=0:=z;have a:β wr d:=((fu wr _).drew).trans (j.mono aq);have hc:d ⟨wr.heap.size,0,none⟩=some (.int .i64 0):=aA j aq (kQ (c7 wr _) rfl);have bT:d ⟨wr.heap.size,1,none⟩=some (.int .i64 0):=aA j aq (kQ (c7 wr _) rfl);have eW:d.frozen? ⟨wr.heap.size,0,none⟩=false:=rR j aq (cM (c7 wr _));have he:d.frozen? ⟨wr.heap.size,1,none⟩=false:=rR j aq (cM (c7 wr _));have v0:=aA a l bY;have R:=aA a l B;have S:=aA a b7 T;have v3:=aA a Y y;have v4:=aA a E Q;have v5:=aA a E P)
    |(go_at_call 532;refine(p0.out _).mono ?_;rintro e d ⟨⟨h0,XC,rfl,kq,uD,uE,w8⟩,j⟩;obtain rfl:XC=0:=z;have a:β wr d:=(lk wr).trans j;have v0:=aA a l bY;have R:=aA a l B;have S:=aA a b7 T;have v3:=aA a Y y;have v4:=aA a E Q;have v5:=aA a E P))
   all_goals first
    |(
     have u:=c7 d (.cells #[.int .i64 h0,.int .i64 0] 41)
     have q:β wr (d.alloc (.cells #[.int .i64 h0,.int .i64 0] 41)):=a.alloc a.size _
     have hL:wr.heap.size<=d.heap.size:=a.size
     generalize d.alloc (.cells #[.int .i64 h0,.int .i64 0] 41)=w7 at*
     generalize d.heap.size=et at*
     have ae:=aA q l bY
     have P5:=aA q l B
     have C:=A (U.out.K q)
     have G:=A ((q.block _ l).trans vo.out)
     have E8:=A u
     obtain⟨bi,c1⟩:=j' u
     obtain⟨gW,eM⟩:=j' C.out.l
     have hz:=bM u
     have BR:=bM C.out.l
     have ab:h0.natAbs<=100:=z
     have nf:=A λW=>aiN h0 W ab
     clear bY B T y eg Q P b7 Y E v0 R S v3 v4 v5 a j p0
     go_wp2_with (go_at_call 538;refine(nf.out _).mono ?_;rintro e dc ⟨⟨c,rfl⟩,s⟩;have g:=A (C.out.K s);have o:=(s.block _ (bM G.out)).trans G.out;have H:=(s.block _ hz).trans E8.out;obtain⟨dA,ak⟩:=j' H;obtain⟨t0,dU⟩:=j' o;obtain⟨cO,t3⟩:=m3 o;have XB:=A o;obtain⟨hf,dn,dR,fy,gG,hg,hj⟩:=eU g.out.o;obtain⟨z0,cC,dC,z3,z4,z5,eJ⟩:=hp g.out.o;clear s o H)
     .refine gd (j5 (fn:=f530) rfl _ _ (w.heap.size+1+1) 44 _ (0,0) _ _ rfl rfl (iJ g.out.o _ _ _ _ _ _ _) k2 rfl jk) rfl ?_
      exact⟨e_.none _ _ _ 20 al al,iU g.out.b z _ _ _ _ _ _ _⟩
     .have K:=h' (i:=1) (h' (i:=0) XB.out (.int .i64 h0)) (.int .i64 0)
      have I:=(g.out.set bS Z 0 (.int .i64 h0)).set bS Z 1 (.int .i64 0)
      go_roundw
      case rel=>first|exact⟨k+1,h0,z,bz,I,K,z⟩|((repeat apply Exists.intro);refine⟨?_,rfl⟩;exact⟨k+1,h0,z,bz,I,K,z⟩)
      case measure=>simp[RowKit.intOf];omega)
    |(
     have u:((d.setCell ⟨wr.heap.size,0,none⟩ (.int .i64 h0)).setCell ⟨wr.heap.size,1,none⟩ (.int .i64 0)).heap[wr.heap.size]? =some (.cells #[.int .i64 h0,.int .i64 0] 41 (0,0)):=(by simpa using h' (i:=1) (h' (i:=0) ((j.block wr.heap.size aq).trans (c7 wr (.cells #[.int .i64 0,.int .i64 0] 41))) (.int .i64 h0)) (.int .i64 0))
     have q:β wr ((d.setCell ⟨wr.heap.size,0,none⟩ (.int .i64 h0)).setCell ⟨wr.heap.size,1,none⟩ (.int .i64 0)):=(a.setCell (p:=⟨wr.heap.size,0,none⟩) (aY _) _).setCell (p:=⟨wr.heap.size,1,none⟩) (aY _) _
     generalize (d.setCell ⟨wr.heap.size,0,none⟩ (.int .i64 h0)).setCell ⟨wr.heap.size,1,none⟩ (.int .i64 0)=w7 at*
     have ae:=aA q l bY
     have P5:=aA q l B
     have C:=A (U.out.K q)
     have G:=A ((q.block _ l).trans vo.out)
     have E8:=A u
     obtain⟨bi,c1⟩:=j' u
     obtain⟨gW,eM⟩:=j' C.out.l
     have hz:=bM u
     have BR:=bM C.out.l
     have ab:h0.natAbs<=100:=z
     have nf:=A λW=>aiN h0 W ab
     clear bY B T y eg Q P b7 Y E v0 R S v3 v4 v5 a j p0
     go_wp2_with (go_at_call 538;refine(nf.out _).mono ?_;rintro e dc ⟨⟨c,rfl⟩,s⟩;have g:=A (C.out.K s);have o:=(s.block _ (bM G.out)).trans G.out;have H:=(s.block _ hz).trans E8.out;obtain⟨dA,ak⟩:=j' H;obtain⟨t0,dU⟩:=j' o;obtain⟨cO,t3⟩:=m3 o;have XB:=A o;obtain⟨hf,dn,dR,fy,gG,hg,hj⟩:=eU g.out.o;obtain⟨z0,cC,dC,z3,z4,z5,eJ⟩:=hp g.out.o;clear s o H)
     .refine gd (j5 (fn:=f530) rfl _ _ (w.heap.size+1+1) 44 _ (0,0) _ _ rfl rfl (iJ g.out.o _ _ _ _ _ _ _) k2 rfl jk) rfl ?_
      exact⟨e_.none _ _ _ 20 al al,iU g.out.b z _ _ _ _ _ _ _⟩
     .have K:=h' (i:=1) (h' (i:=0) XB.out (.int .i64 h0)) (.int .i64 0)
      have I:=(g.out.set bS Z 0 (.int .i64 h0)).set bS Z 1 (.int .i64 0)
      go_roundw
      case rel=>first|exact⟨k+1,h0,z,bz,I,K,z⟩|((repeat apply Exists.intro);refine⟨?_,rfl⟩;exact⟨k+1,h0,z,bz,I,K,z⟩)
      case measure=>simp[RowKit.intOf];omega)
  .obtain rfl:k=aG.length:=z;have U:=A f;obtain⟨hf,dn,dR,fy,gG,hg,hj⟩:=eU f.o;obtain⟨z0,cC,dC,z3,z4,z5,eJ⟩:=hp f.o;have uH:e9 m (gR N ((0:Nat):Int)):=.gR N 0 ⟨aq,aq,z,z,.inl rfl⟩ (by
    have:10^3<=10^(2*m+1):=k5 z z
    omega) z
   have WS:=A uH;clear f O cp ig uH;go_wp2;refine gd (j5 (fn:=f530) rfl _ _ (w.heap.size+1+1) 44 _ (0,0) _ _ rfl rfl (iJ U.out.o _ _ _ _ _ _ _) k2 rfl jk) rfl ?_;exact⟨e_.some _ _ _ (aR.jb _ 1 _ 2 bX N 0 0 none 0 none 0) WS.out,iU U.out.b z _ _ _ _ _ _ _⟩
end Go.bE
