/- ItemInForce, one part of the proof. -/
import Derived.Test.YtdhifebhlocikaaGreatDoorP03
import Derived.Test.YtdhifebhlocikaaGreatDoorP05
set_option linter.all false
set_option maxRecDepth 100000
set_option maxHeartbeats 16000000
namespace Go.aM
open Go Go.Proofs.Tryz Go.Proofs Go.RowKit Go.Lib
variable{Y:Nat}{e:Ending}
def ard{X:Nat}(h:Fj X Y e)(a:X<Y):e=.returned (.int .i64 (-1)):=by unfold Fj zo at h;simpa[a]using h
def arc{X:Nat}(h:Fj X Y e)(a:Y<=X):∃c:Int,e=.returned c/\0<=c/\c<=1:=by unfold Fj zo at h;refine⟨_,h,?_⟩;have:¬X<Y:=z;rw[bo this];split<;>omega
variable{t:Ψ}{n:Nat}
def am_(h:dG t n)(b:Bool)(G:decide (0<n)=b):decide (0<t.size)=b:=by rw[<-G,Wp];have:=h.zero;omega
def J4(h:dG t n)(a:0<n):0<t.size:=by
 have:¬t.size=0:=λe=>by have:=h.zero.1 e;omega
 omega
def aqE(a b:Ψ)(m n s u M:Nat)(w:Γ)(aL:dG a m)(G:dG b n)(N:m<=1000000000000000)(O:n<=1000000000000000)(fx:M=max s u)(I:M<=3)(X Y:Nat)(R:X=m*10^(M-s))(U:Y=n*10^(M-u))(Z:X<=1000000000000000000)(m6:Y<=1000000000000000000)(au:X<Y):χ 566 #[.agg #[.bool true,a,s],.agg #[.bool false,b,u]] w λe w'=>nU false (Y-X) M e:=by
 have zQ:max (s:Int) (u:Int)=M:=z;have Q:Hid (∀w,χ 573 #[.agg #[.bool true,a,s],M] w λe w'=>nU true X M e):=λw=>by rw[R];exact Az true a m s M w aL N z I
 have P:Hid (∀w,χ 573 #[.agg #[.bool false,b,u],M] w λe w'=>nU false Y M e):=λw=>by rw[U];exact Az false b n u M w G O z I
 have T:=A (QE w (.bool true) (.string a) s (.bool false) (.string b) u (.bool false) (.string ⟨#[]⟩) (.int .i64 0));have K:Hid (X<256^16/\Y<256^16):=⟨pN (ET Z) al,pN (ET m6) al⟩;have E:=A au;clear aL G R U fx au N O Z m6 I;go_enter Q_,Q'
 go_wp2_with (first
  |(have _:=bi;go_at_call 575;(with_reducible refine(Vy q B Y X _ V H K.out.2 (AK E.out)).mono ?_);rintro e g ⟨⟨t,rfl,aj⟩,f⟩;have lw:g ⟨c,0,none⟩=false:=((f.cell bw).trans (by simp[go_sem, *]));have hK:g ⟨c,2,none⟩=M:=((f.cell bw).trans (by simp[go_sem, *]));have gg:g ⟨cF,0,none⟩=false:=((f.cell bw).trans (by simp[go_sem, *]));have cr:g ⟨cF,1,none⟩=some (.string ⟨#[]⟩):=((f.cell bw).trans (by simp[go_sem, *]));have dy:g ⟨cF,2,none⟩=(0:Int):=((f.cell bw).trans (by simp[go_sem, *]));have z0:g.frozen? ⟨cF,0,none⟩=false:=((f.frozen bw).trans (by simp[go_sem, *]));have cC:g.frozen? ⟨cF,1,none⟩=false:=((f.frozen bw).trans (by simp[go_sem, *]));have dC:g.frozen? ⟨cF,2,none⟩=false:=((f.frozen bw).trans (by simp[go_sem, *]));have J:w.heap.size<=c:=(by have:=bI.out;omega);have F:w.heap.size<=j:=z;have hR:Hid (β w g):=((((((((d.out.h.setCell (p:=⟨c,0,none⟩) J _).setCell (p:=⟨c,1,none⟩) J _).setCell (p:=⟨c,2,none⟩) J _).setCell (p:=⟨j,0,none⟩) F _).setCell (p:=⟨j,1,none⟩) F _).setCell (p:=⟨j,2,none⟩) F _).alloc bw _).trans (f.mono bw));have qT:0<(t.size:Int):=(by have:=J4 aj (by have:=E.out;omega);omega))
  |(have _:=H;go_at_call 573;(with_reducible refine(P.out _).mono ?_);rintro e C ⟨⟨q,rfl,V⟩,D⟩;have r:=S.K D;have p8:=A ((k.out.alloc _).K D);have fi:=r.bi;have b_:=r.c1;have cv:=r.c2;have iS:=r.lt;have o:=A (r.alloc (.cells #[.bool false,q,M] 338 (0,0)));have l:=A (hv.d_ C (.bool false) (.string q) M);have d:=A (p8.out.alloc (.cells #[.bool false,q,M] 338 (0,0)));have lQ:Hid (∀w,Calls prog 574 #[B,q] w λe w'=>e=.returned (.int .i64 (-1))/\w=w'):=(λw=>(M_ B q X Y w H V K.out.1 K.out.2).mono λe w' h=>⟨ard h.1 E.out,h.2⟩))
  |(go_at_call 573;(with_reducible refine(Q.out _).mono ?_);rintro e x ⟨⟨B,rfl,H⟩,L⟩;have k:=A (T.out.K L);have S:=hv.d_ x (.bool true) (.string B) M;have b7:=k.out.q.lt;have cw:=k.out.p.lt;have dA:=k.out.q.bi;have ak:=k.out.q.c1;have aI:=k.out.q.c2;have bv:=k.out.p.c2)
  |(go_at_call 574;(with_reducible refine(lQ.out _).mono ?_);rintro e w3 ⟨rfl,vZ⟩;rw[vZ]at o l d;have nB:x.heap.size<C.heap.size:=iS;have W:w.heap.size+1+1<x.heap.size:=k.out.r.lt;clear S r fi b_ cv dA ak aI bv b7 cw iS Q P L D vZ k p8 T;generalize x.heap.size=c at*;generalize C.heap.size=j at*;obtain⟨cF,y⟩:∃cF,cF=w.heap.size+1+1:=⟨_,rfl⟩;have bI:Hid (w.heap.size<=cF):=(by rw[y];show w.heap.size<=_;omega);rw[<-y]at d W;rw[<-y];clear y;have bi:=o.out.bi;have c1:=o.out.c1;have c2:=o.out.c2;have gW:=l.out.bi;have eM:=l.out.c1;have ft:=l.out.c2;have v0:=d.out.r.bi;have el:=d.out.r.c1;have eq:=d.out.r.c2;have eg:=o.out.ai (i:=0);have dz:=o.out.ai (i:=1);have dJ:=o.out.ai (i:=2);have u0:=l.out.ai (i:=0);have u1:=l.out.ai (i:=1);have u2:=l.out.ai (i:=2);have bY:=d.out.r.ai (i:=0);have bH:=d.out.r.ai (i:=1);have g6:=d.out.r.ai (i:=2);have bT:c≠j:=sM nB;have eW:j≠c:=it bT;have he:cF≠c:=sM W;have lN:c≠cF:=it he;have n5:cF≠j:=z;have rT:j≠cF:=it n5;have gF:c<w3.heap.size:=o.out.lt;have i3:j<w3.heap.size:=l.out.lt;have od:cF<w3.heap.size:=d.out.r.lt))
 exact apo
def aqD(a b:Ψ)(m n s u M:Nat)(w:Γ)(aL:dG a m)(G:dG b n)(O:m<=1000000000000000)(P:n<=1000000000000000)(fx:M=max s u)(J:M<=3)(X Y:Nat)(S:X=m*10^(M-s))(V:Y=n*10^(M-u))(m5:X<=1000000000000000000)(m6:Y<=1000000000000000000)(au:X<Y):χ 566 #[.agg #[.bool false,a,s],.agg #[.bool true,b,u]] w λe w'=>nU true (Y-X) M e:=by
 have zQ:max (s:Int) (u:Int)=M:=z;have R:Hid (∀w,χ 573 #[.agg #[.bool false,a,s],M] w λe w'=>nU false X M e):=λw=>by rw[S];exact Az false a m s M w aL O z J
 have Q:Hid (∀w,χ 573 #[.agg #[.bool true,b,u],M] w λe w'=>nU true Y M e):=λw=>by rw[V];exact Az true b n u M w G P z J
 have T:=A (QE w (.bool false) (.string a) s (.bool true) (.string b) u (.bool false) (.string ⟨#[]⟩) (.int .i64 0));have L:Hid (X<256^16/\Y<256^16):=⟨pN (ET m5) al,pN (ET m6) al⟩;have C:=A au;clear aL G S V fx au O P m5 m6 J;go_enter Q_,Q'
 go_wp2_with (first
  |(have _:=bi;go_at_call 575;(with_reducible refine(Vy q D Y X _ W I L.out.2 (AK C.out)).mono ?_);rintro e g ⟨⟨t,rfl,aj⟩,f⟩;have lw:g ⟨c,0,none⟩=true:=((f.cell bw).trans (by simp[go_sem, *]));have hK:g ⟨c,2,none⟩=M:=((f.cell bw).trans (by simp[go_sem, *]));have gg:g ⟨cF,0,none⟩=false:=((f.cell bw).trans (by simp[go_sem, *]));have cr:g ⟨cF,1,none⟩=some (.string ⟨#[]⟩):=((f.cell bw).trans (by simp[go_sem, *]));have dy:g ⟨cF,2,none⟩=(0:Int):=((f.cell bw).trans (by simp[go_sem, *]));have z0:g.frozen? ⟨cF,0,none⟩=false:=((f.frozen bw).trans (by simp[go_sem, *]));have cC:g.frozen? ⟨cF,1,none⟩=false:=((f.frozen bw).trans (by simp[go_sem, *]));have dC:g.frozen? ⟨cF,2,none⟩=false:=((f.frozen bw).trans (by simp[go_sem, *]));have K:w.heap.size<=c:=(by have:=y.out;omega);have H:w.heap.size<=j:=z;have hR:Hid (β w g):=((((((((d.out.h.setCell (p:=⟨c,0,none⟩) K _).setCell (p:=⟨c,1,none⟩) K _).setCell (p:=⟨c,2,none⟩) K _).setCell (p:=⟨j,0,none⟩) H _).setCell (p:=⟨j,1,none⟩) H _).setCell (p:=⟨j,2,none⟩) H _).alloc bw _).trans (f.mono bw));have qT:0<(t.size:Int):=(by have:=J4 aj (by have:=C.out;omega);omega))
  |(have _:=I;go_at_call 573;(with_reducible refine(Q.out _).mono ?_);rintro e E ⟨⟨q,rfl,W⟩,F⟩;have r:=U.K F;have p8:=A ((k.out.alloc _).K F);have fi:=r.bi;have b_:=r.c1;have cv:=r.c2;have iS:=r.lt;have o:=A (r.alloc (.cells #[.bool true,q,M] 338 (0,0)));have l:=A (hv.d_ E (.bool true) (.string q) M);have d:=A (p8.out.alloc (.cells #[.bool true,q,M] 338 (0,0)));have lQ:Hid (∀w,Calls prog 574 #[D,q] w λe w'=>e=.returned (.int .i64 (-1))/\w=w'):=(λw=>(M_ D q X Y w I W L.out.1 L.out.2).mono λe w' h=>⟨ard h.1 C.out,h.2⟩))
  |(go_at_call 573;(with_reducible refine(R.out _).mono ?_);rintro e x ⟨⟨D,rfl,I⟩,N⟩;have k:=A (T.out.K N);have U:=hv.d_ x (.bool false) (.string D) M;have b7:=k.out.q.lt;have cw:=k.out.p.lt;have dA:=k.out.q.bi;have ak:=k.out.q.c1;have aI:=k.out.q.c2;have bv:=k.out.p.c2)
  |(go_at_call 574;(with_reducible refine(lQ.out _).mono ?_);rintro e w3 ⟨rfl,vZ⟩;rw[vZ]at o l d;have nB:x.heap.size<E.heap.size:=iS;have Z:w.heap.size+1+1<x.heap.size:=k.out.r.lt;clear U r fi b_ cv dA ak aI bv b7 cw iS R Q N F vZ k p8 T;generalize x.heap.size=c at*;generalize E.heap.size=j at*;obtain⟨cF,B⟩:∃cF,cF=w.heap.size+1+1:=⟨_,rfl⟩;have y:Hid (w.heap.size<=cF):=(by rw[B];show w.heap.size<=_;omega);rw[<-B]at d Z;rw[<-B];clear B;have bi:=o.out.bi;have c1:=o.out.c1;have c2:=o.out.c2;have gW:=l.out.bi;have eM:=l.out.c1;have ft:=l.out.c2;have v0:=d.out.r.bi;have el:=d.out.r.c1;have eq:=d.out.r.c2;have eg:=o.out.ai (i:=0);have dz:=o.out.ai (i:=1);have dJ:=o.out.ai (i:=2);have u0:=l.out.ai (i:=0);have u1:=l.out.ai (i:=1);have u2:=l.out.ai (i:=2);have bY:=d.out.r.ai (i:=0);have bH:=d.out.r.ai (i:=1);have g6:=d.out.r.ai (i:=2);have bT:c≠j:=sM nB;have eW:j≠c:=it bT;have he:cF≠c:=sM Z;have lN:c≠cF:=it he;have n5:cF≠j:=z;have rT:j≠cF:=it n5;have gF:c<w3.heap.size:=o.out.lt;have i3:j<w3.heap.size:=l.out.lt;have od:cF<w3.heap.size:=d.out.r.lt))
 refine gd (by simp[results,afj,go_sem,gg,cr,dy];rfl) rfl ?_;exact⟨⟨t,by rw[am_ aj true (by have:=C.out;simp;omega)],aj⟩,((hR.out.setCell (p:=⟨cF,0,none⟩) y.out _).setCell (p:=⟨cF,1,none⟩) y.out _).setCell (p:=⟨cF,2,none⟩) y.out _⟩
def aqG(a b:Ψ)(m n s u M:Nat)(w:Γ)(aL:dG a m)(G:dG b n)(L:m<=1000000000000000)(N:n<=1000000000000000)(fx:M=max s u)(I:M<=3)(X Y:Nat)(Q:X=m*10^(M-s))(U:Y=n*10^(M-u))(Z:X<=1000000000000000000)(m6:Y<=1000000000000000000)(au:Y<=X):χ 566 #[.agg #[.bool true,a,s],.agg #[.bool false,b,u]] w λe w'=>nU (decide (Y<X)) (X-Y) M e:=by
 have zQ:max (s:Int) (u:Int)=M:=z;have P:Hid (∀w,χ 573 #[.agg #[.bool true,a,s],M] w λe w'=>nU true X M e):=λw=>by rw[Q];exact Az true a m s M w aL L z I
 have O:Hid (∀w,χ 573 #[.agg #[.bool false,b,u],M] w λe w'=>nU false Y M e):=λw=>by rw[U];exact Az false b n u M w G N z I
 have T:=A (QE w (.bool true) (.string a) s (.bool false) (.string b) u (.bool false) (.string ⟨#[]⟩) (.int .i64 0));have J:Hid (X<256^16/\Y<256^16):=⟨pN (ET Z) al,pN (ET m6) al⟩;have S:=A au;clear aL G Q U fx au L N Z m6 I;go_enter Q_,Q'
 go_wp2_with (first
  |(have _:=bi;go_at_call 575;(with_reducible refine(Vy D q X Y _ H V J.out.1 S.out).mono ?_);rintro e g ⟨⟨t,rfl,aj⟩,f⟩;have lw:g ⟨o,0,none⟩=true:=((f.cell z).trans (by assumption));have hK:g ⟨o,2,none⟩=M:=((f.cell z).trans (by assumption));have gg:g ⟨cF,0,none⟩=false:=((f.cell z).trans (by assumption));have cr:g ⟨cF,1,none⟩=some (.string ⟨#[]⟩):=((f.cell z).trans (by assumption));have dy:g ⟨cF,2,none⟩=(0:Int):=((f.cell z).trans (by assumption));have z0:g.frozen? ⟨cF,0,none⟩=false:=((f.frozen z).trans (by assumption));have cC:g.frozen? ⟨cF,1,none⟩=false:=((f.frozen z).trans (by assumption));have dC:g.frozen? ⟨cF,2,none⟩=false:=((f.frozen z).trans (by assumption));have ml:w.heap.size<=o:=(by have:=B.out;omega);have g_:w.heap.size<=r:=z;have hR:Hid (β w g):=(b3 d.out.h f);have qT:True:=gL)
  |(have _:=H;go_at_call 573;(with_reducible refine(O.out _).mono ?_);rintro e E ⟨⟨q,rfl,V⟩,F⟩;have x:=R.K F;have p8:=A ((j.out.alloc _).K F);have fi:=x.bi;have b_:=x.c1;have cv:=x.c2;have iS:=x.lt;have l:=A (x.alloc (.cells #[.bool false,q,M] 338 (0,0)));have k:=A (hv.d_ E (.bool false) (.string q) M);have d:=A (p8.out.alloc (.cells #[.bool false,q,M] 338 (0,0)));have lQ:Hid (∀w,Calls prog 574 #[D,q] w λe w'=>(∃c:Int,e=.returned c/\0<=c/\c<=1)/\w=w'):=(λw=>(M_ D q X Y w H V J.out.1 J.out.2).mono λe w' h=>⟨arc h.1 S.out,h.2⟩))
  |(go_at_call 573;(with_reducible refine(P.out _).mono ?_);rintro e y ⟨⟨D,rfl,H⟩,K⟩;have j:=A (T.out.K K);have R:=hv.d_ y (.bool true) (.string D) M;have b7:=j.out.q.lt;have cw:=j.out.p.lt;have dA:=j.out.q.bi;have ak:=j.out.q.c1;have aI:=j.out.q.c2;have bv:=j.out.p.c2)
  |(go_at_call 574;(with_reducible refine(lQ.out _).mono ?_);rintro e w3 ⟨⟨c,rfl,lz,jF⟩,vZ⟩;have m8:¬(c<0):=z;rw[vZ]at l k d;have nB:y.heap.size<E.heap.size:=iS;have W:w.heap.size+1+1<y.heap.size:=j.out.r.lt;clear R x fi b_ cv dA ak aI bv b7 cw iS P O K F vZ j p8 T;generalize y.heap.size=o at*;generalize E.heap.size=r at*;obtain⟨cF,C⟩:∃cF,cF=w.heap.size+1+1:=⟨_,rfl⟩;have B:Hid (w.heap.size<=cF):=(by rw[C];show w.heap.size<=_;omega);rw[<-C]at d W;rw[<-C];clear C;have bi:=l.out.bi;have c1:=l.out.c1;have c2:=l.out.c2;have gW:=k.out.bi;have eM:=k.out.c1;have ft:=k.out.c2;have v0:=d.out.r.bi;have el:=d.out.r.c1;have eq:=d.out.r.c2;have eg:=l.out.ai (i:=0);have dz:=l.out.ai (i:=1);have dJ:=l.out.ai (i:=2);have u0:=k.out.ai (i:=0);have u1:=k.out.ai (i:=1);have u2:=k.out.ai (i:=2);have bY:=d.out.r.ai (i:=0);have bH:=d.out.r.ai (i:=1);have g6:=d.out.r.ai (i:=2);have bT:o≠r:=sM nB;have eW:r≠o:=it bT;have he:cF≠o:=sM W;have lN:o≠cF:=it he;have n5:cF≠r:=z;have rT:r≠cF:=it n5;have gF:o<w3.heap.size:=l.out.lt;have i3:r<w3.heap.size:=k.out.lt;have od:cF<w3.heap.size:=d.out.r.lt))
 refine gd (by simp[results,afj,go_sem,gg,cr,dy];rfl) rfl ?_;exact⟨⟨t,by rw[am_ aj (decide (Y<X)) (by rw[Wp];omega)],aj⟩,((hR.out.setCell (p:=⟨cF,0,none⟩) B.out _).setCell (p:=⟨cF,1,none⟩) B.out _).setCell (p:=⟨cF,2,none⟩) B.out _⟩
def aqF(a b:Ψ)(m n s u M:Nat)(w:Γ)(aL:dG a m)(G:dG b n)(K:m<=1000000000000000)(L:n<=1000000000000000)(fx:M=max s u)(H:M<=3)(X Y:Nat)(P:X=m*10^(M-s))(S:Y=n*10^(M-u))(W:X<=1000000000000000000)(Z:Y<=1000000000000000000)(au:Y<=X):χ 566 #[.agg #[.bool false,a,s],.agg #[.bool true,b,u]] w λe w'=>nU false (X-Y) M e:=by
 have zQ:max (s:Int) (u:Int)=M:=z;have O:Hid (∀w,χ 573 #[.agg #[.bool false,a,s],M] w λe w'=>nU false X M e):=λw=>by rw[P];exact Az false a m s M w aL K z H
 have N:Hid (∀w,χ 573 #[.agg #[.bool true,b,u],M] w λe w'=>nU true Y M e):=λw=>by rw[S];exact Az true b n u M w G L z H
 have T:=A (QE w (.bool false) (.string a) s (.bool true) (.string b) u (.bool false) (.string ⟨#[]⟩) (.int .i64 0));have I:Hid (X<256^16/\Y<256^16):=⟨pN (ET W) al,pN (ET Z) al⟩;have R:=A au;clear aL G P S fx au K L W Z H;go_enter Q_,Q'
 go_wp2_with (first
  |(have _:=bi;go_at_call 575;(with_reducible refine(Vy C q X Y _ F U I.out.1 R.out).mono ?_);rintro e g ⟨⟨t,rfl,aj⟩,f⟩;have lw:g ⟨o,0,none⟩=false:=((f.cell z).trans (by assumption));have hK:g ⟨o,2,none⟩=M:=((f.cell z).trans (by assumption));have gg:g ⟨cF,0,none⟩=false:=((f.cell z).trans (by assumption));have cr:g ⟨cF,1,none⟩=some (.string ⟨#[]⟩):=((f.cell z).trans (by assumption));have dy:g ⟨cF,2,none⟩=(0:Int):=((f.cell z).trans (by assumption));have z0:g.frozen? ⟨cF,0,none⟩=false:=((f.frozen z).trans (by assumption));have cC:g.frozen? ⟨cF,1,none⟩=false:=((f.frozen z).trans (by assumption));have dC:g.frozen? ⟨cF,2,none⟩=false:=((f.frozen z).trans (by assumption));have ml:w.heap.size<=o:=(by have:=bI.out;omega);have g_:w.heap.size<=r:=z;have hR:Hid (β w g):=(b3 d.out.h f);have qT:True:=gL)
  |(have _:=F;go_at_call 573;(with_reducible refine(N.out _).mono ?_);rintro e D ⟨⟨q,rfl,U⟩,E⟩;have x:=Q.K E;have p8:=A ((j.out.alloc _).K E);have fi:=x.bi;have b_:=x.c1;have cv:=x.c2;have iS:=x.lt;have l:=A (x.alloc (.cells #[.bool true,q,M] 338 (0,0)));have k:=A (hv.d_ D (.bool true) (.string q) M);have d:=A (p8.out.alloc (.cells #[.bool true,q,M] 338 (0,0)));have lQ:Hid (∀w,Calls prog 574 #[C,q] w λe w'=>(∃c:Int,e=.returned c/\0<=c/\c<=1)/\w=w'):=(λw=>(M_ C q X Y w F U I.out.1 I.out.2).mono λe w' h=>⟨arc h.1 R.out,h.2⟩))
  |(go_at_call 573;(with_reducible refine(O.out _).mono ?_);rintro e y ⟨⟨C,rfl,F⟩,J⟩;have j:=A (T.out.K J);have Q:=hv.d_ y (.bool false) (.string C) M;have b7:=j.out.q.lt;have cw:=j.out.p.lt;have dA:=j.out.q.bi;have ak:=j.out.q.c1;have aI:=j.out.q.c2;have bv:=j.out.p.c2)
  |(go_at_call 574;(with_reducible refine(lQ.out _).mono ?_);rintro e w3 ⟨⟨c,rfl,lz,jF⟩,vZ⟩;have m8:¬(c<0):=z;rw[vZ]at l k d;have nB:y.heap.size<D.heap.size:=iS;have V:w.heap.size+1+1<y.heap.size:=j.out.r.lt;clear Q x fi b_ cv dA ak aI bv b7 cw iS O N J E vZ j p8 T;generalize y.heap.size=o at*;generalize D.heap.size=r at*;obtain⟨cF,B⟩:∃cF,cF=w.heap.size+1+1:=⟨_,rfl⟩;have bI:Hid (w.heap.size<=cF):=(by rw[B];show w.heap.size<=_;omega);rw[<-B]at d V;rw[<-B];clear B;have bi:=l.out.bi;have c1:=l.out.c1;have c2:=l.out.c2;have gW:=k.out.bi;have eM:=k.out.c1;have ft:=k.out.c2;have v0:=d.out.r.bi;have el:=d.out.r.c1;have eq:=d.out.r.c2;have eg:=l.out.ai (i:=0);have dz:=l.out.ai (i:=1);have dJ:=l.out.ai (i:=2);have u0:=k.out.ai (i:=0);have u1:=k.out.ai (i:=1);have u2:=k.out.ai (i:=2);have bY:=d.out.r.ai (i:=0);have bH:=d.out.r.ai (i:=1);have g6:=d.out.r.ai (i:=2);have bT:o≠r:=sM nB;have eW:r≠o:=it bT;have he:cF≠o:=sM V;have lN:o≠cF:=it he;have n5:cF≠r:=z;have rT:r≠cF:=it n5;have gF:o<w3.heap.size:=l.out.lt;have i3:r<w3.heap.size:=k.out.lt;have od:cF<w3.heap.size:=d.out.r.lt))
 exact apo
def ahH(D:Int)(M:Nat)(e:Ending):Prop:=∃(neg:Bool) (n:Nat),nU neg n M e/\(n=0↔D=0)/\(n≠0->neg=decide (D<0))
def eA(p:Bool)(X:Nat):Int:=if p=true then-(X:Int)else X
def aHi(p q:Bool)(a b:Ψ)(m n s u M:Nat)(w:Γ)(aL:dG a m)(G:dG b n)(c:m<=1000000000000000)(d:n<=1000000000000000)(i:M=max s u)(j:M<=3)(X Y:Nat)(f:X=m*10^(M-s))(g:Y=n*10^(M-u)):χ 566 #[.agg #[.bool p,a,s],.agg #[.bool (!q),b,u]] w λe w'=>ahH (eA p X-eA q Y) M e:=by
 have o:10^(M-s)<=10^3:=k5 z z;have r:10^(M-u)<=10^3:=k5 z z;have k:X<=1000000000000000000:=by rw[f];exact yQ c o
 have l:Y<=1000000000000000000:=by rw[g];exact yQ d r
 cases p<;>cases q;by_cases h:X<Y;exact(aqD a b m n s u M w aL G c d i j X Y f g k l h).mono λe w' ⟨H,I⟩=>⟨⟨_,_,H,by simp[eA];omega,λ_=>by simp[eA];omega⟩,I⟩;exact(aqF a b m n s u M w aL G c d i j X Y f g k l z).mono λe w' ⟨H,I⟩=>⟨⟨_,_,H,by simp[eA];omega,λ_=>by simp[eA];omega⟩,I⟩;exact(acO false a b m n s u M w aL G c d i j X Y f g k l).mono λe w' ⟨H,I⟩=>⟨⟨_,_,H,by simp[eA];omega,λ_=>by simp[eA];omega⟩,I⟩;exact(acO true a b m n s u M w aL G c d i j X Y f g k l).mono λe w' ⟨H,I⟩=>⟨⟨_,_,H,by simp[eA];omega,λh=>by simp[eA];omega⟩,I⟩;by_cases h:X<Y;exact(aqE a b m n s u M w aL G c d i j X Y f g k l h).mono λe w' ⟨H,I⟩=>⟨⟨_,_,H,by simp[eA];omega,λ_=>by simp[eA];omega⟩,I⟩;exact(aqG a b m n s u M w aL G c d i j X Y f g k l z).mono λe w' ⟨H,I⟩=>⟨⟨_,_,H,by simp[eA];omega,λt=>by rw[Wp];simp[eA];omega⟩,I⟩
def Ey(D:Int):Int:=if D=0 then 0 else if D<0 then-1 else 1
def Fk(n:Int)(e:Ending):Prop:=e=.returned (.int .i64 n)
def aI1{D:Int}(aj:dG t n)(a:n=0↔D=0)(h:((t.size:Int)==0)=true):Ey D=0:=by
 have h:(t.size:Int)=0:=by simpa using h
 have:=aj.zero.1 z;unfold Ey;rw[ci (a.1 this)]
def arS{D:Int}(aj:dG t n)(a:n=0↔D=0)(h:((t.size:Int)==0)=false):n≠0/\D≠0:=by
 have h:¬(t.size:Int)=0:=by rw[mx]at h;exact h
 have I:n≠0:=λe=>h (by have:=aj.zero.2 e;omega);exact⟨I,λe=>I (a.2 e)⟩
variable{neg:Bool}
def aI2{D:Int}(aj:dG t n)(c:n=0↔D=0)(h:((t.size:Int)==0)=false)(d:n≠0->neg=decide (D<0))(b:neg=true):Ey D= -1:=by
 let⟨H,I⟩:=arS aj c h;have a:=d H;rw[b]at a;have a:D<0:=by simpa using a.symm
 unfold Ey;rw[bo I,ci a]
def aI3{D:Int}(aj:dG t n)(c:n=0↔D=0)(h:((t.size:Int)==0)=false)(d:n≠0->neg=decide (D<0))(b:neg=false):Ey D=1:=by
 let⟨H,I⟩:=arS aj c h;have a:=d H;rw[b]at a;have a:¬D<0:=by simpa using a.symm
 unfold Ey;rw[bo I,bo a]
def aiM(b c:Int)(a f M:Nat)(w:Γ)(H:hC b a)(I:hC c f)(x:M=max a f)(y:M<=3)(D:Int)(u:D=eA (decide (b<0)) (b.natAbs*10^(M-a))-eA (decide (c<0)) (c.natAbs*10^(M-f))):χ 538 #[.agg #[b,a],.agg #[c,f]] w λe w'=>Fk (Ey D) e:=by
 have G:=A λw=>x7 b a w H;have F:=A λw=>x7 c f w I;have K:Hid (∀d g w,dG d b.natAbs->dG g c.natAbs->χ 566 #[.agg #[.bool (decide (b<0)),d,a],.agg #[.bool (!(decide (c<0))),g,f]] w λe w'=>ahH D M e):=λd g w k j=>by rw[u];exact aHi _ _ d g _ _ a f M w k j (by have:=H.2.2;omega) (by have:=I.2.2;omega) x y _ _ rfl rfl
 have T:=A (k0 w (.cells #[b,a] 41 (0,0)) (.cells #[c,f] 41 (0,0)));clear H I x y u;generalize decide (b<0)=p at*;generalize decide (c<0)=q at*;go_enter func538,ntmps538;go_wp2_with (first|(have _:=j;go_at_call 566;(with_reducible refine(K.out d g _ k j).mono ?_);rintro e w3 ⟨⟨neg,n,⟨t,rfl,aj⟩,o,z⟩,r⟩)|(have _:=k;go_at_call 305;(with_reducible refine(F.out _).mono ?_);rintro e L ⟨⟨g,rfl,j⟩,s⟩;have h:=J.K s;have cw:=h.lt;have fi:=h.bi;have N:=h.c1;have O:=h.c2;have i:=A ((l.out.alloc l.out.size (.cells #[.bool p,d,a] 338 (0,0))).trans (s.mono (by have:=l.out.size;simp;omega))))|(go_at_call 305;(with_reducible refine(G.out _).mono ?_);rintro e E ⟨⟨d,rfl,k⟩,B⟩;have m:=T.out.K B;have l:=A m.h;have J:=hv.d_ E (.bool p) (.string d) a;let⟨bi,c1⟩:=j' m.q;have b7:=m.lt));all_goals((have C:w.heap.size<=w3.heap.size:=by have H:=r.size;rw[jt]at H;have:=i.out.size;omega);have i5:β w (w3.alloc (.cells #[.bool neg,t,M] 338 (0,0))):=((i.out.alloc i.out.size _).trans (r.mono (by have:=i.out.size;simp;omega))).alloc C _;go_ret;first|exact⟨by unfold Fk;rw[aI1 aj o (by assumption)];rfl,i5⟩|exact⟨by unfold Fk;rw[aI2 aj o (by assumption) z (by assumption)];rfl,i5⟩|exact⟨by unfold Fk;rw[aI3 aj o (by assumption) z (by assumption)];rfl,i5⟩)
def yI(neg:Bool)(n S:Nat):List UInt8:=(if neg=true then [45]else [])++(decDigits (n/10^S)++(if 0<S then 46::(decDigits (10^S+n%10^S)).drop 1 else []))
def EF(h:t.data.toList=decDigits n)(c:n<=1000000000000000):t.size<=1000000000000001/\1<=t.size:=by
 have H:=afg n;have I:=UM n n (aY _);rw[<-h,iV]at H;have H:t.size=nDigits n:=H;have b:1<=nDigits n:=by by_cases a:n<10;rw[afi a];omega;rw[nDigits_big a];omega
 omega
def SV(t:Ψ):(t.extract 1 t.size).data.toList=t.data.toList.drop 1:=afh t 1
def aKL(N:Int)(S:Nat)(w:Γ)(h:hC N S)(O:0<S)(bt:S<=3)(n:Nat)(t:n=N.natAbs)(G:decide (N<0)=true):χ 214 #[.agg #[N,S]] w λe w'=>IH (yI true n S) e:=by
 have tu:n<=1000000000000000:=by have:=h.2.2;omega
 have ag:10^S<=10^3:=k5 z z;have E:0<10^S:=H_ z;have T:Hid (∀w,χ 305 #[.agg #[N,S]] w λe w'=>nU true n S e):=λw=>by rw[<-G,t];exact x7 N S w h
 have u:Hid (∀w,χ 306 #[S] w λe w'=>h1 (10^S) e):=λw=>Kp S w z;clear h t G;obtain⟨P,V⟩:∃P,Hid (P=10^S):=⟨10^S,A rfl⟩;unfold yI;rw[<-V.out]at u ag E|-;have Y:n/P<=n:=H7 _ _;have hW:n%P<P:=yP _ E;obtain⟨q,s⟩:∃q,Hid (q=n/P):=⟨n/P,A rfl⟩;obtain⟨r,c⟩:∃r,Hid (r=n%P):=⟨n%P,A rfl⟩;rw[<-s.out]at Y|-;rw[<-c.out]at hW;rw[<-c.out];have dZ:0<(S:Int):=z;rw[ci O];go_enter Q7,V2
 go_wp2_with (first
  |(have _:=o;go_at_call 54;(with_reducible refine(Fu C L P r _ l o z z).mono ?_);rintro e bc ⟨⟨t5,rfl,H⟩,R⟩;have Z:=A (b3 jx.out R))
  |(have _:=H;go_at_call 308;(with_reducible refine(EC t5 (P+r) _ H z).mono ?_);rintro e br ⟨⟨b,rfl,J⟩,U⟩;have X:=A (b3 Z.out U);have k:=EF J z;have aa:=k.1;have ab:=k.2;have CF:(1:Int)<=(b.size:Int):=z;have I:=SV b;have M:=A I;clear I k;have z9:(b.extract 1 b.size).size<=1000000000000001:=bw)
  |(have _:=m;go_at_call 308;(with_reducible refine(EC K q _ m z).mono ?_);rintro e x ⟨⟨t4,rfl,F⟩,a⟩;have jx:=A (b3 i5.out a);have lw:x ⟨d,0,none⟩=true:=((j.K a).bi);have hK:x ⟨d,2,none⟩=S:=((j.K a).c2);have z4:=(EF F z).1;have oO:=j.K a)
  |(have _:=l;go_at_call 307;(with_reducible refine(Ai g C n P _ hb l z z z).mono ?_);rintro e w3 ⟨⟨K,L,rfl,m,o⟩,y⟩;have j:=i.K y;rw[<-s.out]at m;rw[<-c.out]at o;have i5:=A (b3 W.out y))
  |(have _:=D;go_at_call 306;(with_reducible refine(u.out _).mono ?_);rintro e ap ⟨⟨C,rfl,l⟩,B⟩;have i:=D.K B;have cw:=i.lt;have ak:=i.c1;have W:=A ((f.out.alloc f.out.size (.cells #[.bool true,g,S] 338 (0,0))).trans (B.mono (by have:=f.out.size;simp;omega))))
  |(go_at_call 305;(with_reducible refine(T.out _).mono ?_);rintro e d ⟨⟨g,rfl,hb⟩,Q⟩;have f:=A ((fu w (.cells #[N,S] 41 (0,0))).trans (Q.mono aq));have D:=hv.d_ d (.bool true) (.string g) S))
 go_ret;exact⟨⟨_,rfl,by simp only[SC,F,M.out,J];simp⟩,X.out⟩
def aKM(N:Int)(w:Γ)(h:hC N ((0:Nat):Int))(n:Nat)(t:n=N.natAbs)(F:decide (N<0)=true):χ 214 #[.agg #[N,.int .i64 0]] w λe w'=>IH (yI true n 0) e:=by
 have tu:n<=1000000000000000:=by have:=h.2.2;omega
 have ag:10^0<=10^3:=k5 z z;have E:0<10^0:=H_ z;have M:Hid (∀w,χ 305 #[.agg #[N,.int .i64 0]] w λe w'=>nU true n 0 e):=λw=>by rw[<-F,t];exact x7 N 0 w h
 have u:Hid (∀w,χ 306 #[.int .i64 0] w λe w'=>h1 (10^0) e):=λw=>Kp 0 w z;clear h t F;obtain⟨P,Q⟩:∃P,Hid (P=10^0):=⟨10^0,A rfl⟩;unfold yI;rw[<-Q.out]at u ag E|-;have S:n/P<=n:=H7 _ _;have U:n%P<P:=yP _ E;obtain⟨q,o⟩:∃q,Hid (q=n/P):=⟨n/P,A rfl⟩;obtain⟨r,s⟩:∃r,Hid (r=n%P):=⟨n%P,A rfl⟩;rw[<-o.out]at S|-;rw[<-s.out]at U;go_enter Q7,V2;go_wp2_with (first|(have _:=m;go_at_call 54;(with_reducible refine(Fu C J P r _ k m z z).mono ?_);rintro e bc ⟨⟨t5,rfl,G⟩,L⟩;have T:=Lib.hid (b3 jx L))|(have _:=G;go_at_call 308;(with_reducible refine(EC t5 (P+r) _ G z).mono ?_);rintro e br ⟨⟨b,rfl,W⟩,O⟩;have gC:=Lib.hid (b3 T O);have j:=EF W z;have Z:=j.1;have aa:=j.2;have X:(1:Int)<=(b.size:Int):=z;have H:=SV b;have Y:=Lib.hid H;clear H j;have z9:(b.extract 1 b.size).size<=1000000000000001:=bw)|(have _:=l;go_at_call 308;(with_reducible refine(EC I q _ l z).mono ?_);rintro e x ⟨⟨t4,rfl,o'⟩,a⟩;have jx:=A (b3 i5 a);have lw:x ⟨c,0,none⟩=true:=((i.K a).bi);have hK:x ⟨c,2,none⟩=(0:Int):=((i.K a).c2);have z4:=(EF o' z).1;have oO:=i.K a)|(have _:=k;go_at_call 307;(with_reducible refine(Ai f C n P _ V k z z z).mono ?_);rintro e w3 ⟨⟨I,J,rfl,l,m⟩,y⟩;have i:=g.K y;rw[<-o.out]at l;rw[<-s.out]at m;have i5:=A (b3 R y))|(have _:=D;go_at_call 306;(with_reducible refine(u.out _).mono ?_);rintro e ap ⟨⟨C,rfl,k⟩,B⟩;have g:=D.K B;have cw:=g.lt;have ak:=g.c1;have R:=A ((d.out.alloc d.out.size (.cells #[.bool true,f,.int .i64 0] 338 (0,0))).trans (B.mono (by have:=d.out.size;simp;omega))))|(go_at_call 305;(with_reducible refine(M.out _).mono ?_);rintro e c ⟨⟨f,rfl,V⟩,K⟩;have d:=A ((fu w (.cells #[N,.int .i64 0] 41 (0,0))).trans (K.mono aq));have D:=hv.d_ c (.bool true) (.string f) (.int .i64 0)));exact apg
def aKJ(N:Int)(S:Nat)(w:Γ)(h:hC N S)(O:0<S)(bt:S<=3)(n:Nat)(t:n=N.natAbs)(G:decide (N<0)=false):χ 214 #[.agg #[N,S]] w λe w'=>IH (yI false n S) e:=by
 have tu:n<=1000000000000000:=by have:=h.2.2;omega
 have ag:10^S<=10^3:=k5 z z;have E:0<10^S:=H_ z;have T:Hid (∀w,χ 305 #[.agg #[N,S]] w λe w'=>nU false n S e):=λw=>by rw[<-G,t];exact x7 N S w h
 have u:Hid (∀w,χ 306 #[S] w λe w'=>h1 (10^S) e):=λw=>Kp S w z;clear h t G;obtain⟨P,V⟩:∃P,Hid (P=10^S):=⟨10^S,A rfl⟩;unfold yI;rw[<-V.out]at u ag E|-;have Y:n/P<=n:=H7 _ _;have hW:n%P<P:=yP _ E;obtain⟨q,s⟩:∃q,Hid (q=n/P):=⟨n/P,A rfl⟩;obtain⟨r,c⟩:∃r,Hid (r=n%P):=⟨n%P,A rfl⟩;rw[<-s.out]at Y|-;rw[<-c.out]at hW;rw[<-c.out];have dZ:0<(S:Int):=z;rw[ci O];go_enter Q7,V2
 go_wp2_with (first
  |(have _:=o;go_at_call 54;(with_reducible refine(Fu C L P r _ l o z z).mono ?_);rintro e bc ⟨⟨t5,rfl,H⟩,R⟩;have Z:=A (b3 jx.out R))
  |(have _:=H;go_at_call 308;(with_reducible refine(EC t5 (P+r) _ H z).mono ?_);rintro e br ⟨⟨b,rfl,J⟩,U⟩;have X:=A (b3 Z.out U);have k:=EF J z;have aa:=k.1;have ab:=k.2;have CF:(1:Int)<=(b.size:Int):=z;have I:=SV b;have M:=A I;clear I k;have z9:(b.extract 1 b.size).size<=1000000000000001:=bw)
  |(have _:=m;go_at_call 308;(with_reducible refine(EC K q _ m z).mono ?_);rintro e x ⟨⟨t4,rfl,F⟩,a⟩;have jx:=A (b3 i5.out a);have lw:x ⟨d,0,none⟩=false:=((j.K a).bi);have hK:x ⟨d,2,none⟩=S:=((j.K a).c2);have z4:=(EF F z).1;have oO:=j.K a)
  |(have _:=l;go_at_call 307;(with_reducible refine(Ai g C n P _ hb l z z z).mono ?_);rintro e w3 ⟨⟨K,L,rfl,m,o⟩,y⟩;have j:=i.K y;rw[<-s.out]at m;rw[<-c.out]at o;have i5:=A (b3 W.out y))
  |(have _:=D;go_at_call 306;(with_reducible refine(u.out _).mono ?_);rintro e ap ⟨⟨C,rfl,l⟩,B⟩;have i:=D.K B;have cw:=i.lt;have ak:=i.c1;have W:=A ((f.out.alloc f.out.size (.cells #[.bool false,g,S] 338 (0,0))).trans (B.mono (by have:=f.out.size;simp;omega))))
  |(go_at_call 305;(with_reducible refine(T.out _).mono ?_);rintro e d ⟨⟨g,rfl,hb⟩,Q⟩;have f:=A ((fu w (.cells #[N,S] 41 (0,0))).trans (Q.mono aq));have D:=hv.d_ d (.bool false) (.string g) S))
 go_ret;exact⟨⟨_,rfl,by simp only[SC,F,M.out,J];simp⟩,X.out⟩
def aKK(N:Int)(w:Γ)(h:hC N ((0:Nat):Int))(n:Nat)(t:n=N.natAbs)(F:decide (N<0)=false):χ 214 #[.agg #[N,.int .i64 0]] w λe w'=>IH (yI false n 0) e:=by
 have tu:n<=1000000000000000:=by have:=h.2.2;omega
 have ag:10^0<=10^3:=k5 z z;have E:0<10^0:=H_ z;have M:Hid (∀w,χ 305 #[.agg #[N,.int .i64 0]] w λe w'=>nU false n 0 e):=λw=>by rw[<-F,t];exact x7 N 0 w h
 have u:Hid (∀w,χ 306 #[.int .i64 0] w λe w'=>h1 (10^0) e):=λw=>Kp 0 w z;clear h t F;obtain⟨P,Q⟩:∃P,Hid (P=10^0):=⟨10^0,A rfl⟩;unfold yI;rw[<-Q.out]at u ag E|-;have S:n/P<=n:=H7 _ _;have U:n%P<P:=yP _ E;obtain⟨q,o⟩:∃q,Hid (q=n/P):=⟨n/P,A rfl⟩;obtain⟨r,s⟩:∃r,Hid (r=n%P):=⟨n%P,A rfl⟩;rw[<-o.out]at S|-;rw[<-s.out]at U;go_enter Q7,V2;go_wp2_with (first|(have _:=m;go_at_call 54;(with_reducible refine(Fu C J P r _ k m z z).mono ?_);rintro e bc ⟨⟨t5,rfl,G⟩,L⟩;have T:=Lib.hid (b3 jx L))|(have _:=G;go_at_call 308;(with_reducible refine(EC t5 (P+r) _ G z).mono ?_);rintro e br ⟨⟨b,rfl,W⟩,O⟩;have gC:=Lib.hid (b3 T O);have j:=EF W z;have Z:=j.1;have aa:=j.2;have X:(1:Int)<=(b.size:Int):=z;have H:=SV b;have Y:=Lib.hid H;clear H j;have z9:(b.extract 1 b.size).size<=1000000000000001:=bw)|(have _:=l;go_at_call 308;(with_reducible refine(EC I q _ l z).mono ?_);rintro e x ⟨⟨t4,rfl,o'⟩,a⟩;have jx:=A (b3 i5 a);have lw:x ⟨c,0,none⟩=false:=((i.K a).bi);have hK:x ⟨c,2,none⟩=(0:Int):=((i.K a).c2);have z4:=(EF o' z).1;have oO:=i.K a)|(have _:=k;go_at_call 307;(with_reducible refine(Ai f C n P _ V k z z z).mono ?_);rintro e w3 ⟨⟨I,J,rfl,l,m⟩,y⟩;have i:=g.K y;rw[<-o.out]at l;rw[<-s.out]at m;have i5:=A (b3 R y))|(have _:=D;go_at_call 306;(with_reducible refine(u.out _).mono ?_);rintro e ap ⟨⟨C,rfl,k⟩,B⟩;have g:=D.K B;have cw:=g.lt;have ak:=g.c1;have R:=A ((d.out.alloc d.out.size (.cells #[.bool false,f,.int .i64 0] 338 (0,0))).trans (B.mono (by have:=d.out.size;simp;omega))))|(go_at_call 305;(with_reducible refine(M.out _).mono ?_);rintro e c ⟨⟨f,rfl,V⟩,K⟩;have d:=A ((fu w (.cells #[N,.int .i64 0] 41 (0,0))).trans (K.mono aq));have D:=hv.d_ c (.bool false) (.string f) (.int .i64 0)));exact apg
def aKI(N:Int)(S:Nat)(w:Γ)(h:hC N S)(b:S<=3):χ 214 #[.agg #[N,S]] w λe w'=>IH (yI (decide (N<0)) N.natAbs S) e:=by
 by_cases a:N<0
 .have hd:decide (N<0)=true:=by simp[a]
  rw[hd];by_cases af:0<S;exact aKL N S w h af b _ rfl hd;obtain rfl:S=0:=z;exact aKM N w h _ rfl hd
 .have hd:decide (N<0)=false:=by simp[a]
  rw[hd];by_cases af:0<S;exact aKJ N S w h af b _ rfl hd;obtain rfl:S=0:=z;exact aKK N w h _ rfl hd
def Mr(e:Ending):Prop:=∃(N:Int) (S:Nat),e=.returned (.tuple #[.agg #[.int .i64 N,.int .i64 S],.bool true])/\hC N S/\S<=3
variable{W:Γ}{b:Nat}{x y:Φ}
def hv.aIU{ai:Φ}(h:hv W b x y ai)(u:Φ):hv (W.setCell ⟨b,1,none⟩ u) b x u ai:=by refine⟨?_⟩;simp[World.setCell,VQ,h.h]
def hv.aIV{ai:Φ}(h:hv W b x y ai)(u:Φ):hv (W.setCell ⟨b,2,none⟩ u) b x y u:=by refine⟨?_⟩;simp[World.setCell,VQ,h.h]
structure rr (w wr:Γ) (bx b0:Nat) (neg:Bool) (n k:Nat) (t:Ψ):Prop where
 x:hv wr bx (.bool neg) (.string t) (.int .i64 k)
 r:wr.heap[b0]? =some (.cells #[.int .i64 0,.int .i64 0] 41 (0,0))
 t:dG t n
 n:n<=1000000000000000
 k:k<=3
 b:Below w.heap.size w wr
 g:w.heap.size<=bx/\w.heap.size<=b0/\bx<b0
variable{w wr:Γ}{c k:Nat}
def rr.K{w':Γ}(a:rr w wr c b neg n k t)(h:β wr w'):rr w w' c b neg n k t:=
 ⟨a.x.K h,(h.block b (hl.1 a.r).1).trans a.r,a.t,a.n,a.k,b3 a.b h,a.g⟩
def rr.drew{a:Nat}(c:rr w wr b a neg n k t):rr w wr.drew b a neg n k t:=c.K ((bl _ _).drew)
def rr.step{d m:Nat}{u:Ψ}(a:rr w wr b c neg n k t)(hu:dG u m)(e:m<=n)(f:d+1=k):rr w ((wr.setCell ⟨b,1,none⟩ (.string u)).setCell ⟨b,2,none⟩ (.int .i64 (d:Nat))) b c neg m d u:=
 ⟨(a.x.aIU _).aIV _,by rw[ht _ _ _ _ (by have:=a.g;show c≠b;omega),ht _ _ _ _ (by have:=a.g;show c≠b;omega)];exact a.r,hu,c6 e a.n,by have:=a.k;omega,(a.b.setCell (p:=⟨b,1,none⟩) a.g.1 _).setCell (p:=⟨b,2,none⟩) a.g.1 _,a.g⟩
def Ve(neg:Bool)(c:n<=1000000000000000)(b:k<=3)(h:k=0∨n%10≠0)(N:Int)(a:N=if neg=true then-(n:Int)else n):hC N k:=by refine⟨z,z,?_,?_,?_⟩;rw[a];split<;>omega;rw[a];split<;>omega;rcases h with h|h;left;omega;right;rw[a];split;rw[Int.neg_tmod];show ¬ -(((n%10:Nat)):Int)=0;omega;show ¬(((n%10:Nat)):Int)=0;omega
def Zm(a:Ψ)(n s:Nat)(w:Γ)(aL:dG a n)(B:n<=1000000000000000)(y:s<=3):χ 403 #[.agg #[.bool true,a,s]] w λe w'=>Mr e:=by
 have r:Hid (∀w,χ 121 #[.int .i64 10] w λe w'=>h1 10 e):=λw=>qn 10 w z;have T:=k0 w (.cells #[.bool true,a,s] 338 (0,0)) (.cells #[.int .i64 0,.int .i64 0] 41 (0,0));have D:Hid (rr w ((w.alloc (.cells #[.bool true,a,s] 338 (0,0))).alloc (.cells #[.int .i64 0,.int .i64 0] 41 (0,0))) w (w.heap.size+1) true n s a):=⟨⟨T.p⟩,T.q,aL,B,y,T.h,z,z,z⟩;clear T aL B y;go_enter Q9,V4;go_wp2;generalize (w.alloc (.cells #[.bool true,a,s] 338 (0,0))).alloc (.cells #[.int .i64 0,.int .i64 0] 41 (0,0))=P at*;obtain⟨b0,j⟩:∃b0,b0=w.heap.size+1:=⟨_,rfl⟩;obtain⟨c,o⟩:∃c,c=w.heap.size:=⟨_,rfl⟩;rw[<-j,<-o]at D;rw[<-j,<-o];clear o j;go_loopw [4,5,6] (λ_ _ _ wr=>∃(m k:Nat) (t:Ψ),rr w wr c b0 true m k t/\k<=s) (λ_ _ _ wr=>match wr ⟨c,2,none⟩with|some (.int _ k)=>k.toNat|_=>0);case atStart=>exact⟨n,s,a,D,aY _⟩
 case round=>let⟨m,k,t,d,S⟩:=hrel;have l:=A d;have c1:=d.x.c1;have c2:=d.x.c2;have q:Hid (∀f w,dG f 10->χ 307 #[t,f] w λe w'=>Mt m 10 e):=λf w I=>Ai t f m 10 w d.t I (by have:=d.n;omega) z z;have U:=d.n;clear d;by_cases O:0<k;{have G:0<(k:Int):=z;obtain⟨eF,nz⟩:∃eF,eF+1=k:=⟨k-1,z⟩;have R:(k:Int)-1=(eF:Int):=z;go_wp2;go_region_held3 (λW=>W ⟨c,1,none⟩=t) (first|exact c1|exact ak|exact M|go_keep) (first|(have _:=C;go_at_call 307;(with_reducible refine(q.out f _ C).mono ?_);rintro e w3 ⟨⟨ek,ew,rfl,vU,j2⟩,F⟩;have cJ:=A (u.out.K F);have M:=cJ.out.x.c1)|(go_at_call 121;(with_reducible refine(r.out _).mono ?_);rintro e Q ⟨⟨f,rfl,C⟩,j⟩;have u:=A (l.out.drew.K j);have ak:=u.out.x.c1));by_cases az:m%10=0;exact aou;have nC:=J4 j2 z;have hW:0<(ew.size:Int):=z;have xV:Hid (k=0∨m%10≠0):=.inr az;let⟨gg,cr⟩:=j' cJ.out.r;let⟨z0,cC⟩:=m3 cJ.out.r;have L:=cJ.out.x.bi;have H:=cJ.out.x.c1;have K:=cJ.out.x.c2;have gc:(k:Int)<=6:=(by have:=cJ.out.k;omega);have N:(m:Int)<=1000000000000000:=(by have:=cJ.out.n;omega);have E:c≠b0:=(by have:=cJ.out.g;omega);have J:b0≠c:=(by have:=cJ.out.g;omega);clear r q l u;exact aoN};have G:¬0<(k:Int):=z;have xV:Hid (k=0∨m%10≠0):=.inl z;have cJ:=l;let⟨gg,cr⟩:=j' cJ.out.r;let⟨z0,cC⟩:=m3 cJ.out.r;have L:=cJ.out.x.bi;have H:=cJ.out.x.c1;have K:=cJ.out.x.c2;have gc:(k:Int)<=6:=(by have:=cJ.out.k;omega);have N:(m:Int)<=1000000000000000:=(by have:=cJ.out.n;omega);have E:c≠b0:=(by have:=cJ.out.g;omega);have J:b0≠c:=(by have:=cJ.out.g;omega);clear r q l;exact aoN
def Zl(a:Ψ)(n s:Nat)(w:Γ)(aL:dG a n)(B:n<=1000000000000000)(y:s<=3):χ 403 #[.agg #[.bool false,a,s]] w λe w'=>Mr e:=by
 have r:Hid (∀w,χ 121 #[.int .i64 10] w λe w'=>h1 10 e):=λw=>qn 10 w z;have T:=k0 w (.cells #[.bool false,a,s] 338 (0,0)) (.cells #[.int .i64 0,.int .i64 0] 41 (0,0));have D:Hid (rr w ((w.alloc (.cells #[.bool false,a,s] 338 (0,0))).alloc (.cells #[.int .i64 0,.int .i64 0] 41 (0,0))) w (w.heap.size+1) false n s a):=⟨⟨T.p⟩,T.q,aL,B,y,T.h,z,z,z⟩;clear T aL B y;go_enter Q9,V4;go_wp2;generalize (w.alloc (.cells #[.bool false,a,s] 338 (0,0))).alloc (.cells #[.int .i64 0,.int .i64 0] 41 (0,0))=P at*;obtain⟨b0,j⟩:∃b0,b0=w.heap.size+1:=⟨_,rfl⟩;obtain⟨c,o⟩:∃c,c=w.heap.size:=⟨_,rfl⟩;rw[<-j,<-o]at D;rw[<-j,<-o];clear o j;go_loopw [4,5,6] (λ_ _ _ wr=>∃(m k:Nat) (t:Ψ),rr w wr c b0 false m k t/\k<=s) (λ_ _ _ wr=>match wr ⟨c,2,none⟩with|some (.int _ k)=>k.toNat|_=>0);case atStart=>exact⟨n,s,a,D,aY _⟩
 case round=>let⟨m,k,t,d,S⟩:=hrel;have l:=A d;have c1:=d.x.c1;have c2:=d.x.c2;have q:Hid (∀f w,dG f 10->χ 307 #[t,f] w λe w'=>Mt m 10 e):=λf w I=>Ai t f m 10 w d.t I (by have:=d.n;omega) z z;have U:=d.n;clear d;by_cases O:0<k;{have G:0<(k:Int):=z;obtain⟨eF,nz⟩:∃eF,eF+1=k:=⟨k-1,z⟩;have R:(k:Int)-1=(eF:Int):=z;go_wp2;go_region_held3 (λW=>W ⟨c,1,none⟩=t) (first|exact c1|exact ak|exact M|go_keep) (first|(have _:=C;go_at_call 307;(with_reducible refine(q.out f _ C).mono ?_);rintro e w3 ⟨⟨ek,ew,rfl,vU,j2⟩,F⟩;have cJ:=A (u.out.K F);have M:=cJ.out.x.c1)|(go_at_call 121;(with_reducible refine(r.out _).mono ?_);rintro e Q ⟨⟨f,rfl,C⟩,j⟩;have u:=A (l.out.drew.K j);have ak:=u.out.x.c1));by_cases az:m%10=0;exact aou;have nC:=J4 j2 z;have hW:0<(ew.size:Int):=z;have xV:Hid (k=0∨m%10≠0):=.inr az;let⟨gg,cr⟩:=j' cJ.out.r;let⟨z0,cC⟩:=m3 cJ.out.r;have L:=cJ.out.x.bi;have H:=cJ.out.x.c1;have K:=cJ.out.x.c2;have gc:(k:Int)<=6:=(by have:=cJ.out.k;omega);have N:(m:Int)<=1000000000000000:=(by have:=cJ.out.n;omega);have E:c≠b0:=(by have:=cJ.out.g;omega);have J:b0≠c:=(by have:=cJ.out.g;omega);clear r q l u;exact apq};have G:¬0<(k:Int):=z;have xV:Hid (k=0∨m%10≠0):=.inl z;have cJ:=l;let⟨gg,cr⟩:=j' cJ.out.r;let⟨z0,cC⟩:=m3 cJ.out.r;have L:=cJ.out.x.bi;have H:=cJ.out.x.c1;have K:=cJ.out.x.c2;have gc:(k:Int)<=6:=(by have:=cJ.out.k;omega);have N:(m:Int)<=1000000000000000:=(by have:=cJ.out.n;omega);have E:c≠b0:=(by have:=cJ.out.g;omega);have J:b0≠c:=(by have:=cJ.out.g;omega);clear r q l;exact apq
def aue(neg:Bool)(a:Ψ)(n s:Nat)(w:Γ)(aL:dG a n)(c:n<=1000000000000000)(b:s<=3):χ 403 #[.agg #[.bool neg,a,s]] w λe w'=>Mr e:=by cases neg;exact Zl a n s w aL c b;exact Zm a n s w aL c b
def aEy(N:Int)(s:Nat)(w:Γ)(af: -1000000000000000<=N)(H:N<=1000000000000000)(g:s<=3):χ 301 #[N,s] w λe w'=>Mr e:=by have l:=A λw=>apC N w z z;have k:Hid (∀t w,dG t N.natAbs->χ 403 #[.agg #[.bool (decide (N<0)),t,s]] w λe w'=>Mr e):=λt w aj=>aue _ t N.natAbs s w aj z g;have C:¬(s:Int)<0:=z;have D:(s:Int)<=18:=z;go_enter func301,ntmps301;go_wp2_with (first|(have _:=d;go_at_call 403;(with_reducible refine(k.out r _ d).mono ?_);rintro e j ⟨⟨u,x,rfl,q,m⟩,b⟩;have y:=A (b3 o b);have f:j.heap[w.heap.size]? =some (.cells #[.int .i64 0,.int .i64 0] 41 (0,0)):=((b.block _ (hl.1 c).1).trans c);let⟨gg,n⟩:=j' f;let⟨z0,B⟩:=m3 f)|(go_at_call 416;(with_reducible refine(l.out _).mono ?_);rintro e i ⟨⟨r,rfl,d⟩,a⟩;have o:=A ((fu w (.cells #[.int .i64 0,.int .i64 0] 41 (0,0))).trans (a.mono aq));have c:i.heap[w.heap.size]? =some (.cells #[.int .i64 0,.int .i64 0] 41 (0,0)):=((a.block _ aq).trans (c7 w _))));refine gd (by simp[results,results301,go_sem,gg,n];rfl) rfl ?_;exact⟨⟨u,x,rfl,q,m⟩,(y.out.setCell (p:=⟨w,0,none⟩) (aY _) _).setCell (p:=⟨w,1,none⟩) (aY _) _⟩
end Go.aM
namespace Go.aM
open Go Go.Proofs.Tryz Go.cE Go.Proofs
noncomputable def eO:{t:k6//t.De prog}:=⟨.e,gL⟩
noncomputable def bn{k:FuncId}{f:Func}(h:prog.funcs[k]? =some f)(a:{t:k6//t.De prog}:=eO)(b:{t:k6//t.De prog}:=eO)(s:Vu prog f=true:=by kernel_rfl):{t:k6//t.De prog}:=⟨.n k f a.1 b.1,⟨h,s⟩,a.2,b.2⟩
noncomputable def agb:=(bn func184 (bn func91 (bn V0 (bn func37 (bn func17 (bn func14 (bn func12 (bn func4) (bn func13)) (bn func16 (bn func15))) (bn func32 (bn func22 (bn func18) (bn HQ)) (bn func36 (bn func35)))) (bn func45 (bn func42 (bn func40 (bn func39) (bn func41)) (bn func44 (bn func43))) (bn func48 (bn func47 (bn func46)) (bn func50 (bn func49))))) (bn func76 (bn func70 (bn func63 (bn func60 (bn func55) (bn func62)) (bn func69 (bn HS))) (bn func73 (bn func72 (bn func71)) (bn func75 (bn func74)))) (bn func83 (bn func80 (bn func78 (bn func77) (bn func79)) (bn func82 (bn func81))) (bn func86 (bn func85 (bn func84)) (bn func90 (bn func88)))))) (bn func150 (bn func113 (bn func106 (bn func95 (bn func93 (bn func92) (bn func94)) (bn func105 (bn func97))) (bn func110 (bn func109 (bn func107)) (bn func112 (bn func111)))) (bn func144 (bn func120 (bn func115 (bn func114) (bn func116)) (bn VU (bn Q6))) (bn func147 (bn func146 (bn VV)) (bn func149 (bn func148))))) (bn func166 (bn func158 (bn func155 (bn func153 (bn func151) (bn func154)) (bn func157 (bn func156))) (bn func161 (bn func160 (bn func159)) (bn func163 (bn func162)))) (bn func174 (bn func170 (bn func168 (bn func167) (bn func169)) (bn func173 (bn func172))) (bn func180 (bn func179 (bn func175)) (bn func182 (bn func181))))))) (bn func281 (bn func242 (bn VW (bn func192 (bn func188 (bn func186 (bn func185) (bn func187)) (bn func190 (bn func189))) (bn func196 (bn func194 (bn func193) (bn func195)) (bn func198 (bn func197)))) (bn func229 (bn func224 (bn VX (bn func200) (bn Q7)) (bn func228 (bn func225))) (bn func237 (bn func232 (bn func231)) (bn func241 (bn func239))))) (bn func262 (bn func255 (bn func251 (bn func244 (bn func243) (bn func246)) (bn func253 (bn func252))) (bn func258 (bn func257 (bn func256)) (bn func261 (bn func259)))) (bn func269 (bn func266 (bn func264 (bn func263) (bn func265)) (bn func268 (bn func267))) (bn Q8 (bn func277 (bn func271)) (bn func280 (bn func279)))))) (bn func385 (bn func305 (bn func290 (bn func286 (bn func284 (bn func282) (bn func285)) (bn func289 (bn func288))) (bn func302 (bn func293 (bn func291)) (bn func304 (bn func303)))) (bn func326 (bn func315 (bn func307 (bn func306) (bn func308)) (bn func325 (bn func316))) (bn func374 (bn func370 (bn func369)) (bn func384 (bn func376))))) (bn func412 (bn Q9 (bn func391 (bn func389 (bn func387) (bn func390)) (bn func402 (bn func401))) (bn func408 (bn func407 (bn func406)) (bn func411 (bn func410)))) (bn func469 (bn func429 (bn func416 (bn func413) (bn func427)) (bn func466 (bn func464))) (bn func472 (bn func471 (bn func470)) (bn func518 (bn func516))))))))
noncomputable def j6:k6:=agb.1
def tN:j6.De prog:=agb.2
def abR(F:List U->Option U):List U->ay->Option (U×ay):=λa b=>match F a with|some v=>some (v,b)|none=>none
def km:CW:=λf=>bif Nat.beq f 245 then some (abR adc)else bif Nat.beq f 458 then some (abR abu)else bif Nat.beq f 373 then some (abR YD)else bif Nat.beq f 276 then some (acr 5)else none
def follows:prog.follows .mixedOrders=true:=aw
def ayN:qz prog 245 Extern.AbiNoEscape.same:=qz.hs func245 aw aw aw aw
def ayM:qz prog 458 Extern.BytealgIndexByte.indexByte:=qz.hs func458 aw aw aw aw
def ayL:qz prog 373 Extern.BytealgCount.count:=qz.hs func373 aw aw aw aw
def ayO:qz prog 276 (Extern.BytealgMakeNoZero.makeNoZero #[3] #[131]):=qz.hs func276 aw aw aw aw
def uw{ρ:cj}(f:FuncId)(F:List U->ay->Option (U×ay))(h:km f=some F):nO prog ρ f F:=by unfold km at h;simp only[zj]at h;split at h;rename_i e;subst e;cases h;exact aFJ ayN;split at h;rename_i e;subst e;cases h;exact aC' ayM;split at h;rename_i e;subst e;cases h;exact ax' ayL;split at h;rename_i e;subst e;cases h;exact aFL ayO sK;cases h
end Go.aM
namespace Go.aM
open Go Go.Proofs.Tryz Go.cE Go.Proofs Go.RowKit
def sI(g:Nat):b9:=λb=>if b<13 then some ⟨b,0,0⟩else if b=13 then some ⟨g,0,3⟩else none
def DS(vs:List U):ay:=(⟨.e,14⟩:ay).db 13 (some (.cells 232 vs true true))
def ZJ:prog.globals.size=13:=aw
def ZH(g:Nat):kM prog (sI g):=λk a=>⟨0,by rw[ZJ]at a;simp[sI,a]⟩
variable{b:Nat}
def Om{vs:List U}{x:eK}(h:(DS vs).cW b=some x):b=13/\x=.cells 232 vs true true:=by unfold DS at h;exact an_
variable{w:Γ}
def amu{ρ:cj}{g:Nat}{vs:List U}{a b c:Φ}(k:w.heap[g]? =some (.cells #[a,b,c] 232 (0,0)))(d:vs.length=3)(e:b5 ρ (sI g) vs=some [a,b,c]):c_ ρ (sI g) (DS vs) w:=by refine⟨λj x G=>?_,λb j x n p m G l _ _ f=>?_,λb G=>?_⟩;obtain⟨rfl,rfl⟩:=Om G;refine⟨⟨g,0,3⟩,rfl,_,_,k,rfl,by rw[d];exact aY 3,λ_=>⟨d,rfl⟩,⟨_,e,λi hi=>aq⟩,λ_ i _ hi=>aq⟩;exact absurd ((Om G).1.trans (Om l).1.symm) f;have G:14<=b:=G;unfold sI;rw[bo z,bo z]
def KK(s:List Nat):List U:=[.str s,.int .i64 (.ofNat 0),.dM]
def aq8(s:List Nat)(k:Nat)(r:Option (U×ay)):Bool:=match r with
 |some (.tup [],a)=>(match a.cW 13 with|some (.cells t [.str b,.int .i64 (.ofNat n),.slice m 0 1 4 none] true true)=>Nat.beq t 232&&s==b&&Nat.beq n k&& !(Nat.beq m 13)&&(match a.cW m with|some (.cells c vs _ true)=>Nat.beq c 299&&U.p_ vs [.int .i64 (.ofNat 3),.int .i64 (.ofNat 1),.int .i64 (.ofNat 200),.str []]|_=>Nat.beq k 1)|_=>false)
 |_=>false
def aq9(s:List Nat)(k:Nat)(r:Option (U×ay)):Bool:=match r with
 |some (.tup [],a)=>(match a.cW 13 with|some (.cells t [.str b,.int .i64 (.ofNat n),.slice m _ _ _ _] true true)=>Nat.beq t 232&&s==b&&Nat.beq n k&& !(Nat.beq m 13)|_=>false)
 |_=>false
def aFy:aq8 [92,108,43] 3 ((i0 prog km j6.find 100).call 172 [.ji 13 0] (DS (KK [92,108,43])))=true:=aw
def aFz:aq9 [120,43] 1 ((i0 prog km j6.find 100).call 172 [.ji 13 0] (DS (KK [120,43])))=true:=aw
def ac4:∃ρ:cj,ρ.ql=nH prog:=⟨⟨λ_=>undef,nH prog,λ_=>(0,0),λ_=>#[]⟩,rfl⟩
structure fk (g:Nat) (w w':Γ):Prop where
 os:w'.os=w.os
 tape:w'.tape=w.tape
 output:w'.output=w.output
 size:w.heap.size<=w'.heap.size
 block:∀k,k<w.heap.size->k≠g->w'.heap[k]? =w.heap[k]?
variable{w':Γ}
def akp{g:Nat}{vs:List U}{j:b9}{e:ay}(a:jY (sI g) (DS vs) w j e w'):fk g w w':=
 ⟨a.os,a.tape,a.output,a.size,λk d i=>a.kept k d λ⟨b,x,p,f,c,h⟩=>i (by
  obtain⟨rfl,_⟩:=Om f
  have:sI g 13=some ⟨g,0,3⟩:=rfl
  rw[this]at c
  cases c
  exact h.symm)⟩
def tM(s:List Nat)(h:s.all (λn=>n<256)=true)(ρ:cj)(σ:b9):aT ρ σ (.str s)=some (.string (e2 s)):=by simp only[aT];rw[ci h]
def aFA(g:Nat)(w:Γ)(z:w.heap[g]? =some (.cells #[.string (e2 [120,43]),.int .i64 0,.slice none 0 0] 232 (0,0))): Calls prog 172 #[.pointer (some ⟨g,0,none⟩)] w λe w'=>e=.returned (.tuple #[])/\fk g w w'/\∃v bd,xn v=true/\w'.heap[g]? =some (.cells #[.string (e2 [120,43]),.int .i64 1,v] 232 bd):=by
 let⟨ρ,A⟩:=ac4;have a:=aFz;unfold aq9 at a;split at a
 .rename_i G r;have s:c_ ρ (sI g) (DS (KK [120,43])) w:=amu z rfl (by simp only[KK,b5];rw[tM [120,43] al];rfl);refine(Nz (ρ:=ρ) follows A (k6.rB tN) uw (f:=172) aw (ZH g) (args:=[.ji 13 0]) (cs:=[.pointer (some ⟨g,0,none⟩)]) (by simp[b5,aT,sI]) s r).mono ?_;rintro e w' ⟨c,rfl,x,j,D,k⟩;simp only[aT,b5,ov,cx]at j;subst j;refine⟨rfl,akp k,?_⟩;split at a
  .rename_i t K n m _ _ _ _ ar;simp only[dW]at a;let⟨⟨⟨H,I⟩,b⟩,F⟩:=a;have H:=gK H;have b:=gK b;have I:=eq_of_beq I;subst H I b;let⟨p,ag,arr,bd,u,y,J,M,⟨cs,C,B⟩,N⟩:=D.ba 13 _ ar;have:x 13=some ⟨g,0,3⟩:=k.ext 13 _ rfl;obtain rfl:p=⟨g,0,3⟩:=gm (ag.symm.trans this);obtain⟨bi,L,d,q,rfl⟩:=qK C;obtain⟨c1,b7,bN,l,rfl⟩:=qK q;obtain⟨c2,dx,rfl⟩:=i' l;rw[tM _ al]at d;simp only[aT,cx]at d bN;subst d bN;have o:xn c2=true:=by simp only[aT,iW]at dx;obtain⟨_,_,rfl⟩:=dx;rfl
   refine⟨c2,bd,o,?_⟩;rw[u];congr 2;apply xG;apply Lb;intro i;have E:arr.size=3:=y;by_cases hi:i<3;have:=B i hi;simp only[gy]at this;rw[vc,this];rfl;rw[rh bw,rh bw]
  cases a
 cases a
def aKT{arr:Ω}{bi c1 c2:Φ}(h:arr.size=3)(q:∀i,i<3->arr[i]? =[bi,c1,c2][i]?):arr=#[bi,c1,c2]:=by apply xG;apply Lb;intro i;by_cases hi:i<3;have:=q i hi;rw[vc,this];rw[rh bw,rh bw]
structure WI (w:Γ) (b del tot:Nat):Prop where
 s_:∃arr bd,w.heap[b]? =some (.cells arr 299 bd)/\arr.size=del+tot/\(∀i,i<4->arr[del+i]? =[Value.int .i64 3,.int .i64 1,.int .i64 200,.string ⟨#[]⟩][i]?)/\(∀i,del<=i->i<arr.size->¬(bd.1<=i/\i<bd.2))
 tot:4<=tot
def aFx(g:Nat)(w:Γ)(TG:g<w.heap.size)(R:w.heap[g]? =some (.cells #[.string (e2 [92,108,43]),.int .i64 0,.slice none 0 0] 232 (0,0))): Calls prog 172 #[.pointer (some ⟨g,0,none⟩)] w λe w'=>e=.returned (.tuple #[])/\fk g w w'/\∃b del tot bd,w'.heap[g]? =some (.cells #[.string (e2 [92,108,43]),.int .i64 3,.slice (some ⟨b,del,none⟩) 1 (tot/4)] 232 bd)/\w.heap.size<=b/\WI w' b del tot:=by
 obtain⟨ρ,V⟩:=ac4;have d:=aFy;unfold aq8 at d;split at d
 .rename_i aX L;have P:c_ ρ (sI g) (DS (KK [92,108,43])) w:=amu R rfl (by simp only[KK,b5];rw[tM [92,108,43] al];rfl);refine(Nz (ρ:=ρ) follows V (k6.rB tN) uw (f:=172) aw (ZH g) (args:=[.ji 13 0]) (cs:=[.pointer (some ⟨g,0,none⟩)]) (by simp[b5,aT,sI]) P L).mono ?_;rintro e w' ⟨c,rfl,C,z,y,r⟩;simp only[aT,b5,ov,cx]at z;subst z;refine⟨rfl,akp r,?_⟩;split at d
  .rename_i t fE n m ar;simp only[dW]at d;obtain⟨⟨⟨⟨H,I⟩,q⟩,l⟩,j⟩:=d;have H:=gK H;have q:=gK q;have I:=eq_of_beq I;have l:m≠13:=λe=>by subst e;simp at l
   subst H I q;obtain⟨p,ag,arr,bd,b_,cv,ek,il,⟨cs,W,kJ⟩,yG⟩:=y.ba 13 _ ar;have A:C 13=some ⟨g,0,3⟩:=r.ext 13 _ rfl;obtain rfl:p=⟨g,0,3⟩:=gm (ag.symm.trans A);obtain⟨bi,g3,s,E,rfl⟩:=qK W;obtain⟨c1,b7,bN,D,rfl⟩:=qK E;obtain⟨c2,dx,rfl⟩:=i' D;rw[tM _ al]at s;simp only[aT,cx,iW]at s bN dx;obtain⟨eH,J,dx⟩:=dx;subst s bN dx;split at j
   .rename_i ju vs Z o;simp only[dW]at j;obtain⟨ak,k⟩:=j;have ak:=gK ak;have k:=U.un k;subst ak k;obtain⟨a,u,M,m3,Q,S,T,im,⟨j',X,Y⟩,G⟩:=y.ba m _ o;obtain rfl:a=eH:=gm (u.symm.trans J);have F:j'=[Value.int .i64 3,.int .i64 1,.int .i64 200,.string ⟨#[]⟩]:=by have:b5 ρ C [.int .i64 (.ofNat 3),.int .i64 (.ofNat 1),.int .i64 (.ofNat 200),.str []]=some [Value.int .i64 3,.int .i64 1,.int .i64 200,.string ⟨#[]⟩]:=rfl;exact gm (X.symm.trans this)
    subst F;have O:a.ba≠g:=y.inj m 13 _ _ a ⟨g,0,3⟩ o ar u A l;refine⟨a.ba,a.del,a.tot,bd,?_,?_,⟨M,m3,Q,S,λi hi=>Y i hi,G rfl⟩,T⟩
    .exact aoK
    .rcases r.oe a.ba ⟨m,_,a,o,u,rfl⟩with h|⟨b,x,p,K,B,N⟩
     .exact h
     .obtain⟨rfl,_⟩:=Om K;have:sI g 13=some ⟨g,0,3⟩:=rfl;rw[this]at B;cases B;exact absurd N.symm O
   .cases j
  .cases d
 .cases d
def TC:ay:=(⟨.e,14⟩:ay).db 13 (some (.cells 232 [.str [120,43],.int .i64 (.ofNat 1),.sym 0] true false))
def TD{b:Nat}{x:eK}(h:TC.cW b=some x):b=13/\x=.cells 232 [.str [120,43],.int .i64 (.ofNat 1),.sym 0] true false:=by unfold TC at h;exact an_
def aCu{ρ:cj}{g:Nat}{w:Γ}{v:Φ}{bd:Nat×Nat}(J:ρ.val 0=v)(H:xn v=true)(d:w.heap[g]? =some (.cells #[.string (e2 [120,43]),.int .i64 1,v] 232 bd)):c_ ρ (sI g) TC w:=by
 refine⟨λc x G=>?_,λb c x j p f G e _ _ a=>?_,λb G=>?_⟩
 .obtain⟨rfl,rfl⟩:=TD G;refine⟨⟨g,0,3⟩,rfl,_,_,d,rfl,aY 3,λ_=>⟨rfl,rfl⟩,⟨[.string (e2 [120,43]),.int .i64 1,v],?_,λi hi=>aq⟩,λh=>by cases h⟩;simp only[b5];rw[tM [120,43] al];simp only[aT,J,H,oR];rfl
 .exact absurd ((TD G).1.trans (TD e).1.symm) a
 .have G:14<=b:=G;unfold sI;rw[bo z,bo z]
def ang(n:Nat)(r:Option (U×ay)):Bool:=match r with|some (.int .u8 (.ofNat m),h)=>Nat.beq m n&&st h [(13,.cells 232 [.str [120,43],.int .i64 (.ofNat 1),.sym 0] true false)]|_=>false
def aG':ang 43 ((i0 prog km j6.find 100).call 257 [.ji 13 0] TC)=true:=aw
def ane(r:Option (U×ay)):Bool:=match r with|some (.bool true,_)=>true|_=>false
def aJI:ane ((i0 prog km j6.find 100).call 258 [.int .u8 (.ofNat 43)] ⟨.e,13⟩)=true:=aw
def P_:b9:=λb=>if b<13 then some ⟨b,0,0⟩else none
def azZ:kM prog P_:=λk a=>⟨0,by rw[ZJ]at a;simp[P_,a]⟩
def aCt(ρ:cj)(w:Γ):c_ ρ P_ ⟨.e,13⟩ w:=by refine⟨λb x G=>by simp[ay.cW,T.cW]at G,λb c x d p a G=>by simp[ay.cW,T.cW]at G,λb G=>?_⟩;have G:13<=b:=G;unfold P_;rw[bo z]
def azY{f:b9}{d:ay}(a:jY P_ ⟨.e,13⟩ w f d w'):β w w':=
 ⟨a.os,a.tape,a.output,a.size,λk c=>a.kept k c λ⟨b,x,p,e,_⟩=>by simp[ay.cW,T.cW]at e⟩
def aJH(w:Γ):χ 258 #[.int .u8 43] w λe w'=>e=.returned (.bool true):=by let⟨ρ,i⟩:=ac4;have a:=aJI;unfold ane at a;split at a;rename_i j d;refine(Nz (ρ:=ρ) follows i (k6.rB tN) uw (f:=258) aw azZ (args:=[.int .u8 (.ofNat 43)]) (cs:=[.int .u8 43]) rfl (aCt ρ w) d).mono ?_;rintro e w' ⟨c,rfl,k,b,l,g⟩;simp only[aT,cx]at b;subst b;exact⟨rfl,azY g⟩;cases a
def aqy(g:Nat)(w:Γ)(v:Φ)(bd:Nat×Nat)(H:xn v=true)(E:w.heap[g]? =some (.cells #[.string (e2 [120,43]),.int .i64 1,v] 232 bd)): Calls prog 257 #[.pointer (some ⟨g,0,none⟩)] w λe w'=>e=.returned (.int .u8 43)/\fk g w w'/\∃j,w'.heap[g]? =some (.cells #[.string (e2 [120,43]),.int .i64 1,v] 232 j):=by
 obtain⟨ρ,F,n⟩:∃ρ:cj,ρ.ql=nH prog/\ρ.val 0=v:=⟨⟨λ_=>v,nH prog,λ_=>(0,0),λ_=>#[]⟩,rfl,rfl⟩;have d:=aG';unfold ang at d;split at d
 .rename_i m K z;simp only[dW]at d;have A:=gK d.1;subst A;have J:=N' d.2 (b:=13) (oQ.2 rfl);refine(Nz (ρ:=ρ) follows F (k6.rB tN) uw (f:=257) aw (ZH g) (args:=[.ji 13 0]) (cs:=[.pointer (some ⟨g,0,none⟩)]) (by simp[b5,aT,sI]) (aCu n H E) z).mono ?_;rintro e w' ⟨c,rfl,D,o,I,a⟩;simp only[aT,cx]at o;subst o;refine⟨rfl,⟨a.os,a.tape,a.output,a.size,λk t C=>a.kept k t λ⟨b,x,p,y,q,B⟩=>C ?_⟩,?_⟩
  .obtain⟨rfl,_⟩:=TD y;have:sI g 13=some ⟨g,0,3⟩:=rfl;rw[this]at q;cases q;exact B.symm
  .obtain⟨p,ag,arr,j,b_,cv,L,N,⟨cs,G,kJ⟩,O⟩:=I.ba 13 _ J;have u:D 13=some ⟨g,0,3⟩:=a.ext 13 _ rfl;obtain rfl:p=⟨g,0,3⟩:=gm (ag.symm.trans u);obtain⟨bi,M,l,s,rfl⟩:=qK G;obtain⟨c1,b7,bN,r,rfl⟩:=qK s;obtain⟨c2,dx,rfl⟩:=i' r;rw[tM _ al]at l;simp only[aT,n,H,oR,cx]at l bN dx;subst l bN dx;refine⟨j,?_⟩;exact aoK
 .cases d
def azq(g:Nat)(w:Γ)(v:Φ)(bd:Nat×Nat)(a:w.heap[g]? =some (.cells #[.string (e2 [120,43]),.int .i64 1,v] 232 bd)): Calls prog 260 #[.pointer (some ⟨g,0,none⟩)] w λe w'=>e=.panicked [{v:=.iface 228 (.agg #[.int .i64 1,.int .i64 12]),recovered:=false}]/\w'=w:=by
 have c1:w ⟨g,1,none⟩=(1:Int):=by simp[World.cell?,a]
 go_enter func260,ntmps260;go_wp2;exact⟨rfl,rfl,rfl⟩
variable{a:Γ}
def fk.trans{g:Nat}{b c:Γ}(h:fk g a b)(k:fk g b c):fk g a c:=
 ⟨k.os.trans h.os,k.tape.trans h.tape,k.output.trans h.output,c6 h.size k.size,λr d e=>(k.block r (i4 d h.size) e).trans (h.block r d e)⟩
def fk.K{g:Nat}{b:Γ}(h:β a b):fk g a b:=⟨h.os,h.tape,h.output,h.size,λr c _=>h.block r c⟩
def aFB(g:Nat)(w:Γ)(v:Φ)(bd:Nat×Nat)(H:xn v=true)(d:g<w)(i:w.heap[g]? =some (.cells #[.string (e2 [120,43]),.int .i64 1,v] 232 bd)): Calls prog 172 #[.pointer (some ⟨g,0,none⟩)] w λe w'=>e=.panicked [{v:=.iface 228 (.agg #[.int .i64 1,.int .i64 12]),recovered:=false}]/\fk g w w':=by go_enter func172,ntmps172;go_wp2_with (first|(have _:=a;go_at_call 258;refine(aJH _).mono ?_;rintro e w3 ⟨rfl,b⟩;have k:=(b.block g (i4 d (c6 bY.size a.size))).trans f;have h:=A ((bY.trans a).trans (fk.K (g:=g) b)))|(have _:=bY;go_at_call 257;refine(aqy g _ v c H j).mono ?_;rintro e m ⟨rfl,a,m3,f⟩)|(go_at_call 257;refine(aqy g _ v bd H i).mono ?_;rintro e l ⟨rfl,bY,c,j⟩));refine(azq g _ v m3 k).mono ?_;rintro e n ⟨rfl,rfl⟩;go_wp2;exact⟨rfl,rfl,h⟩
end Go.aM
namespace Go.aM
open Go Go.Proofs.Tryz Go.Proofs Go.RowKit Go.Lib
def qm(w:Γ)(b:Nat)(a:Θ)(len:Nat)(n:Int)(g:0<n)(G:n<=2000000000000001)(f:len<=maxLen)(h:er w b a len):Calls prog 19 #[.pointer (some ⟨b,0,none⟩),n] w λe w'=>uj n e/\er w' b a len/\fk b w w':=
 (q5 w b a len n g G f h).mono λe w' ⟨H,I,m,d,i,j,l⟩=>⟨H,I,⟨i,j,l,z,λk _ c=>d k c⟩⟩
def fk.refl(g:Nat)(w:Γ):fk g w w:=⟨rfl,rfl,rfl,aY _,λ_ _ _=>rfl⟩
variable{w w':Γ}
def fk.alloc{g:Nat}(h:fk g w w')(o:Obj):fk g w (w'.alloc o):=h.trans (fk.K ((bl _ _).alloc (aY _) o))
variable{b:Nat}{cs:Ω}
def fk.cells{g:Nat}(h:fk g w w')(a:b≠g){t:TypeId}(G:w.heap[b]? =some (.cells cs t (0,0))):w'.heap[b]? =some (.cells cs t (0,0)):=(h.block b (hl.1 G).1 a).trans G
def fk.qp{g:Nat}(h:fk g w w')(G:w.heap.size<=b)(i:Nat)(u:Φ):fk g w (w'.setCell ⟨b,i,none⟩ u):=by have a:=(bl 0 w').setCell (p:=⟨b,i,none⟩) (dh _) u;exact⟨a.os.trans h.os,a.tape.trans h.tape,a.output.trans h.output,c6 h.size aq,λk c d=>by rw[ht _ _ _ _ (by show k≠b;omega)];exact h.block k c d⟩
def ahE(e:Ending):Prop:=∃(N:Int) (S:Nat),e=.returned (.agg #[.int .i64 N,.int .i64 S])/\hC N S/\S<=3
variable{r n:Nat}{a:Θ}
def er.qp(h:er w b a n)(o:er w' b a n)(A:w.heap.size<=r)(i:Nat)(u:Φ):er (w'.setCell ⟨r,i,none⟩ u) b a n:=by
 let⟨c,C,H,I,q⟩:=h;let⟨s,k,l,d,B⟩:=o;have G:=(hl.1 H).1;refine⟨s,k,by rw[ht _ _ _ _ (by show b≠r;omega)];exact l,?_,q⟩;rcases I with I|⟨f,eo,rfl,I⟩
 exact .inl I;rcases d with d|⟨t,z,e,d⟩;exact .inl d;cases e;refine .inr ⟨f,eo,rfl,λj g=>?_⟩;let⟨x,p⟩:=I j g;let⟨y,m⟩:=d j g;have au:=V8 w _ p;have au:f<w.heap.size:=au;exact⟨y,by rw[<-m];exact nN (w:=w') (ht _ _ _ _ (by show f≠r;omega))⟩
structure sX (w w':Γ) (b:Nat) (a:Θ) (len r:Nat) (cs:Ω) (ty:TypeId):Prop where
 n:er w' b a len
 s:fk b w w'
 r:w'.heap[r]? =some (.cells cs ty (0,0))
variable{c:Γ}{ty:TypeId}
def sX.Ao{e:Γ}{len:Nat}(h:sX w e b a len r cs ty)(g:er c b a len)(d:fk b e c)(f:r≠b):sX w c b a len r cs ty:=⟨g,h.s.trans d,d.cells f h.r⟩
def sX.K{d:Γ}{len:Nat}(h:sX w c b a len r cs ty)(G:β c d):sX w d b a len r cs ty:=⟨h.n.K G,h.s.trans (fk.K G),(G.block r (hl.1 h.r).1).trans h.r⟩
def sX.alloc{len:Nat}(h:sX w c b a len r cs ty)(o:Obj):sX w (c.alloc o) b a len r cs ty:=h.K ((bl _ _).alloc (aY _) o)
def sX.d_{len:Nat}(h:er w b a len)(cs:Ω)(ty:TypeId):sX w (w.alloc (.cells cs ty (0,0))) b a len w cs ty:=⟨h.alloc _,(fk.refl b w).alloc _,c7 w _⟩
def YI(w:Γ)(b:Nat)(a:Θ)(len:Nat)(d:len<=maxLen)(h:er w b a len):Calls prog 209 #[.pointer (some ⟨b,0,none⟩)] w λe w'=>ahE e/\er w' b a len/\fk b w w':=by have K:Hid (∀w,er w b a len->Calls prog 19 #[.pointer (some ⟨b,0,none⟩),.int .i64 2001] w λe w'=>uj 2001 e/\er w' b a len/\fk b w w'):=λw c=>qm w b a len 2001 z z d c;have G:Hid (∀w,er w b a len->Calls prog 19 #[.pointer (some ⟨b,0,none⟩),.int .i64 8] w λe w'=>uj 8 e/\er w' b a len/\fk b w w'):=λw c=>qm w b a len 8 z z d c;have O:Hid (∀w,er w b a len->Calls prog 19 #[.pointer (some ⟨b,0,none⟩),.int .i64 2000000000000001] w λe w'=>uj 2000000000000001 e/\er w' b a len/\fk b w w'):=λw c=>qm w b a len 2000000000000001 z z d c;have q:Hid (∀w,er w b a len->Calls prog 19 #[.pointer (some ⟨b,0,none⟩),.int .i64 4] w λe w'=>uj 4 e/\er w' b a len/\fk b w w'):=λw c=>qm w b a len 4 z z d c;have o:=A h;have u:=A (sX.d_ h #[.int .i64 0,.int .i64 0] 41);have f:Hid (w.heap.size≠b):=(by have:=h.lt;show w.heap.size≠b;omega);clear h d;go_enter func209,ntmps209;go_wp2_with (first|(go_at_call 19;(with_reducible refine(K.out _ u.out.n).mono ?_);rintro e V ⟨⟨cr,hW,U,rfl⟩,H,E⟩;have k:=A (u.out.Ao H E f);have T:=k)|(go_at_call 19;(with_reducible refine(G.out _ k.out.n).mono ?_);rintro e X ⟨⟨dy,lg,S,rfl⟩,L,M⟩;have j:=A (k.out.Ao L M f))|(go_at_call 19;(with_reducible refine(O.out _ j.out.n).mono ?_);rintro e w3 ⟨⟨ew,j2,W,rfl⟩,N,Q⟩;have r:=A (j.out.Ao N Q f))|(go_at_call 19;(with_reducible refine(q.out _ r.out.n).mono ?_);rintro e J ⟨⟨g,P,y,rfl⟩,l,m⟩;have n:=A (r.out.Ao l m f);obtain⟨t,rfl⟩:∃s:Nat,g=(s:Int):=⟨g.toNat,z⟩)|(go_at_call 19;(with_reducible refine(q.out _ j.out.n).mono ?_);rintro e J ⟨⟨g,P,y,rfl⟩,l,m⟩;have n:=A (j.out.Ao l m f);obtain⟨t,rfl⟩:∃s:Nat,g=(s:Int):=⟨g.toNat,z⟩)|(go_at_call 301;refine(aEy _ t _ z z z).mono ?_;rintro e Y ⟨⟨C,x,rfl,B,R⟩,F⟩;have i:=A (n.out.K F);let⟨fi,I⟩:=j' i.out.r;let⟨z0,Z⟩:=m3 i.out.r;have D:=(hl.1 i.out.r).1));all_goals(refine gd (by simp[results,results209,go_sem,fi,I,D];rfl) rfl ?_;exact⟨⟨C,x,rfl,B,R⟩,(o.out.qp (o.out.qp i.out.n (aY _) 0 _) (aY _) 1 _).alloc _,((i.out.s.qp (aY _) 0 _).qp (aY _) 1 _).alloc _⟩)
def ayn(N:Int):Φ:=.agg #[.int .i64 3,.string ⟨#[]⟩,.int .i64 0,.int .i64 0,.int .i64 N,.slice none 0 0,.slice none 0 0]
def aFN(N:Int)(S:Nat):Φ:=.agg #[.int .i64 2,.string ⟨#[]⟩,.int .i64 N,.int .i64 S,.int .i64 0,.slice none 0 0,.slice none 0 0]
def avI(e:Ending):Prop:=∃N:Int,e=.returned (ayn N)/\0<=N/\N<=3652058
def avU(e:Ending):Prop:=∃(N:Int) (S:Nat),e=.returned (aFN N S)/\hC N S/\S<=3
abbrev ae_:Ω:=#[.int .i64 0,.string ⟨#[]⟩,.int .i64 0,.int .i64 0,.int .i64 0,.slice none 0 0,.slice none 0 0]
def er.B0(h:er w b a n)(c:er w' b a n)(u0 u1 u2 u3 u4 u5 u6:Φ):er (((((((w'.setCell ⟨w,0,none⟩ u0).setCell ⟨w,1,none⟩ u1).setCell ⟨w,2,none⟩ u2).setCell ⟨w,3,none⟩ u3).setCell ⟨w,4,none⟩ u4).setCell ⟨w,5,none⟩ u5).setCell ⟨w,6,none⟩ u6) b a n:=
 h.qp (h.qp (h.qp (h.qp (h.qp (h.qp (h.qp c (aY _) 0 _) (aY _) 1 _) (aY _) 2 _) (aY _) 3 _) (aY _) 4 _) (aY _) 5 _) (aY _) 6 _
def fk.B0{g:Nat}(h:fk g w w')(u0 u1 u2 u3 u4 u5 u6:Φ):fk g w (((((((w'.setCell ⟨w,0,none⟩ u0).setCell ⟨w,1,none⟩ u1).setCell ⟨w,2,none⟩ u2).setCell ⟨w,3,none⟩ u3).setCell ⟨w,4,none⟩ u4).setCell ⟨w,5,none⟩ u5).setCell ⟨w,6,none⟩ u6):=
 ((((((h.qp (aY _) 0 _).qp (aY _) 1 _).qp (aY _) 2 _).qp (aY _) 3 _).qp (aY _) 4 _).qp (aY _) 5 _).qp (aY _) 6 _
def aLZ(w:Γ)(b:Nat)(a:Θ)(len:Nat)(f:len<=maxLen)(h:er w b a len):Calls prog 131 #[.pointer (some ⟨b,0,none⟩),.int .i64 3] w λe w'=>avI e/\er w' b a len/\fk b w w':=by
 have r:Hid (∀w,er w b a len->Calls prog 19 #[.pointer (some ⟨b,0,none⟩),.int .i64 1000] w λe w'=>uj 1000 e/\er w' b a len/\fk b w w'):=λw d=>qm w b a len 1000 z z f d;have n:Hid (∀w,er w b a len->Calls prog 19 #[.pointer (some ⟨b,0,none⟩),.int .i64 8] w λe w'=>uj 8 e/\er w' b a len/\fk b w w'):=λw d=>qm w b a len 8 z z f d;have K:Hid (∀w,er w b a len->Calls prog 19 #[.pointer (some ⟨b,0,none⟩),.int .i64 3652059] w λe w'=>uj 3652059 e/\er w' b a len/\fk b w w'):=λw d=>qm w b a len 3652059 z z f d;have k:=A h;have l:=A (sX.d_ h ae_ 44);have i:Hid (w.heap.size≠b):=(by have:=h.lt;show w.heap.size≠b;omega);clear h f;go_enter func131,ntmps131;go_wp2_with (first|(go_at_call 19;(with_reducible refine(r.out _ l.out.n).mono ?_);rintro e S ⟨⟨s,hW,R,rfl⟩,o,m⟩;have j:=A (l.out.Ao o m i))|(go_at_call 19;(with_reducible refine(n.out _ j.out.n).mono ?_);rintro e U ⟨⟨Z,lg,Q,rfl⟩,B,E⟩;have c:=A (j.out.Ao B E i);let⟨fi,q,t,C,L,O,N⟩:=eU c.out.r;let⟨z0,V,X,z3,z4,z5,eJ⟩:=hp c.out.r)|(go_at_call 19;(with_reducible refine(K.out _ c.out.n).mono ?_);rintro e w3 ⟨⟨D,M,T,rfl⟩,I,P⟩;have g:=A (c.out.Ao I P i);let⟨y,u,x,F,H,G,J⟩:=eU g.out.r;let⟨eg,dz,Y,W,jv,j9,l7⟩:=hp g.out.r))
 .refine gd (by simp[results,V7,go_sem,y,u,x,F,H,G,J];rfl) rfl ?_;exact⟨⟨D,rfl,M,z⟩,k.out.B0 g.out.n _ _ _ _ _ _ _,g.out.s.B0 _ _ _ _ _ _ _⟩
 .refine gd (by simp[results,V7,go_sem,fi,q,t,C,L,O,N];rfl) rfl ?_;exact⟨⟨738000+s,rfl,z,z⟩,k.out.B0 c.out.n _ _ _ _ _ _ _,c.out.s.B0 _ _ _ _ _ _ _⟩
def aL1(w:Γ)(b:Nat)(a:Θ)(len:Nat)(d:len<=maxLen)(h:er w b a len):Calls prog 131 #[.pointer (some ⟨b,0,none⟩),.int .i64 2] w λe w'=>avU e/\er w' b a len/\fk b w w':=by have k:Hid (∀w,er w b a len->Calls prog 209 #[.pointer (some ⟨b,0,none⟩)] w λe w'=>ahE e/\er w' b a len/\fk b w w'):=λw g=>YI w b a len d g;have r:=A h;have f:=A (sX.d_ h ae_ 44);have j:Hid (w.heap.size≠b):=(by have:=h.lt;show w.heap.size≠b;omega);clear h d;go_enter func131,ntmps131;go_wp2_with (first|(go_at_call 209;(with_reducible refine(k.out _ f.out.n).mono ?_);rintro e w3 ⟨⟨i,m,rfl,o,l⟩,x,z⟩;have c:=A (f.out.Ao x z j);let⟨q,n,p,s,u,t,y⟩:=eU c.out.r;let⟨E,D,C,B,G,F,H⟩:=hp c.out.r));refine gd (by simp[results,V7,go_sem,q,n,p,s,u,t,y];rfl) rfl ?_;exact⟨⟨i,m,rfl,o,l⟩,r.out.B0 c.out.n _ _ _ _ _ _ _,c.out.s.B0 _ _ _ _ _ _ _⟩
end Go.aM
namespace Go.bE
open Go Go.Proofs.Tryz Go.Proofs Go.RowKit Go.Lib Go.aM
def atY:(prog.info? 5).map (λi=>(i.zero,i.size,i.bytes))=some (some (.int .u8 0),1,1):=aw
def CB:List Ψ:=[⟨#[]⟩,⟨#[97]⟩,⟨#[98]⟩,⟨#[97,98]⟩,⟨#[105,116,39,115]⟩,⟨#[50,48,50,52,45,48,49,45,51,49]⟩,⟨#[49,50]⟩,⟨#[45,51,46,53]⟩,⟨#[65,124,66,44,91,99,93,59]⟩,⟨#[78,111,114,116,104,32,55]⟩,⟨#[120,32,121]⟩,⟨#[39,39]⟩,⟨#[97,98,99,97,98,99]⟩,⟨#[48]⟩,⟨#[55,46,50,53]⟩]
def aL8:∀s∈CB,kC s:=by have h:∀s∈CB,s.data.toList.length<=200/\∀c∈s.data.toList,32<=c.toNat/\c.toNat<=126:=al;intro s a;have:=h s a;exact sf.Cx (l:=s.data.toList) this.2 this.1
def av'(w:Γ)(e:Ending)(w':Γ):Prop:=∃c:Nat,e=.returned (.slice (some ⟨w.heap.size,0,none⟩) 15 c)/\Below w.heap.size w w'/\∀k (a:k<15),w' ⟨w.heap.size,k,none⟩=some (.string (CB[k]'a))
def aMf(w:Γ):Calls prog 300 #[] w λe w'=>av' w e w':=by
 have b:β w (w.alloc (.cells (CB.map Value.string).toArray 9)):=(bl _ _).alloc (aY _) _;have c:∀k (a:k<15),(w.alloc (.cells (CB.map Value.string).toArray 9)) ⟨w,k,none⟩=some (.string (CB[k]'a)):=λk a=>by have h:=c7 w (.cells (CB.map Value.string).toArray 9);simp only[World.cell?,h];rw[Wf,ou,j_ (show k<CB from a)];rfl
 go_enter func300,ntmps300;go_wp2;go_ret;exact⟨_,rfl,b,c⟩
variable{w w':Γ}{b n:Nat}{v:Φ}
def aGL{base:Nat}{e:TypeId}{size:Nat}{aH:List Φ}(h:w.ownsRow base e size v n aH)(d:fk b w w')(G:b<base):w'.ownsRow base e size v n aH:=by
 let⟨i,a⟩:=h;refine⟨i,?_⟩;rcases a with a|⟨g,cap,k,ak,f,c,j⟩
 exact .inl a;exact .inr ⟨g,cap,k,ak,f,by rw[d.block g (bM c) z];exact c,j⟩
variable{wr:Γ}{a:Θ}
def _root_.Go.aM.er.hN(af:er w b a n)(h:er wr b a n)(e:w'.heap[b]? =wr.heap[b]?)(k:fk b w w'):er w' b a n:=by
 let⟨c,l,H,I,g⟩:=h;let⟨_,_,_,d,_⟩:=af;refine⟨c,l,e.trans H,?_,g⟩;rcases d with d|⟨j,eo,rfl,d⟩
 exact .inl d;refine .inr ⟨j,eo,rfl,λi hi=>?_⟩;let⟨x,f⟩:=d i hi;exact⟨x,by rw[<-f];exact nN (k.block j (V8 w _ f) (λe=>g _ rfl z e))⟩
def _root_.Go.aM.fk.G2(h:fk b w wr)(G:Below w wr w'):fk b w w':=⟨G.os.trans h.os,G.tape.trans h.tape,G.output.trans h.output,c6 h.size G.size,λk a c=>(G.block k a).trans (h.block k a c)⟩
def wL(l:List Nat):List Int:=l.map λ(x:Nat)=>(x:Int)
variable{l:List Nat}
def axe(h:∀x∈l,32<=x/\x<=126)(a:l.length<=200):kC (strOfNums (wL l)):=by
 have e:strOfNums (wL l)=⟨(l.map UInt8.ofNat).toArray⟩:=by unfold strOfNums wL;rw[H5];rfl
 rw[e];refine sf.Cx (λc b=>?_) (by rw[Wh];exact a);obtain⟨x,d,rfl⟩:=AJ.1 b;have:=h x d;rw[afc (by have:UInt8.size=256:=rfl;omega)];exact this
def ax4{base:Nat}(h:w.ownsRow base 5 1 v l ((wL l).map (Value.int .u8))):(convert 131 9 v).run prog w=.ok (.string (strOfNums (wL l))) w:=by
 let⟨H,I⟩:=h;rcases I with⟨rfl,af⟩|⟨g,cap,a,rfl,f,iQ,c,e,d,b⟩
 have:l=[]:=CL af;subst this;exact V_ (P:=prog) (w:=w) 131 5 sK xH 0 0 9 K6
 .refine Rc (P:=prog) w 131 5 sK xH g 0 l cap (wL l) (by simp[wL]) (λi hi=>?_) 9 K6;have H:(a.toList.take (l.length*1))[i]? =((wL l).map (Value.int .u8))[i]? :=by rw[b]
  rw[pk,ci z,ou]at H;have I:i<(wL l).length:=by simpa[wL]using hi
  exact an6
structure nR (w wr:Γ) (b:Nat) (a:Θ) (len:Nat):Prop where
 o:er w b a len
 n:er wr b a len
 s:fk b w wr
def nR.next{len:Nat}(h:nR w wr b a len)(d:er w' b a len)(c:fk b wr w'):nR w w' b a len:=⟨h.o,d,h.s.trans c⟩
def nR.G2{len:Nat}(h:nR w wr b a len)(G:Below w wr w'):nR w w' b a len:=⟨h.o,h.o.hN h.n (G.block b h.o.lt) (h.s.G2 G),h.s.G2 G⟩
def nR.K{len:Nat}(h:nR w wr b a len)(G:β wr w'):nR w w' b a len:=h.G2 (G.mono h.s.size)
def nR.alloc{len:Nat}(h:nR w wr b a len)(o:Obj):nR w (wr.alloc o) b a len:=h.K ((bl _ _).alloc (aY _) o)
def aKG(w:Γ)(b:Nat)(a:Θ)(len:Nat)(av:len<=maxLen)(h:er w b a len):Calls prog 208 #[.pointer (some ⟨b,0,none⟩)] w λe w'=>Xz e/\nR w w' b a len:=by
 let⟨dZ,ld,n_,jf,lj⟩:=iz atY;have g:=A λ(n:Int) (H:0<n) (I:n<=2000000000000001) w Y=>qm w b a len n H I av Y;have Z:=A aMf;have u:Hid (nR w w b a len):=A ⟨h,h,fk.refl b w⟩;have X:Hid (b<w):=A h.lt;clear h;go_enter func208,ntmps208;go_upto_region 3 with(first|(go_at_call 19;(with_reducible refine(g.out 18 al al _ u.out.n).mono ?_);rintro e am ⟨⟨F,hW,ae,rfl⟩,bT,bH⟩;have C:=A (u.out.next bT bH);obtain⟨k,rfl⟩:∃k:Nat,F=(k:Int):=⟨F.toNat,z⟩)|(go_at_call 300;(with_reducible refine(Z.out _).mono ?_);rintro e ap ⟨c2,rfl,D,Q⟩;have j:=A (C.out.K D);have L:=A Q;clear D Q))
 by_cases y:k<15
 .have bi:=L.out k y;have o:=A (aL8 _ (fp (show k<CB from y)));go_wp2;go_ret;exact⟨⟨_,rfl,o⟩,j⟩
 .have P:¬(k:Int)<15:=z;clear L;go_upto_if 22 with(go_at_call 19;(with_reducible refine(g.out 9 al al _ j.out.n).mono ?_);rintro e w3 ⟨⟨J,j2,ag,rfl⟩,he,oh⟩;have r:=A (j.out.next he oh);obtain⟨m,rfl⟩:∃k:Nat,J=(k:Int):=⟨J.toNat,z⟩)
  generalize ((k:Int)==17)=q;go_cut [5]from 40 (λx c0=>∃n:Nat,n<=200/\x=.int .i64 n/\nR w c0 b a len)
  .cases q
   .go_wp2;go_meet;exact⟨m,z,rfl,r⟩
   .go_wp2_with (go_at_call 19;(with_reducible refine(g.out 11 al al _ r.out.n).mono ?_);rintro e bh ⟨⟨O,lh,T7,rfl⟩,lN,q7⟩;have U:=A (r.out.next lN q7);obtain⟨T,rfl⟩:∃k:Nat,O=(k:Int):=⟨O.toNat,z⟩);go_meet;exact⟨190+T,z,bz,U⟩
  case rest=>obtain⟨n,ax,rfl,d⟩:=hcut;have c:=A d;clear d u C j r;(go_wp2;go_loopw [6,7] (λv i wr=>∃l:List Nat,l.length<=n/\i=.int .i64 l/\(∀x∈l,32<=x/\x<=126)/\wr.ownsRow w 5 1 v l ((wL l).map (Value.int .u8))/\nR w wr b a len) (λ_ i _=>n-(RowKit.intOf i).toNat);case atStart=>exact⟨[],dh _,rfl,aq,ne _ _ _ _,c⟩);case round=>clear c;obtain⟨l,ab,rfl,o,E,d⟩:=hrel;have G:=A o;have t:=A E;have c:=A d;clear o E d;by_cases au:l.length<n;{have P:(l.length:Int)<n:=z;go_wp2_with (first|(at_builtin;refine lP _ rfl _ _ 131 rfl w 5 dZ (.int .u8 0) 1 1 sK ld n_ jf lj rfl al _ _ _ rfl (ub.out.alloc _) ⟨s,0,none⟩ 1 1 [_] rfl rfl (xk _ _ _) (by simp[Value.oneCell']) (by unfold maxLen;omega) z (by have:=f.out.s.size;simp;omega) ?_;intro dS br K M _)|(go_at_call 19;(with_reducible refine(g.out 95 al al _ c.out.n).mono ?_);rintro e s ⟨⟨R,af,ad,rfl⟩,n5,B⟩;have f:=A (c.out.next n5 B);have ub:=A (aGL t B X);obtain⟨m,rfl⟩:∃k:Nat,R=(k:Int):=⟨R.toNat,z⟩;have dY:IntKind.u8.wrap (32+(m:Int))=((32+m:Nat):Int):=(by rw[show(32:Int)+(m:Int)=((32+m:Nat):Int) by omega,QG,AL z])));have N:Below w s br:=((bl w s).alloc f.out.s.size _).grown M (by have:=f.out.s.size;simp;omega) (wh t);have lS:=A K;have S:=A (f.out.G2 N);clear K M N;go_wp2;refine⟨⟨l++[32+m],bw,?_,?_,?_,S⟩,by simp[RowKit.intOf];omega⟩;{rw[ir];go_num};{(intro x W;rcases kx.1 W with h|h);exact G.out x h;obtain rfl:=oQ.1 h;omega};have:=lS.out;simp only[wL,yO,ir,qu,ER,AH]at this|-;exact this};{have P:¬(l.length:Int)<n:=z;have gE:=ax4 t;have V:=A (axe G z);go_wp2;go_ret;exact⟨⟨_,rfl,V⟩,c⟩}
def KH:(prog.info? 47).map (·.size)=some 16:=aw
def BV{P:Program}{fn:Func}{p:Tmp}{ty:TypeId}(h:fn.results=#[.cell p ty])(tmps:Ω)(w:Γ)(g:Nat)(t:TypeId)(cs:Ω)(fr:Nat×Nat)(d:TypeDesc) (ag:tmps.getD p undef=.pointer (some ⟨g,0,none⟩))(ar:w.heap[g]? =some (.cells cs t fr)) (hu:P.underlying ty=some d)(hd:(match d with|.struct _|.array _ _=>true|_=>false)=true)(hi:(P.info? ty).map (·.size)=some cs.size): (results fn tmps).run P w=.ok (.agg cs) w:=by
 have a:tmps[p]?.getD undef=.pointer (some ⟨g,0,none⟩):=by simpa using ag
 simp[results,h,a,asAddr,run_loadVar_row w g t ty cs fr d ar hu hd hi]
def aqP{r:Nat}{t:TypeId}{fr:Nat×Nat}:∀(l:List Φ) (i:Nat) (w:Γ) (cs:Ω),w.heap[r]? =some (.cells cs t fr)->i+l.length=cs.size->(World.setCells w r i l).heap[r]? =some (.cells (cs.toList.take i++l).toArray t fr)
 |[],i,w,cs,h,hi=>by have e:cs.toList.take i=cs.toList:=vg (by rw[iV];simp only[tV]at hi;omega);rw[e,rf];exact h
 |v::l,i,w,cs,h,hi=>by have H:=h' (i:=i) h v;simp only[l8]at hi;have I:=aqP l (i+1) _ _ H bw;(have e:(cs.setIfInBounds i v).toList.take (i+1)=cs.toList.take i++[v]:=by rw[Array.toList_setIfInBounds,List.take_succ,List.take_set,List.set_eq_of_length_le (by rw[mw,iV];omega),atr (by rw[iV];omega)];rfl);rw[e,HZ,atz]at I;exact I
def Ks{r:Nat}{t:TypeId}{fr:Nat×Nat}{cs:Ω}(h:w.heap[r]? =some (.cells cs t fr))(l:List Φ)(a:l.length=cs.size):(World.setCells w r 0 l).heap[r]? =some (.cells l.toArray t fr):=by have:=aqP l 0 w cs h z;simpa using this
def Ag{B:Nat}{w:Γ}{r:Nat}(a:B<=r):∀(l:List Φ) (i:Nat) (W:Γ),Below B w W->Below B w (World.setCells W r i l)
 |[],_,_,h=>h
 |v::l,i,W,h=>Ag a l (i+1) _ (h.setCell (p:=⟨r,i,none⟩) a v)
def aqO{r k:Nat}(a:k≠r):∀(l:List Φ) (i:Nat) (W:Γ),(World.setCells W r i l).heap[k]? =W.heap[k]?
 |[],_,_=>rfl
 |v::l,i,W=>(aqO a l (i+1) _).trans (ht _ _ _ _ a)
abbrev gj(id cX fT cZ kd:Int)(d:Θ)(e c:Nat)(k:Int)(s:Ψ)(N S n:Int)(ca:Θ)(cc:Nat)(ra:Θ)(rc:Nat)(eX eH:Ψ)(aO:Θ)(b a:Nat):Ω:=
 #[.int .i64 id,.int .i64 cX,.int .i64 fT,.int .i64 cZ,.int .i64 kd,.slice d e c,.int .i64 k,.string s,.int .i64 N,.int .i64 S,.int .i64 n,.slice ca 0 cc,.slice ra 0 rc,.string eX,.string eH,.slice aO b a]
abbrev uP:Ω:=gj 0 0 0 0 0 none 0 0 0 bX 0 0 0 none 0 none 0 bX bX none 0 0
def UT(N S:Int)(w:Γ):χ 477 #[.agg #[N,S]] w λe w'=>e=.returned (.agg (bC 2 bX N S 0 none 0 0 none 0 0)):=by go_enter func477,ntmps477;go_wp2;refine gd (by simp[results,results477,go_sem];rfl) rfl ?_;exact⟨rfl,((bl _ _).alloc (aY _) _).alloc aq _⟩
def VA(s:Ψ)(w:Γ):χ 476 #[s] w λe w'=>e=.returned (.agg (bC 1 s 0 0 0 none 0 0 none 0 0)):=by go_enter func476,ntmps476;go_wp2;refine gd (by simp[results,results476,go_sem];rfl) rfl ?_;exact Po
def aym(n:Int)(w:Γ):χ 478 #[n] w λe w'=>e=.returned (.agg (bC 3 bX 0 0 n none 0 0 none 0 0)):=by go_enter func478,ntmps478;go_wp2;refine gd (by simp[results,results478,go_sem];rfl) rfl ?_;exact Po
def av7(e:Ending):Prop:=∃n:Int,(n=0∨n=1)/\e=.returned (.agg (bC 4 bX 0 0 n none 0 0 none 0 0))
def asH(b:Bool)(w:Γ):χ 479 #[.bool b] w λe w'=>av7 e:=by
 cases b<;>
 .go_enter func479,ntmps479;go_wp2;refine gd (by simp[results,results479,go_sem];rfl) rfl ?_;exact⟨⟨_,aq,rfl⟩,(bl _ _).alloc (aY _) _⟩
def acX(N S:Int)(w:Γ):χ 531 #[.agg #[N,S],.bool true] w λe w'=>e=.returned (.tuple #[.agg (bC 2 bX N S 0 none 0 0 none 0 0),.int .i64 0]):=by have c:=A λw=>UT N S w;have T:=k0 w (.cells #[N,S] 41 (0,0)) (.cells (bC 0 bX 0 0 0 none 0 0 none 0 0) 44 (0,0));go_enter func531,ntmps531;go_wp2_with (go_at_call 477;(with_reducible refine(c.out _).mono ?_);rintro e d ⟨rfl,b⟩;have a:=T.K b;let⟨l,g,j,m,o,n,q⟩:=eU a.q;let⟨z0,f,i,z3,z4,z5,k⟩:=hp a.q);refine gd (j5 (fn:=f531) rfl _ _ (w.heap.size+1) 44 _ (0,0) _ _ rfl rfl (iJ a.q _ _ _ _ _ _ _) k2 rfl jk) rfl ?_;exact⟨rfl,iU a.h z _ _ _ _ _ _ _⟩
def ahD(l:List Ψ)(s:Ψ)(e:Ending):Prop:=∃r:Int,e=.returned (.int .i64 r)/\((∃(k:Nat) (a:k<l.length),r=k/\l[k]=s)∨(r= -1/\s∉l))
def axY(w:Γ)(a:Θ)(c:Nat)(l:List Ψ)(s:Ψ)(h:g0 aD w a l): Calls prog 196 #[.slice a l c,s] w λe w'=>ahD l s e/\w=w':=by have d:=h.1;have ay:=A h.2;clear h;go_enter func196,ntmps196;exact aoe
def MG(w:Γ)(a:Θ)(c:Nat)(l:List Ψ)(s:Ψ)(h:g0 aD w a l)(r:Bool)(d:r=true↔s∈l): Calls prog 480 #[s,.slice a l c] w λe w'=>e=.returned (.bool r)/\w=w':=by
 have C:=A (axY w a c l s h);go_enter func480,ntmps480;go_wp2_with (go_at_call 196;(with_reducible refine(C.out).mono ?_);rintro e g ⟨⟨x,rfl,b⟩,rfl⟩);go_ret;refine⟨?_,rfl⟩;rcases b with⟨k,f,rfl,b⟩|⟨rfl,b⟩
 have:s∈l:=b▸fp f;rw[d.2 this];simp
 .have:r=false:=by
   cases r with
   |false=>rfl
   |true=>exact absurd (d.1 rfl) b
  rw[this];simp
def atV(l:List (Ψ×Nat))(s:Ψ)(e:Ending):Prop:=∃(k:Nat) (a:k<l.length),e=.returned (.int .i64 k)/\l[k].1=s
def axT(w:Γ)(a:Θ)(c:Nat)(l:List (Ψ×Nat))(s:Ψ)(h:Go.di.jy w a l)(B:l.length<=8)(n:∃x∈l,x.1=s): Calls prog 194 #[.slice a l.length c,.string s] w λe w'=>atV l s e/\w=w':=by
 obtain⟨b,o,arr,bd,rfl,G,m⟩:=h;have u:Hid (∀k (g:k<l.length),w ⟨b,o+k*2,none⟩=some (.string l[k].1)):=A λk g=>by simp[World.cell?,G,(m k g).1]
 have E:b<w.heap.size:=(hl.1 G).1;have y:=A n;clear G m n;go_enter func194,ntmps194;go_wp2;go_loop [5] (λi=>∃k:Nat,k<=l.length/\i=.int .i64 k/\Hid (∀j (f:j<l.length),j<k->l[j].1≠s)) (λi=>l.length-(RowKit.intOf i).toNat);case atStart=>exact⟨0,dh _,rfl,A λj _ f=>z⟩
 case round=>obtain⟨k,g,rfl,q⟩:=hrel;by_cases au:k<l.length;{have bi:=u.out k au;have C:(0:Int)<=(k:Int):=z;have D:(k:Int)<l.length:=z;by_cases d:l[k].1=s;{rw[d]at bi;have ak:=qH s;go_wp2;go_ret;exact⟨⟨k,au,rfl,d⟩,rfl⟩};{(have ak:=fX d;have r:Hid (∀j (f:j<l.length),j<k+1->l[j].1≠s):=A λj f F=>by by_cases e:j=k;{subst e;exact d};{exact q.out j f z});generalize l[k].1=x at*;(go_wp2;go_round;case rel=>exact⟨k+1,z,bz,r⟩);case measure=>simp[RowKit.intOf];omega}};{exfalso;obtain⟨x,d,e⟩:=y.out;obtain⟨j,f,t⟩:=AI.1 d;exact q.out j f z (by rw[t];exact e)}
def A4(n s:Nat)(e:Ending):Prop:=∃(N:Int) (S:Nat),e=.returned (.tuple #[.agg #[.int .i64 N,.int .i64 S],.bool true])/\hC N S/\S<=3/\N.natAbs<=n/\S<=s
def atX(a:Ψ)(n s:Nat)(w:Γ)(aL:dG a n)(B:n<=1000000000000000)(y:s<=3):χ 403 #[.agg #[.bool true,a,s]] w λe w'=>A4 n s e:=by
 have r:Hid (∀w,χ 121 #[.int .i64 10] w λe w'=>h1 10 e):=λw=>qn 10 w z;have T:=k0 w (.cells #[.bool true,a,s] 338 (0,0)) (.cells #[.int .i64 0,.int .i64 0] 41 (0,0));have D:Hid (rr w ((w.alloc (.cells #[.bool true,a,s] 338 (0,0))).alloc (.cells #[.int .i64 0,.int .i64 0] 41 (0,0))) w (w.heap.size+1) true n s a):=⟨⟨T.p⟩,T.q,aL,B,y,T.h,z,z,z⟩;clear T aL B y;go_enter Q9,V4;go_wp2;generalize (w.alloc (.cells #[.bool true,a,s] 338 (0,0))).alloc (.cells #[.int .i64 0,.int .i64 0] 41 (0,0))=Q at*;obtain⟨b0,j⟩:∃b0,b0=w.heap.size+1:=⟨_,rfl⟩;obtain⟨c,o⟩:∃c,c=w.heap.size:=⟨_,rfl⟩;rw[<-j,<-o]at D;rw[<-j,<-o];clear o j;go_loopw [4,5,6] (λ_ _ _ wr=>∃(m k:Nat) (t:Ψ),rr w wr c b0 true m k t/\k<=s/\m<=n) (λ_ _ _ wr=>match wr ⟨c,2,none⟩with|some (.int _ k)=>k.toNat|_=>0);case atStart=>exact⟨n,s,a,D,aY _,aY _⟩
 case round=>let⟨m,k,t,d,kG,P⟩:=hrel;have l:=A d;have c1:=d.x.c1;have c2:=d.x.c2;have q:Hid (∀f w,dG f 10->χ 307 #[t,f] w λe w'=>Mt m 10 e):=λf w I=>Ai t f m 10 w d.t I (by have:=d.n;omega) z z;have U:=d.n;clear d;by_cases O:0<k;{have G:0<(k:Int):=z;obtain⟨eF,nz⟩:∃eF,eF+1=k:=⟨k-1,z⟩;have S:(k:Int)-1=(eF:Int):=z;go_wp2;go_region_held3 (λW=>W ⟨c,1,none⟩=t) (first|exact c1|exact ak|exact M|go_keep) (first|(have _:=C;go_at_call 307;(with_reducible refine(q.out f _ C).mono ?_);rintro e w3 ⟨⟨ek,ew,rfl,vU,j2⟩,F⟩;have cJ:=A (u.out.K F);have M:=cJ.out.x.c1)|(go_at_call 121;(with_reducible refine(r.out _).mono ?_);rintro e R ⟨⟨f,rfl,C⟩,j⟩;have u:=A (l.out.drew.K j);have ak:=u.out.x.c1));by_cases az:m%10=0;exact aoU;have nC:=J4 j2 z;have hW:0<(ew.size:Int):=z;have xV:Hid (k=0∨m%10≠0):=.inr az;let⟨gg,cr⟩:=j' cJ.out.r;let⟨z0,cC⟩:=m3 cJ.out.r;have L:=cJ.out.x.bi;have H:=cJ.out.x.c1;have K:=cJ.out.x.c2;have gc:(k:Int)<=6:=(by have:=cJ.out.k;omega);have N:(m:Int)<=1000000000000000:=(by have:=cJ.out.n;omega);have E:c≠b0:=(by have:=cJ.out.g;omega);have J:b0≠c:=(by have:=cJ.out.g;omega);clear r q l u;exact aov};have G:¬0<(k:Int):=z;have xV:Hid (k=0∨m%10≠0):=.inl z;have cJ:=l;let⟨gg,cr⟩:=j' cJ.out.r;let⟨z0,cC⟩:=m3 cJ.out.r;have L:=cJ.out.x.bi;have H:=cJ.out.x.c1;have K:=cJ.out.x.c2;have gc:(k:Int)<=6:=(by have:=cJ.out.k;omega);have N:(m:Int)<=1000000000000000:=(by have:=cJ.out.n;omega);have E:c≠b0:=(by have:=cJ.out.g;omega);have J:b0≠c:=(by have:=cJ.out.g;omega);clear r q l;exact aov
def atW(a:Ψ)(n s:Nat)(w:Γ)(aL:dG a n)(B:n<=1000000000000000)(y:s<=3):χ 403 #[.agg #[.bool false,a,s]] w λe w'=>A4 n s e:=by
 have r:Hid (∀w,χ 121 #[.int .i64 10] w λe w'=>h1 10 e):=λw=>qn 10 w z;have T:=k0 w (.cells #[.bool false,a,s] 338 (0,0)) (.cells #[.int .i64 0,.int .i64 0] 41 (0,0));have D:Hid (rr w ((w.alloc (.cells #[.bool false,a,s] 338 (0,0))).alloc (.cells #[.int .i64 0,.int .i64 0] 41 (0,0))) w (w.heap.size+1) false n s a):=⟨⟨T.p⟩,T.q,aL,B,y,T.h,z,z,z⟩;clear T aL B y;go_enter Q9,V4;go_wp2;generalize (w.alloc (.cells #[.bool false,a,s] 338 (0,0))).alloc (.cells #[.int .i64 0,.int .i64 0] 41 (0,0))=Q at*;obtain⟨b0,j⟩:∃b0,b0=w.heap.size+1:=⟨_,rfl⟩;obtain⟨c,o⟩:∃c,c=w.heap.size:=⟨_,rfl⟩;rw[<-j,<-o]at D;rw[<-j,<-o];clear o j;go_loopw [4,5,6] (λ_ _ _ wr=>∃(m k:Nat) (t:Ψ),rr w wr c b0 false m k t/\k<=s/\m<=n) (λ_ _ _ wr=>match wr ⟨c,2,none⟩with|some (.int _ k)=>k.toNat|_=>0);case atStart=>exact⟨n,s,a,D,aY _,aY _⟩
 case round=>let⟨m,k,t,d,kG,P⟩:=hrel;have l:=A d;have c1:=d.x.c1;have c2:=d.x.c2;have q:Hid (∀f w,dG f 10->χ 307 #[t,f] w λe w'=>Mt m 10 e):=λf w I=>Ai t f m 10 w d.t I (by have:=d.n;omega) z z;have U:=d.n;clear d;by_cases O:0<k;{have G:0<(k:Int):=z;obtain⟨eF,nz⟩:∃eF,eF+1=k:=⟨k-1,z⟩;have S:(k:Int)-1=(eF:Int):=z;go_wp2;go_region_held3 (λW=>W ⟨c,1,none⟩=t) (first|exact c1|exact ak|exact M|go_keep) (first|(have _:=C;go_at_call 307;(with_reducible refine(q.out f _ C).mono ?_);rintro e w3 ⟨⟨ek,ew,rfl,vU,j2⟩,F⟩;have cJ:=A (u.out.K F);have M:=cJ.out.x.c1)|(go_at_call 121;(with_reducible refine(r.out _).mono ?_);rintro e R ⟨⟨f,rfl,C⟩,j⟩;have u:=A (l.out.drew.K j);have ak:=u.out.x.c1));by_cases az:m%10=0;exact aoU;have nC:=J4 j2 z;have hW:0<(ew.size:Int):=z;have xV:Hid (k=0∨m%10≠0):=.inr az;let⟨gg,cr⟩:=j' cJ.out.r;let⟨z0,cC⟩:=m3 cJ.out.r;have L:=cJ.out.x.bi;have H:=cJ.out.x.c1;have K:=cJ.out.x.c2;have gc:(k:Int)<=6:=(by have:=cJ.out.k;omega);have N:(m:Int)<=1000000000000000:=(by have:=cJ.out.n;omega);have E:c≠b0:=(by have:=cJ.out.g;omega);have J:b0≠c:=(by have:=cJ.out.g;omega);clear r q l u;exact aog};have G:¬0<(k:Int):=z;have xV:Hid (k=0∨m%10≠0):=.inl z;have cJ:=l;let⟨gg,cr⟩:=j' cJ.out.r;let⟨z0,cC⟩:=m3 cJ.out.r;have L:=cJ.out.x.bi;have H:=cJ.out.x.c1;have K:=cJ.out.x.c2;have gc:(k:Int)<=6:=(by have:=cJ.out.k;omega);have N:(m:Int)<=1000000000000000:=(by have:=cJ.out.n;omega);have E:c≠b0:=(by have:=cJ.out.g;omega);have J:b0≠c:=(by have:=cJ.out.g;omega);clear r q l;exact aog
def Jk(neg:Bool)(a:Ψ)(n s:Nat)(w:Γ)(aL:dG a n)(c:n<=1000000000000000)(b:s<=3):χ 403 #[.agg #[.bool neg,a,s]] w λe w'=>A4 n s e:=by cases neg;exact atW a n s w aL c b;exact atX a n s w aL c b
end Go.bE
