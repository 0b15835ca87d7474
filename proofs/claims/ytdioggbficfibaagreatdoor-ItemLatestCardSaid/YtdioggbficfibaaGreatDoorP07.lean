/- ItemLatest, one part of the proof. -/
import Derived.Test.YtdioggbficfibaaGreatDoorP03
import Derived.Test.YtdioggbficfibaaGreatDoorP06
set_option linter.all false
set_option maxRecDepth 100000
set_option maxHeartbeats 16000000
namespace Go.aJ
open Go Go.Proofs.Tryz Go.Proofs Go.RowKit Go.Lib
def zn(neg:Bool)(n S:Nat):List UInt8:=(if neg=true then [45]else [])++(decDigits (n/10^S)++(if 0<S then 46::(decDigits (10^S+n%10^S)).drop 1 else []))
variable{t:ByteArray}{n:Nat}
theorem Fg(h:t.data.toList=decDigits n)(c:n<=1000000000000000):t.size<=1000000000000001/\1<=t.size:=by
 have H:=aeU n;have I:=UU n n (aZ _);rw[←h,jC]at H;have H:t.size=nDigits n:=H;have b:1<=nDigits n:=by
  by_cases a:n<10;rw[aeW a];omega;rw[nDigits_big a];omega
 omega
theorem SZ(t:ByteArray):(t.extract 1 t.size).data.toList=t.data.toList.drop 1:=aeV t 1
theorem aKe(N:Int)(S:Nat)(w:World)(h:hn N S)(Q:0<S)(bm:S<=3)(n:Nat)(t:n=N.natAbs)(F:decide (N<0)=true):χ 205 #[.agg #[N,S]] w fun e w'=>Je (zn true n S) e:=by
 have qv:n<=1000000000000000:=by have:=h.2.2;omega
 have ag:10^S<=10^3:=kO z z;have D:0<10^S:=IJ z;have T:Hid (∀w,χ 297 #[.agg #[N,S]] w fun e w'=>nC true n S e):=fun w=>by rw[←F,t];exact ym N S w h
 have u:Hid (∀w,χ 298 #[S] w fun e w'=>hJ (10^S) e):=fun w=>K4 S w z;clear h t F;obtain⟨P,V⟩:∃P,Hid (P=10^S):=⟨10^S,G rfl⟩;unfold zn;rw[←V.out]at u ag D⊢;have hM:n/P<=n:=IG _ _;have ii:n%P<P:=zu _ D;obtain⟨q,s⟩:∃q,Hid (q=n/P):=⟨n/P,G rfl⟩;obtain⟨r,c⟩:∃r,Hid (r=n%P):=⟨n%P,G rfl⟩;rw[←s.out]at hM⊢;rw[←c.out]at ii;rw[←c.out];have ei:0<(S:Int):=z;rw[co Q];go_enter Q8,Wd
 go_wp2_with (first|(have _:=o;go_at_call 43;(with_reducible refine(F5 B L P r _ l o z z).mono ?_);rintro e a_ ⟨⟨t5,rfl,H⟩,R⟩;have Z:=G (cj jc.out R))|(have _:=H;go_at_call 300;(with_reducible refine(Fc t5 (P+r) _ H z).mono ?_);rintro e bi ⟨⟨b,rfl,J⟩,U⟩;have X:=G (cj Z.out U);have k:=Fg J z;have aa:=k.1;have ad:=k.2;have CR:(1:Int)<=(b.size:Int):=z;have I:=SZ b;have M:=G I;clear I k;have z9:(b.extract 1 b.size).size<=1000000000000001:=bz)|(have _:=m;go_at_call 300;(with_reducible refine(Fc K q _ m z).mono ?_);rintro e y ⟨⟨t4,rfl,E⟩,a⟩;have jc:=G (cj iL.out a);have k6:y.cell? ⟨d,0,none⟩=some (.bool true):=((j.K a).bo);have hx:y.cell? ⟨d,2,none⟩=some (.int .i64 S):=((j.K a).c2);have z4:=(Fg E z).1;have ov:=j.K a)|(have _:=l;go_at_call 299;(with_reducible refine(A4 g B n P _ Y l z z z).mono ?_);rintro e bX ⟨⟨K,L,rfl,m,o⟩,x⟩;have j:=i.K x;rw[←s.out]at m;rw[←c.out]at o;have iL:=G (cj W.out x))|(have _:=C;go_at_call 298;(with_reducible refine(u.out _).mono ?_);rintro e aq ⟨⟨B,rfl,l⟩,A⟩;have i:=C.K A;have cp:=i.lt;have aj:=i.c1;have W:=G ((f.out.alloc f.out.size (.cells #[.bool true,g,S] 337 (0,0))).trans (A.mono (by have:=f.out.size;simp;omega))))|(go_at_call 297;(with_reducible refine(T.out _).mono ?_);rintro e d ⟨⟨g,rfl,Y⟩,O⟩;have f:=G ((e4 w (.cells #[N,S] 38 (0,0))).trans (O.mono ao));have C:=ha.ee d (.bool true) (.string g) S))
 go_ret;exact⟨⟨_,rfl,by simp only[SF,E,M.out,J];simp⟩,X.out⟩
theorem aKf(N:Int)(w:World)(h:hn N ((0:Nat):Int))(n:Nat)(t:n=N.natAbs)(E:decide (N<0)=true):χ 205 #[.agg #[N,.int .i64 0]] w fun e w'=>Je (zn true n 0) e:=by
 have qv:n<=1000000000000000:=by have:=h.2.2;omega
 have ag:10^0<=10^3:=kO z z;have D:0<10^0:=IJ z;have M:Hid (∀w,χ 297 #[.agg #[N,.int .i64 0]] w fun e w'=>nC true n 0 e):=fun w=>by rw[←E,t];exact ym N 0 w h
 have u:Hid (∀w,χ 298 #[.int .i64 0] w fun e w'=>hJ (10^0) e):=fun w=>K4 0 w z;clear h t E;obtain⟨P,Q⟩:∃P,Hid (P=10^0):=⟨10^0,G rfl⟩;unfold zn;rw[←Q.out]at u ag D⊢;have U:n/P<=n:=IG _ _;have V:n%P<P:=zu _ D;obtain⟨q,o⟩:∃q,Hid (q=n/P):=⟨n/P,G rfl⟩;obtain⟨r,s⟩:∃r,Hid (r=n%P):=⟨n%P,G rfl⟩;rw[←o.out]at U⊢;rw[←s.out]at V;go_enter Q8,Wd
 go_wp2_with (first|(have _:=m;go_at_call 43;(with_reducible refine(F5 B J P r _ k m z z).mono ?_);rintro e Z ⟨⟨t5,rfl,F⟩,L⟩;have T:=Lib.hid (cj jc.out L))|(have _:=F;go_at_call 300;(with_reducible refine(Fc t5 (P+r) _ F z).mono ?_);rintro e bi ⟨⟨b,rfl,W⟩,O⟩;have gy:=Lib.hid (cj T.out O);have j:=Fg W z;have aa:=j.1;have ad:=j.2;have X:(1:Int)<=(b.size:Int):=z;have H:=SZ b;have Y:=Lib.hid H;clear H j;have z9:(b.extract 1 b.size).size<=1000000000000001:=bz)|(have _:=l;go_at_call 300;(with_reducible refine(Fc I q _ l z).mono ?_);rintro e y ⟨⟨t4,rfl,oP⟩,a⟩;have jc:=G (cj iL.out a);have k6:y.cell? ⟨c,0,none⟩=some (.bool true):=((i.K a).bo);have hx:y.cell? ⟨c,2,none⟩=some (.int .i64 0):=((i.K a).c2);have z4:=(Fg oP z).1;have ov:=i.K a)|(have _:=k;go_at_call 299;(with_reducible refine(A4 f B n P _ S k z z z).mono ?_);rintro e bX ⟨⟨I,J,rfl,l,m⟩,x⟩;have i:=g.K x;rw[←o.out]at l;rw[←s.out]at m;have iL:=G (cj R.out x))|(have _:=C;go_at_call 298;(with_reducible refine(u.out _).mono ?_);rintro e aq ⟨⟨B,rfl,k⟩,A⟩;have g:=C.K A;have cp:=g.lt;have aj:=g.c1;have R:=G ((d.out.alloc d.out.size (.cells #[.bool true,f,.int .i64 0] 337 (0,0))).trans (A.mono (by have:=d.out.size;simp;omega))))|(go_at_call 297;(with_reducible refine(M.out _).mono ?_);rintro e c ⟨⟨f,rfl,S⟩,K⟩;have d:=G ((e4 w (.cells #[N,.int .i64 0] 38 (0,0))).trans (K.mono ao));have C:=ha.ee c (.bool true) (.string f) (.int .i64 0)))
 exact aoY
theorem aKc(N:Int)(S:Nat)(w:World)(h:hn N S)(Q:0<S)(bm:S<=3)(n:Nat)(t:n=N.natAbs)(F:decide (N<0)=false):χ 205 #[.agg #[N,S]] w fun e w'=>Je (zn false n S) e:=by
 have qv:n<=1000000000000000:=by have:=h.2.2;omega
 have ag:10^S<=10^3:=kO z z;have D:0<10^S:=IJ z;have T:Hid (∀w,χ 297 #[.agg #[N,S]] w fun e w'=>nC false n S e):=fun w=>by rw[←F,t];exact ym N S w h
 have u:Hid (∀w,χ 298 #[S] w fun e w'=>hJ (10^S) e):=fun w=>K4 S w z;clear h t F;obtain⟨P,V⟩:∃P,Hid (P=10^S):=⟨10^S,G rfl⟩;unfold zn;rw[←V.out]at u ag D⊢;have hM:n/P<=n:=IG _ _;have ii:n%P<P:=zu _ D;obtain⟨q,s⟩:∃q,Hid (q=n/P):=⟨n/P,G rfl⟩;obtain⟨r,c⟩:∃r,Hid (r=n%P):=⟨n%P,G rfl⟩;rw[←s.out]at hM⊢;rw[←c.out]at ii;rw[←c.out];have ei:0<(S:Int):=z;rw[co Q];go_enter Q8,Wd
 go_wp2_with (first|(have _:=o;go_at_call 43;(with_reducible refine(F5 B L P r _ l o z z).mono ?_);rintro e a_ ⟨⟨t5,rfl,H⟩,R⟩;have Z:=G (cj jc.out R))|(have _:=H;go_at_call 300;(with_reducible refine(Fc t5 (P+r) _ H z).mono ?_);rintro e bi ⟨⟨b,rfl,J⟩,U⟩;have X:=G (cj Z.out U);have k:=Fg J z;have aa:=k.1;have ad:=k.2;have CR:(1:Int)<=(b.size:Int):=z;have I:=SZ b;have M:=G I;clear I k;have z9:(b.extract 1 b.size).size<=1000000000000001:=bz)|(have _:=m;go_at_call 300;(with_reducible refine(Fc K q _ m z).mono ?_);rintro e y ⟨⟨t4,rfl,E⟩,a⟩;have jc:=G (cj iL.out a);have k6:y.cell? ⟨d,0,none⟩=some (.bool false):=((j.K a).bo);have hx:y.cell? ⟨d,2,none⟩=some (.int .i64 S):=((j.K a).c2);have z4:=(Fg E z).1;have ov:=j.K a)|(have _:=l;go_at_call 299;(with_reducible refine(A4 g B n P _ Y l z z z).mono ?_);rintro e bX ⟨⟨K,L,rfl,m,o⟩,x⟩;have j:=i.K x;rw[←s.out]at m;rw[←c.out]at o;have iL:=G (cj W.out x))|(have _:=C;go_at_call 298;(with_reducible refine(u.out _).mono ?_);rintro e aq ⟨⟨B,rfl,l⟩,A⟩;have i:=C.K A;have cp:=i.lt;have aj:=i.c1;have W:=G ((f.out.alloc f.out.size (.cells #[.bool false,g,S] 337 (0,0))).trans (A.mono (by have:=f.out.size;simp;omega))))|(go_at_call 297;(with_reducible refine(T.out _).mono ?_);rintro e d ⟨⟨g,rfl,Y⟩,O⟩;have f:=G ((e4 w (.cells #[N,S] 38 (0,0))).trans (O.mono ao));have C:=ha.ee d (.bool false) (.string g) S))
 go_ret;exact⟨⟨_,rfl,by simp only[SF,E,M.out,J];simp⟩,X.out⟩
theorem aKd(N:Int)(w:World)(h:hn N ((0:Nat):Int))(n:Nat)(t:n=N.natAbs)(E:decide (N<0)=false):χ 205 #[.agg #[N,.int .i64 0]] w fun e w'=>Je (zn false n 0) e:=by
 have qv:n<=1000000000000000:=by have:=h.2.2;omega
 have ag:10^0<=10^3:=kO z z;have D:0<10^0:=IJ z;have M:Hid (∀w,χ 297 #[.agg #[N,.int .i64 0]] w fun e w'=>nC false n 0 e):=fun w=>by rw[←E,t];exact ym N 0 w h
 have u:Hid (∀w,χ 298 #[.int .i64 0] w fun e w'=>hJ (10^0) e):=fun w=>K4 0 w z;clear h t E;obtain⟨P,Q⟩:∃P,Hid (P=10^0):=⟨10^0,G rfl⟩;unfold zn;rw[←Q.out]at u ag D⊢;have U:n/P<=n:=IG _ _;have V:n%P<P:=zu _ D;obtain⟨q,o⟩:∃q,Hid (q=n/P):=⟨n/P,G rfl⟩;obtain⟨r,s⟩:∃r,Hid (r=n%P):=⟨n%P,G rfl⟩;rw[←o.out]at U⊢;rw[←s.out]at V;go_enter Q8,Wd
 go_wp2_with (first|(have _:=m;go_at_call 43;(with_reducible refine(F5 B J P r _ k m z z).mono ?_);rintro e Z ⟨⟨t5,rfl,F⟩,L⟩;have T:=Lib.hid (cj jc.out L))|(have _:=F;go_at_call 300;(with_reducible refine(Fc t5 (P+r) _ F z).mono ?_);rintro e bi ⟨⟨b,rfl,W⟩,O⟩;have gy:=Lib.hid (cj T.out O);have j:=Fg W z;have aa:=j.1;have ad:=j.2;have X:(1:Int)<=(b.size:Int):=z;have H:=SZ b;have Y:=Lib.hid H;clear H j;have z9:(b.extract 1 b.size).size<=1000000000000001:=bz)|(have _:=l;go_at_call 300;(with_reducible refine(Fc I q _ l z).mono ?_);rintro e y ⟨⟨t4,rfl,oP⟩,a⟩;have jc:=G (cj iL.out a);have k6:y.cell? ⟨c,0,none⟩=some (.bool false):=((i.K a).bo);have hx:y.cell? ⟨c,2,none⟩=some (.int .i64 0):=((i.K a).c2);have z4:=(Fg oP z).1;have ov:=i.K a)|(have _:=k;go_at_call 299;(with_reducible refine(A4 f B n P _ S k z z z).mono ?_);rintro e bX ⟨⟨I,J,rfl,l,m⟩,x⟩;have i:=g.K x;rw[←o.out]at l;rw[←s.out]at m;have iL:=G (cj R.out x))|(have _:=C;go_at_call 298;(with_reducible refine(u.out _).mono ?_);rintro e aq ⟨⟨B,rfl,k⟩,A⟩;have g:=C.K A;have cp:=g.lt;have aj:=g.c1;have R:=G ((d.out.alloc d.out.size (.cells #[.bool false,f,.int .i64 0] 337 (0,0))).trans (A.mono (by have:=d.out.size;simp;omega))))|(go_at_call 297;(with_reducible refine(M.out _).mono ?_);rintro e c ⟨⟨f,rfl,S⟩,K⟩;have d:=G ((e4 w (.cells #[N,.int .i64 0] 38 (0,0))).trans (K.mono ao));have C:=ha.ee c (.bool false) (.string f) (.int .i64 0)))
 exact aoY
theorem aKb(N:Int)(S:Nat)(w:World)(h:hn N S)(b:S<=3):χ 205 #[.agg #[N,S]] w fun e w'=>Je (zn (decide (N<0)) N.natAbs S) e:=by
 by_cases a:N<0
 ·have hd:decide (N<0)=true:=by simp[a]
  rw[hd];by_cases ae:0<S;exact aKe N S w h ae b _ rfl hd;obtain rfl:S=0:=z;exact aKf N w h _ rfl hd
 ·have hd:decide (N<0)=false:=by simp[a]
  rw[hd];by_cases ae:0<S;exact aKc N S w h ae b _ rfl hd;obtain rfl:S=0:=z;exact aKd N w h _ rfl hd
def MS(e:Ending):Prop:=∃(N:Int) (S:Nat),e=.returned (.tuple #[.agg #[.int .i64 N,.int .i64 S],.bool true])/\hn N S/\S<=3
variable{W:World}{b:Nat}{x y:Value}
theorem ha.aIm{af:Value}(h:ha W b x y af)(u:Value):ha (W.setCell ⟨b,1,none⟩ u) b x u af:=by
 refine⟨?_⟩;simp[World.setCell,V3,h.h]
theorem ha.aIn{af:Value}(h:ha W b x y af)(u:Value):ha (W.setCell ⟨b,2,none⟩ u) b x y u:=by
 refine⟨?_⟩;simp[World.setCell,V3,h.h]
structure qW (w wr:World) (bt bQ:Nat) (neg:Bool) (n k:Nat) (t:ByteArray):Prop where
 x:ha wr bt (.bool neg) (.string t) (.int .i64 k)
 r:wr.heap[bQ]? =some (.cells #[.int .i64 0,.int .i64 0] 38 (0,0))
 t:dA t n
 n:n<=1000000000000000
 k:k<=3
 b:β w wr
 g:w.heap.size<=bt/\w.heap.size<=bQ/\bt<bQ
variable{w wr:World}{c k:Nat}{neg:Bool}
theorem qW.K{w':World}(a:qW w wr c b neg n k t)(h:β wr w'):qW w w' c b neg n k t:=
 ⟨a.x.K h,(h.block b (g6.1 a.r).1).trans a.r,a.t,a.n,a.k,cj a.b h,a.g⟩
theorem qW.drew{a:Nat}(c:qW w wr b a neg n k t):qW w wr.drew b a neg n k t:=c.K ((br _ _).drew)
theorem qW.step{d m:Nat}{u:ByteArray}(a:qW w wr b c neg n k t)(hu:dA u m)(e:m<=n)(f:d+1=k):qW w ((wr.setCell ⟨b,1,none⟩ (.string u)).setCell ⟨b,2,none⟩ (.int .i64 (d:Nat))) b c neg m d u:=
 ⟨(a.x.aIm _).aIn _,by rw[g_ _ _ _ _ (by have:=a.g;show c≠b;omega),g_ _ _ _ _ (by have:=a.g;show c≠b;omega)];exact a.r,hu,cO e a.n,by have:=a.k;omega,(a.b.setCell (p:=⟨b,1,none⟩) a.g.1 _).setCell (p:=⟨b,2,none⟩) a.g.1 _,a.g⟩
theorem Vo(neg:Bool)(c:n<=1000000000000000)(b:k<=3)(h:k=0∨n%10≠0)(N:Int)(a:N=if neg=true then-(n:Int)else n):hn N k:=by
 refine⟨z,z,?_,?_,?_⟩;rw[a];split<;>omega;rw[a];split<;>omega;rcases h with h|h;left;omega;right;rw[a];split;rw[Int.neg_tmod];show ¬ -(((n%10:Nat)):Int)=0;omega;show ¬(((n%10:Nat)):Int)=0;omega
theorem ZC(a:ByteArray)(n s:Nat)(w:World)(aH:dA a n)(A:n<=1000000000000000)(y:s<=3):χ 395 #[.agg #[.bool true,a,s]] w fun e w'=>MS e:=by
 have r:Hid (∀w,χ 108 #[.int .i64 10] w fun e w'=>hJ 10 e):=fun w=>p0 10 w z;have T:=lm w (.cells #[.bool true,a,s] 337 (0,0)) (.cells #[.int .i64 0,.int .i64 0] 38 (0,0));have C:Hid (qW w ((w.alloc (.cells #[.bool true,a,s] 337 (0,0))).alloc (.cells #[.int .i64 0,.int .i64 0] 38 (0,0))) w (w.heap.size+1) true n s a):=⟨⟨T.p⟩,T.q,aH,A,y,T.h,z,z,z⟩;clear T aH A y;go_enter Q_,Wf
 go_wp2;generalize (w.alloc (.cells #[.bool true,a,s] 337 (0,0))).alloc (.cells #[.int .i64 0,.int .i64 0] 38 (0,0))=P at*;obtain⟨bQ,j⟩:∃bQ,bQ=w.heap.size+1:=⟨_,rfl⟩;obtain⟨c,o⟩:∃c,c=w.heap.size:=⟨_,rfl⟩;rw[←j,←o]at C;rw[←j,←o];clear o j;go_loopw [4,5,6] (fun _ _ _ wr=>∃(m k:Nat) (t:ByteArray),qW w wr c bQ true m k t/\k<=s) (fun _ _ _ wr=>match wr.cell? ⟨c,2,none⟩with|some (.int _ k)=>k.toNat|_=>0);case atStart=>exact⟨n,s,a,C.out,aZ _⟩
 case round=>
  obtain⟨m,k,t,d,U⟩:=hrel;have l:=G d;have c1:=d.x.c1;have c2:=d.x.c2;have q:Hid (∀f w,dA f 10->χ 299 #[t,f] w fun e w'=>MU m 10 e):=fun f w I=>A4 t f m 10 w d.t I (by have:=d.n;omega) z z;have V:=d.n;clear d;by_cases O:0<k
  ·have K:0<(k:Int):=z;obtain⟨fg,nc⟩:∃fg,fg+1=k:=⟨k-1,z⟩;have S:(k:Int)-1=(fg:Int):=z
   go_wp2
   go_region_held3 (fun W=>W.cell? ⟨c,1,none⟩=some (.string t)) (first|exact c1|exact aj|exact L|go_keep) (first|(have _:=B;go_at_call 299;(with_reducible refine(q.out f _ B).mono ?_);rintro e R ⟨⟨ej,er,rfl,vD,jK⟩,E⟩;have cE:=G (u.out.K E);have L:=cE.out.x.c1)|(go_at_call 108;(with_reducible refine(r.out _).mono ?_);rintro e Q ⟨⟨f,rfl,B⟩,j⟩;have u:=G (l.out.drew.K j);have aj:=u.out.x.c1));by_cases aA:m%10=0;exact aoj;have ng:=KG jK z;have ii:0<(er.size:Int):=z;have x':Hid (k=0∨m%10≠0):=.inr aA;obtain⟨fX,cn⟩:=jV cE.out.r;obtain⟨z0,cy⟩:=mD cE.out.r;have M:=cE.out.x.bo;have H:=cE.out.x.c1;have F:=cE.out.x.c2;have gL:(k:Int)<=6:=(by have:=cE.out.k;omega);have N:(m:Int)<=1000000000000000:=(by have:=cE.out.n;omega);have D:c≠bQ:=(by have:=cE.out.g;omega);have J:bQ≠c:=(by have:=cE.out.g;omega);clear r q l u;exact aoE
  have K:¬0<(k:Int):=z;have x':Hid (k=0∨m%10≠0):=.inl z;have cE:=l;obtain⟨fX,cn⟩:=jV cE.out.r;obtain⟨z0,cy⟩:=mD cE.out.r;have M:=cE.out.x.bo;have H:=cE.out.x.c1;have F:=cE.out.x.c2;have gL:(k:Int)<=6:=(by have:=cE.out.k;omega);have N:(m:Int)<=1000000000000000:=(by have:=cE.out.n;omega);have D:c≠bQ:=(by have:=cE.out.g;omega);have J:bQ≠c:=(by have:=cE.out.g;omega);clear r q l;exact aoE
theorem ZB(a:ByteArray)(n s:Nat)(w:World)(aH:dA a n)(A:n<=1000000000000000)(y:s<=3):χ 395 #[.agg #[.bool false,a,s]] w fun e w'=>MS e:=by
 have r:Hid (∀w,χ 108 #[.int .i64 10] w fun e w'=>hJ 10 e):=fun w=>p0 10 w z;have T:=lm w (.cells #[.bool false,a,s] 337 (0,0)) (.cells #[.int .i64 0,.int .i64 0] 38 (0,0));have C:Hid (qW w ((w.alloc (.cells #[.bool false,a,s] 337 (0,0))).alloc (.cells #[.int .i64 0,.int .i64 0] 38 (0,0))) w (w.heap.size+1) false n s a):=⟨⟨T.p⟩,T.q,aH,A,y,T.h,z,z,z⟩;clear T aH A y;go_enter Q_,Wf
 go_wp2;generalize (w.alloc (.cells #[.bool false,a,s] 337 (0,0))).alloc (.cells #[.int .i64 0,.int .i64 0] 38 (0,0))=P at*;obtain⟨bQ,j⟩:∃bQ,bQ=w.heap.size+1:=⟨_,rfl⟩;obtain⟨c,o⟩:∃c,c=w.heap.size:=⟨_,rfl⟩;rw[←j,←o]at C;rw[←j,←o];clear o j;go_loopw [4,5,6] (fun _ _ _ wr=>∃(m k:Nat) (t:ByteArray),qW w wr c bQ false m k t/\k<=s) (fun _ _ _ wr=>match wr.cell? ⟨c,2,none⟩with|some (.int _ k)=>k.toNat|_=>0);case atStart=>exact⟨n,s,a,C.out,aZ _⟩
 case round=>
  obtain⟨m,k,t,d,U⟩:=hrel;have l:=G d;have c1:=d.x.c1;have c2:=d.x.c2;have q:Hid (∀f w,dA f 10->χ 299 #[t,f] w fun e w'=>MU m 10 e):=fun f w I=>A4 t f m 10 w d.t I (by have:=d.n;omega) z z;have V:=d.n;clear d;by_cases O:0<k
  ·have K:0<(k:Int):=z;obtain⟨fg,nc⟩:∃fg,fg+1=k:=⟨k-1,z⟩;have S:(k:Int)-1=(fg:Int):=z
   go_wp2
   go_region_held3 (fun W=>W.cell? ⟨c,1,none⟩=some (.string t)) (first|exact c1|exact aj|exact L|go_keep) (first|(have _:=B;go_at_call 299;(with_reducible refine(q.out f _ B).mono ?_);rintro e R ⟨⟨ej,er,rfl,vD,jK⟩,E⟩;have cE:=G (u.out.K E);have L:=cE.out.x.c1)|(go_at_call 108;(with_reducible refine(r.out _).mono ?_);rintro e Q ⟨⟨f,rfl,B⟩,j⟩;have u:=G (l.out.drew.K j);have aj:=u.out.x.c1));by_cases aA:m%10=0;exact aoj;have ng:=KG jK z;have ii:0<(er.size:Int):=z;have x':Hid (k=0∨m%10≠0):=.inr aA;obtain⟨fX,cn⟩:=jV cE.out.r;obtain⟨z0,cy⟩:=mD cE.out.r;have M:=cE.out.x.bo;have H:=cE.out.x.c1;have F:=cE.out.x.c2;have gL:(k:Int)<=6:=(by have:=cE.out.k;omega);have N:(m:Int)<=1000000000000000:=(by have:=cE.out.n;omega);have D:c≠bQ:=(by have:=cE.out.g;omega);have J:bQ≠c:=(by have:=cE.out.g;omega);clear r q l u;exact aoH
  have K:¬0<(k:Int):=z;have x':Hid (k=0∨m%10≠0):=.inl z;have cE:=l;obtain⟨fX,cn⟩:=jV cE.out.r;obtain⟨z0,cy⟩:=mD cE.out.r;have M:=cE.out.x.bo;have H:=cE.out.x.c1;have F:=cE.out.x.c2;have gL:(k:Int)<=6:=(by have:=cE.out.k;omega);have N:(m:Int)<=1000000000000000:=(by have:=cE.out.n;omega);have D:c≠bQ:=(by have:=cE.out.g;omega);have J:bQ≠c:=(by have:=cE.out.g;omega);clear r q l;exact aoH
theorem atL(neg:Bool)(a:ByteArray)(n s:Nat)(w:World)(aH:dA a n)(c:n<=1000000000000000)(b:s<=3):χ 395 #[.agg #[.bool neg,a,s]] w fun e w'=>MS e:=by
 cases neg;exact ZB a n s w aH c b;exact ZC a n s w aH c b
theorem aD9(N:Int)(s:Nat)(w:World)(ae: -1000000000000000<=N)(H:N<=1000000000000000)(g:s<=3):χ 293 #[N,s] w fun e w'=>MS e:=by
 have l:=G fun w=>apf N w z z;have k:Hid (∀t w,dA t N.natAbs->χ 395 #[.agg #[.bool (decide (N<0)),t,s]] w fun e w'=>MS e):=fun t w ai=>atL _ t N.natAbs s w ai z g;have B:¬(s:Int)<0:=z;have C:(s:Int)<=18:=z;go_enter func293,ntmps293
 go_wp2_with (first|(have _:=c;go_at_call 395;(with_reducible refine(k.out r _ c).mono ?_);rintro e j ⟨⟨n,x,rfl,u,m⟩,b⟩;have y:=G (cj o.out b);have f:j.heap[w.heap.size]? =some (.cells #[.int .i64 0,.int .i64 0] 38 (0,0)):=((b.block _ (g6.1 d).1).trans d);obtain⟨fX,q⟩:=jV f;obtain⟨z0,A⟩:=mD f)|(go_at_call 408;(with_reducible refine(l.out _).mono ?_);rintro e i ⟨⟨r,rfl,c⟩,a⟩;have o:=G ((e4 w (.cells #[.int .i64 0,.int .i64 0] 38 (0,0))).trans (a.mono ao));have d:i.heap[w.heap.size]? =some (.cells #[.int .i64 0,.int .i64 0] 38 (0,0)):=((a.block _ ao).trans (cW w _))))
 refine jT (by simp[results,results293,go_sem,fX,q];rfl) rfl ?_;exact⟨⟨n,x,rfl,u,m⟩,(y.out.setCell (p:=⟨w,0,none⟩) (aZ _) _).setCell (p:=⟨w,1,none⟩) (aZ _) _⟩
end Go.aJ
namespace Go.aJ
open Go Go.Proofs.Tryz Go.cv Go.Proofs
noncomputable def eF:{t:kP//t.Dl prog}:=⟨.e,g'⟩
noncomputable def bj{k:FuncId}{f:Func}(h:prog.funcs[k]? =some f)(a:{t:kP//t.Dl prog}:=eF)(b:{t:kP//t.Dl prog}:=eF)(s:VE prog f=true:=by kernel_rfl):{t:kP//t.Dl prog}:=⟨.n k f a.1 b.1,⟨h,s⟩,a.2,b.2⟩
noncomputable def afP:=(bj func175 (bj func81 (bj func52 (bj func30 (bj func14 (bj func11 (bj func9 (bj func4) (bj func10)) (bj func13 (bj func12))) (bj func26 (bj func24 (bj func18) (bj func25)) (bj func29 (bj func28)))) (bj func37 (bj func34 (bj func32 (bj func31) (bj func33)) (bj func36 (bj func35))) (bj V' (bj func39 (bj func38)) (bj func50 (bj func44))))) (bj func66 (bj func60 (bj func57 (bj func55 (bj Iq) (bj func56)) (bj func59 (bj func58))) (bj func63 (bj func62 (bj func61)) (bj func65 (bj func64)))) (bj func73 (bj func70 (bj func68 (bj func67) (bj func69)) (bj func72 (bj func71))) (bj func78 (bj func77 (bj func75)) (bj func80 (bj func79)))))) (bj func141 (bj func103 (bj func97 (bj func93 (bj func84 (bj func82) (bj func92)) (bj func96 (bj func94))) (bj func100 (bj func99 (bj func98)) (bj func102 (bj func101)))) (bj func134 (bj func131 (bj Q7 (bj func107) (bj V7)) (bj func133 (bj V8))) (bj func137 (bj func136 (bj func135)) (bj func139 (bj func138))))) (bj func157 (bj func149 (bj func146 (bj func143 (bj func142) (bj func145)) (bj func148 (bj func147))) (bj func152 (bj func151 (bj func150)) (bj func154 (bj func153)))) (bj func165 (bj func161 (bj func159 (bj func158) (bj func160)) (bj func164 (bj func163))) (bj func171 (bj func170 (bj func166)) (bj func173 (bj func172))))))) (bj func273 (bj func234 (bj V9 (bj func183 (bj func179 (bj func177 (bj func176) (bj func178)) (bj func181 (bj func180))) (bj func187 (bj func185 (bj func184) (bj func186)) (bj func189 (bj func188)))) (bj func220 (bj func215 (bj V_ (bj func191) (bj Q8)) (bj func219 (bj func216))) (bj func229 (bj func223 (bj func222)) (bj func233 (bj func231))))) (bj func254 (bj func247 (bj func243 (bj func236 (bj func235) (bj func238)) (bj func245 (bj func244))) (bj func250 (bj func249 (bj func248)) (bj func253 (bj func251)))) (bj func261 (bj func258 (bj func256 (bj func255) (bj func257)) (bj func260 (bj func259))) (bj Q9 (bj func269 (bj func263)) (bj func272 (bj func271)))))) (bj func377 (bj func297 (bj func282 (bj func278 (bj func276 (bj func274) (bj func277)) (bj func281 (bj func280))) (bj func294 (bj func285 (bj func283)) (bj func296 (bj func295)))) (bj func318 (bj func307 (bj func299 (bj func298) (bj func300)) (bj func317 (bj func308))) (bj func366 (bj func362 (bj func361)) (bj func376 (bj func368))))) (bj func404 (bj Q_ (bj func383 (bj func381 (bj func379) (bj func382)) (bj func394 (bj func393))) (bj func400 (bj func399 (bj func398)) (bj func403 (bj func402)))) (bj func461 (bj func421 (bj func408 (bj func405) (bj func419)) (bj func458 (bj func456))) (bj func464 (bj func463 (bj func462)) (bj func511 (bj func509))))))))
noncomputable def jO:kP:=afP.1
theorem td:jO.Dl prog:=afP.2
def aca(F:List O->Option O):List O->aw->Option (O×aw):=fun a b=>match F a with|some v=>some (v,b)|none=>none
def j8:C7:=fun f=>bif Nat.beq f 237 then some (aca adC)else bif Nat.beq f 450 then some (aca abO)else bif Nat.beq f 365 then some (aca Y0)else bif Nat.beq f 268 then some (acQ 5)else none
theorem follows:prog.follows .mixedOrders=true:=av
theorem ayp:qe prog 237 Extern.AbiNoEscape.same:=qe.hP func237 av av av av
theorem ayo:qe prog 450 Extern.BytealgIndexByte.indexByte:=qe.hP func450 av av av av
theorem ayl:qe prog 365 Extern.BytealgCount.count:=qe.hP func365 av av av av
theorem ayq:qe prog 268 (Extern.BytealgMakeNoZero.makeNoZero #[3] #[126]):=qe.hP func268 av av av av
theorem tO{ρ:cd}(f:FuncId)(F:List O->aw->Option (O×aw))(h:j8 f=some F):nw prog ρ f F:=by
 unfold j8 at h;simp only[zY]at h;split at h;rename_i e;subst e;cases h;exact aFg ayp
 split at h;rename_i e;subst e;cases h;exact aCH ayo
 split at h;rename_i e;subst e;cases h;exact axL ayl
 split at h;rename_i e;subst e;cases h;exact aFi ayq se;cases h
end Go.aJ
namespace Go.aJ
open Go Go.Proofs.Tryz Go.cv Go.Proofs Go.RowKit
def sc(g:Nat):b6:=fun b=>if b<13 then some ⟨b,0,0⟩else if b=13 then some ⟨g,0,3⟩else none
def DX(vs:List O):aw:=(⟨.e,14⟩:aw).c' 13 (some (.cells 230 vs true true))
theorem ZZ:prog.globals.size=13:=av
theorem ZX(g:Nat):kA prog (sc g):=fun k a=>⟨0,by rw[ZZ]at a;simp[sc,a]⟩
variable{b:Nat}
theorem OO{vs:List O}{x:eC}(h:(DX vs).cR b=some x):b=13/\x=.cells 230 vs true true:=by
 unfold DX at h;exact anU
variable{w:World}
theorem ami{ρ:cd}{g:Nat}{vs:List O}{a b c:Value}(k:w.heap[g]? =some (.cells #[a,b,c] 230 (0,0)))(d:vs.length=3)(e:bY ρ (sc g) vs=some [a,b,c]):cZ ρ (sc g) (DX vs) w:=by
 refine⟨fun j x A=>?_,fun b j x n p m A l _ _ f=>?_,fun b A=>?_⟩;obtain⟨rfl,rfl⟩:=OO A;refine⟨⟨g,0,3⟩,rfl,_,_,k,rfl,by rw[d];exact aZ 3,fun _=>⟨d,rfl⟩,⟨_,e,fun i hi=>ao⟩,fun _ i _ hi=>ao⟩;exact absurd ((OO A).1.trans (OO l).1.symm) f;have A:14<=b:=A;unfold sc;rw[bs z,bs z]
def Ll(s:List Nat):List O:=[.str s,.int .i64 (.ofNat 0),.dH]
def aqJ(s:List Nat)(k:Nat)(r:Option (O×aw)):Bool:=match r with
 |some (.tup [],a)=>(match a.cR 13 with|some (.cells t [.str b,.int .i64 (.ofNat n),.slice m 0 1 4 none] true true)=>Nat.beq t 230&&s==b&&Nat.beq n k&& !(Nat.beq m 13)&&(match a.cR m with|some (.cells c vs _ true)=>Nat.beq c 298&&O.pI vs [.int .i64 (.ofNat 3),.int .i64 (.ofNat 1),.int .i64 (.ofNat 200),.str []]|_=>Nat.beq k 1)|_=>false)
 |_=>false
def aqK(s:List Nat)(k:Nat)(r:Option (O×aw)):Bool:=match r with
 |some (.tup [],a)=>(match a.cR 13 with|some (.cells t [.str b,.int .i64 (.ofNat n),.slice m _ _ _ _] true true)=>Nat.beq t 230&&s==b&&Nat.beq n k&& !(Nat.beq m 13)|_=>false)
 |_=>false
theorem aE7:aqJ [92,108,43] 3 ((iF prog j8 jO.find 100).call 163 [.iZ 13 0] (DX (Ll [92,108,43])))=true:=av
theorem aE8:aqK [120,43] 1 ((iF prog j8 jO.find 100).call 163 [.iZ 13 0] (DX (Ll [120,43])))=true:=av
theorem adr:∃ρ:cd,ρ.pY=ni prog:=⟨⟨fun _=>undef,ni prog,fun _=>(0,0),fun _=>#[]⟩,rfl⟩
structure fb (g:Nat) (w w':World):Prop where
 os:w'.os=w.os
 tape:w'.tape=w.tape
 output:w'.output=w.output
 size:w.heap.size<=w'.heap.size
 block:∀k,k<w.heap.size->k≠g->w'.heap[k]? =w.heap[k]?
variable{w':World}
theorem akb{g:Nat}{vs:List O}{j:b6}{h:aw}(a:jF (sc g) (DX vs) w j h w'):fb g w w':=
 ⟨a.os,a.tape,a.output,a.size,fun k d f=>a.kept k d fun⟨b,x,p,e,c,i⟩=>f (by
  obtain⟨rfl,_⟩:=OO e
  have:sc g 13=some ⟨g,0,3⟩:=rfl
  rw[this]at c
  cases c
  exact i.symm)⟩
theorem tc(s:List Nat)(h:s.all (fun n=>n<256)=true)(ρ:cd)(σ:b6):aN ρ σ (.str s)=some (.string (eU s)):=by simp only[aN];rw[co h]
theorem aE9(g:Nat)(w:World)(z:w.heap[g]? =some (.cells #[.string (eU [120,43]),.int .i64 0,.slice none 0 0] 230 (0,0))): Calls prog 163 #[.pointer (some ⟨g,0,none⟩)] w fun e w'=>e=.returned (.tuple #[])/\fb g w w'/\∃v bb,xy v=true/\w'.heap[g]? =some (.cells #[.string (eU [120,43]),.int .i64 1,v] 230 bb):=by
 obtain⟨ρ,A⟩:=adr;have a:=aE8;unfold aqK at a;split at a
 ·rename_i G r;have u:cZ ρ (sc g) (DX (Ll [120,43])) w:=ami z rfl (by simp only[Ll,bY];rw[tc [120,43] ak];rfl);refine(NZ (ρ:=ρ) follows A (kP.q4 td) tO (f:=163) av (ZX g) (args:=[.iZ 13 0]) (cs:=[.pointer (some ⟨g,0,none⟩)]) (by simp[bY,aN,sc]) u r).mono ?_;rintro e w' ⟨c,rfl,x,j,D,k⟩;simp only[aN,bY,n6,cq]at j;subst j;refine⟨rfl,akb k,?_⟩;split at a
  ·rename_i t L n m _ _ _ _ an;simp only[dQ]at a;obtain⟨⟨⟨H,I⟩,b⟩,E⟩:=a;have H:=gx H;have b:=gx b;have I:=eq_of_beq I;subst H I b;obtain⟨p,ag,arr,bb,s,y,J,M,⟨cs,B,C⟩,N⟩:=D.aY 13 _ an;have:x 13=some ⟨g,0,3⟩:=k.ext 13 _ rfl;obtain rfl:p=⟨g,0,3⟩:=gQ (ag.symm.trans this);obtain⟨bo,K,d,o,rfl⟩:=qo B;obtain⟨c1,bZ,b4,q,rfl⟩:=qo o;obtain⟨c2,dF,rfl⟩:=iT q;rw[tc _ ak]at d;simp only[aN,cq]at d b4;subst d b4;have l:xy c2=true:=by simp only[aN,iz]at dF;obtain⟨_,_,rfl⟩:=dF;rfl
   refine⟨c2,bb,l,?_⟩;rw[s];congr 2;apply xT;apply Rl;intro i;have F:arr.size=3:=y;by_cases hi:i<3;have:=C i hi;simp only[gP]at this;rw[xU,this];rfl;rw[uI bz,uI bz]
  cases a
 cases a
theorem aKl{arr:Array Value}{bo c1 c2:Value}(h:arr.size=3)(q:∀i,i<3->arr[i]? =[bo,c1,c2][i]?):arr=#[bo,c1,c2]:=by
 apply xT;apply Rl;intro i;by_cases hi:i<3;have:=q i hi;rw[xU,this];rw[uI bz,uI bz]
structure WZ (w:World) (b del tot:Nat):Prop where
 sF:∃arr bb,w.heap[b]? =some (.cells arr 298 bb)/\arr.size=del+tot/\(∀i,i<4->arr[del+i]? =[Value.int .i64 3,.int .i64 1,.int .i64 200,.string ⟨#[]⟩][i]?)/\(∀i,del<=i->i<arr.size->¬(bb.1<=i/\i<bb.2))
 tot:4<=tot
theorem aE6(g:Nat)(w:World)(TP:g<w.heap.size)(S:w.heap[g]? =some (.cells #[.string (eU [92,108,43]),.int .i64 0,.slice none 0 0] 230 (0,0))): Calls prog 163 #[.pointer (some ⟨g,0,none⟩)] w fun e w'=>e=.returned (.tuple #[])/\fb g w w'/\∃b del tot bb,w'.heap[g]? =some (.cells #[.string (eU [92,108,43]),.int .i64 3,.slice (some ⟨b,del,none⟩) 1 (tot/4)] 230 bb)/\w.heap.size<=b/\WZ w' b del tot:=by
 obtain⟨ρ,V⟩:=adr;have d:=aE7;unfold aqJ at d;split at d
 ·rename_i bc L;have N:cZ ρ (sc g) (DX (Ll [92,108,43])) w:=ami S rfl (by simp only[Ll,bY];rw[tc [92,108,43] ak];rfl);refine(NZ (ρ:=ρ) follows V (kP.q4 td) tO (f:=163) av (ZX g) (args:=[.iZ 13 0]) (cs:=[.pointer (some ⟨g,0,none⟩)]) (by simp[bY,aN,sc]) N L).mono ?_;rintro e w' ⟨c,rfl,C,z,y,r⟩;simp only[aN,bY,n6,cq]at z;subst z;refine⟨rfl,akb r,?_⟩;split at d
  ·rename_i t gw n m an;simp only[dQ]at d;obtain⟨⟨⟨⟨H,I⟩,q⟩,l⟩,j⟩:=d;have H:=gx H;have q:=gx q;have I:=eq_of_beq I;have l:m≠13:=fun e=>by subst e;simp at l
   subst H I q;obtain⟨p,ag,arr,bb,b8,cr,ej,i9,⟨cs,W,ll⟩,yZ⟩:=y.aY 13 _ an;have A:C 13=some ⟨g,0,3⟩:=r.ext 13 _ rfl;obtain rfl:p=⟨g,0,3⟩:=gQ (ag.symm.trans A);obtain⟨bo,gZ,s,D,rfl⟩:=qo W;obtain⟨c1,bZ,b4,E,rfl⟩:=qo D;obtain⟨c2,dF,rfl⟩:=iT E;rw[tc _ ak]at s;simp only[aN,cq,iz]at s b4 dF;obtain⟨e5,J,dF⟩:=dF;subst s b4 dF;split at j
   ·rename_i i' vs Z o;simp only[dQ]at j;obtain⟨aj,k⟩:=j;have aj:=gx aj;have k:=O.tE k;subst aj k;obtain⟨a,u,M,mD,R,T,U,j0,⟨jV,X,Y⟩,G⟩:=y.aY m _ o;obtain rfl:a=e5:=gQ (u.symm.trans J);have F:jV=[Value.int .i64 3,.int .i64 1,.int .i64 200,.string ⟨#[]⟩]:=by have:bY ρ C [.int .i64 (.ofNat 3),.int .i64 (.ofNat 1),.int .i64 (.ofNat 200),.str []]=some [Value.int .i64 3,.int .i64 1,.int .i64 200,.string ⟨#[]⟩]:=rfl;exact gQ (X.symm.trans this)
    subst F;have P:a.aY≠g:=y.inj m 13 _ _ a ⟨g,0,3⟩ o an u A l;refine⟨a.aY,a.del,a.tot,bb,?_,?_,⟨M,mD,R,T,fun i hi=>Y i hi,G rfl⟩,U⟩
    ·exact aot
    ·rcases r.p2 a.aY ⟨m,_,a,o,u,rfl⟩with h|⟨b,x,p,K,B,Q⟩
     ·exact h
     ·obtain⟨rfl,_⟩:=OO K;have:sc g 13=some ⟨g,0,3⟩:=rfl;rw[this]at B;cases B;exact absurd Q.symm P
   ·cases j
  ·cases d
 ·cases d
def TL:aw:=(⟨.e,14⟩:aw).c' 13 (some (.cells 230 [.str [120,43],.int .i64 (.ofNat 1),.sym 0] true false))
theorem TM{b:Nat}{x:eC}(h:TL.cR b=some x):b=13/\x=.cells 230 [.str [120,43],.int .i64 (.ofNat 1),.sym 0] true false:=by
 unfold TL at h;exact anU
theorem aB3{ρ:cd}{g:Nat}{w:World}{v:Value}{bb:Nat×Nat}(J:ρ.val 0=v)(H:xy v=true)(d:w.heap[g]? =some (.cells #[.string (eU [120,43]),.int .i64 1,v] 230 bb)):cZ ρ (sc g) TL w:=by
 refine⟨fun c x A=>?_,fun b c x j p f A e _ _ a=>?_,fun b A=>?_⟩
 ·obtain⟨rfl,rfl⟩:=TM A;refine⟨⟨g,0,3⟩,rfl,_,_,d,rfl,aZ 3,fun _=>⟨rfl,rfl⟩,⟨[.string (eU [120,43]),.int .i64 1,v],?_,fun i hi=>ao⟩,fun h=>by cases h⟩;simp only[bY];rw[tc [120,43] ak];simp only[aN,J,H,ox];rfl
 ·exact absurd ((TM A).1.trans (TM e).1.symm) a
 ·have A:14<=b:=A;unfold sc;rw[bs z,bs z]
def am1(n:Nat)(r:Option (O×aw)):Bool:=match r with|some (.int .u8 (.ofNat m),h)=>Nat.beq m n&&rY h [(13,.cells 230 [.str [120,43],.int .i64 (.ofNat 1),.sym 0] true false)]|_=>false
theorem aGI:am1 43 ((iF prog j8 jO.find 100).call 249 [.iZ 13 0] TL)=true:=av
def amZ(r:Option (O×aw)):Bool:=match r with|some (.bool true,_)=>true|_=>false
theorem aJc:amZ ((iF prog j8 jO.find 100).call 250 [.int .u8 (.ofNat 43)] ⟨.e,13⟩)=true:=av
def Qw:b6:=fun b=>if b<13 then some ⟨b,0,0⟩else none
theorem azB:kA prog Qw:=fun k a=>⟨0,by rw[ZZ]at a;simp[Qw,a]⟩
theorem aB2(ρ:cd)(w:World):cZ ρ Qw ⟨.e,13⟩ w:=by
 refine⟨fun b x A=>by simp[aw.cR,T.cR]at A,fun b c x d p a A=>by simp[aw.cR,T.cR]at A,fun b A=>?_⟩;have A:13<=b:=A;unfold Qw;rw[bs z]
theorem azA{f:b6}{e:aw}(a:jF Qw ⟨.e,13⟩ w f e w'):β w w':=
 ⟨a.os,a.tape,a.output,a.size,fun k c=>a.kept k c fun⟨b,x,p,d,_⟩=>by simp[aw.cR,T.cR]at d⟩
theorem aJb(w:World):χ 250 #[.int .u8 43] w fun e w'=>e=.returned (.bool true):=by
 obtain⟨ρ,i⟩:=adr;have a:=aJc;unfold amZ at a;split at a;rename_i j d;refine(NZ (ρ:=ρ) follows i (kP.q4 td) tO (f:=250) av azB (args:=[.int .u8 (.ofNat 43)]) (cs:=[.int .u8 43]) rfl (aB2 ρ w) d).mono ?_;rintro e w' ⟨c,rfl,k,b,l,g⟩;simp only[aN,cq]at b;subst b;exact⟨rfl,azA g⟩;cases a
theorem ap'(g:Nat)(w:World)(v:Value)(bb:Nat×Nat)(H:xy v=true)(E:w.heap[g]? =some (.cells #[.string (eU [120,43]),.int .i64 1,v] 230 bb)): Calls prog 249 #[.pointer (some ⟨g,0,none⟩)] w fun e w'=>e=.returned (.int .u8 43)/\fb g w w'/\∃j,w'.heap[g]? =some (.cells #[.string (eU [120,43]),.int .i64 1,v] 230 j):=by
 obtain⟨ρ,F,n⟩:∃ρ:cd,ρ.pY=ni prog/\ρ.val 0=v:=⟨⟨fun _=>v,ni prog,fun _=>(0,0),fun _=>#[]⟩,rfl,rfl⟩;have d:=aGI;unfold am1 at d;split at d
 ·rename_i m K z;simp only[dQ]at d;have A:=gx d.1;subst A;have J:=OD d.2 (b:=13) (o0.2 rfl);refine(NZ (ρ:=ρ) follows F (kP.q4 td) tO (f:=249) av (ZX g) (args:=[.iZ 13 0]) (cs:=[.pointer (some ⟨g,0,none⟩)]) (by simp[bY,aN,sc]) (aB3 n H E) z).mono ?_;rintro e w' ⟨c,rfl,D,o,I,a⟩;simp only[aN,cq]at o;subst o;refine⟨rfl,⟨a.os,a.tape,a.output,a.size,fun k r B=>a.kept k r fun⟨b,x,p,y,q,C⟩=>B ?_⟩,?_⟩
  ·obtain⟨rfl,_⟩:=TM y;have:sc g 13=some ⟨g,0,3⟩:=rfl;rw[this]at q;cases q;exact C.symm
  ·obtain⟨p,ag,arr,j,b8,cr,L,N,⟨cs,G,ll⟩,O⟩:=I.aY 13 _ J;have u:D 13=some ⟨g,0,3⟩:=a.ext 13 _ rfl;obtain rfl:p=⟨g,0,3⟩:=gQ (ag.symm.trans u);obtain⟨bo,M,l,s,rfl⟩:=qo G;obtain⟨c1,bZ,b4,t,rfl⟩:=qo s;obtain⟨c2,dF,rfl⟩:=iT t;rw[tc _ ak]at l;simp only[aN,n,H,ox,cq]at l b4 dF;subst l b4 dF;refine⟨j,?_⟩;exact aot
 ·cases d
theorem ay3(g:Nat)(w:World)(v:Value)(bb:Nat×Nat)(a:w.heap[g]? =some (.cells #[.string (eU [120,43]),.int .i64 1,v] 230 bb)): Calls prog 252 #[.pointer (some ⟨g,0,none⟩)] w fun e w'=>e=.panicked [{v:=.iface 226 (.agg #[.int .i64 1,.int .i64 12]),recovered:=false}]/\w'=w:=by
 have c1:w.cell? ⟨g,1,none⟩=some (.int .i64 1):=by simp[World.cell?,a]
 go_enter func252,ntmps252
 go_wp2;exact⟨rfl,rfl,rfl⟩
variable{a:World}
theorem fb.trans{g:Nat}{b c:World}(h:fb g a b)(k:fb g b c):fb g a c:=
 ⟨k.os.trans h.os,k.tape.trans h.tape,k.output.trans h.output,cO h.size k.size,fun r d e=>(k.block r (iK d h.size) e).trans (h.block r d e)⟩
theorem fb.K{g:Nat}{b:World}(h:β a b):fb g a b:=⟨h.os,h.tape,h.output,h.size,fun r c _=>h.block r c⟩
theorem aE_(g:Nat)(w:World)(v:Value)(bb:Nat×Nat)(H:xy v=true)(d:g<w.heap.size)(h:w.heap[g]? =some (.cells #[.string (eU [120,43]),.int .i64 1,v] 230 bb)): Calls prog 163 #[.pointer (some ⟨g,0,none⟩)] w fun e w'=>e=.panicked [{v:=.iface 226 (.agg #[.int .i64 1,.int .i64 12]),recovered:=false}]/\fb g w w':=by
 go_enter func163,ntmps163
 go_wp2_with (first|(have _:=a;go_at_call 250;refine(aJb _).mono ?_;rintro e n ⟨rfl,b⟩;have k:=(b.block g (iK d (cO bP.size a.size))).trans f;have i:=G ((bP.trans a).trans (fb.K (g:=g) b)))|(have _:=bP;go_at_call 249;refine(ap' g _ v c H j).mono ?_;rintro e m ⟨rfl,a,mD,f⟩)|(go_at_call 249;refine(ap' g _ v bb H h).mono ?_;rintro e l ⟨rfl,bP,c,j⟩))
 refine(ay3 g _ v mD k).mono ?_;rintro e o ⟨rfl,rfl⟩
 go_wp2;exact⟨rfl,rfl,i.out⟩
end Go.aJ
namespace Go.aJ
open Go Go.Proofs.Tryz Go.Proofs Go.RowKit Go.Lib
theorem pZ(w:World)(b:Nat)(a:Option Addr)(len:Nat)(n:Int)(g:0<n)(A:n<=2000000000000001)(f:len<=maxLen)(h:el w b a len):Calls prog 15 #[.pointer (some ⟨b,0,none⟩),n] w fun e w'=>tA n e/\el w' b a len/\fb b w w':=
 (qG w b a len n g A f h).mono fun e w' ⟨H,I,m,d,i,l,j⟩=>⟨H,I,⟨i,l,j,z,fun k _ c=>d k c⟩⟩
theorem fb.refl(g:Nat)(w:World):fb g w w:=⟨rfl,rfl,rfl,aZ _,fun _ _ _=>rfl⟩
variable{w w':World}
theorem fb.alloc{g:Nat}(h:fb g w w')(o:Obj):fb g w (w'.alloc o):=h.trans (fb.K ((br _ _).alloc (aZ _) o))
variable{b:Nat}{cs:Array Value}
theorem fb.cells{g:Nat}(h:fb g w w')(a:b≠g){t:TypeId}(A:w.heap[b]? =some (.cells cs t (0,0))):w'.heap[b]? =some (.cells cs t (0,0)):=(h.block b (g6.1 A).1 a).trans A
theorem fb.p4{g:Nat}(h:fb g w w')(A:w.heap.size<=b)(i:Nat)(u:Value):fb g w (w'.setCell ⟨b,i,none⟩ u):=by
 have a:=(br 0 w').setCell (p:=⟨b,i,none⟩) (dx _) u;exact⟨a.os.trans h.os,a.tape.trans h.tape,a.output.trans h.output,cO h.size ao,fun k c d=>by rw[g_ _ _ _ _ (by show k≠b;omega)];exact h.block k c d⟩
def ahv(e:Ending):Prop:=∃(N:Int) (S:Nat),e=.returned (.agg #[.int .i64 N,.int .i64 S])/\hn N S/\S<=3
variable{r n:Nat}{a:Option Addr}
theorem el.p4(h:el w b a n)(p:el w' b a n)(B:w.heap.size<=r)(i:Nat)(u:Value):el (w'.setCell ⟨r,i,none⟩ u) b a n:=by
 obtain⟨c,D,H,I,o⟩:=h;obtain⟨q,s,k,d,C⟩:=p;have A:=(g6.1 H).1;refine⟨q,s,by rw[g_ _ _ _ _ (by show b≠r;omega)];exact k,?_,o⟩;rcases I with I|⟨f,eh,rfl,I⟩
 exact .inl I;rcases d with d|⟨t,z,e,d⟩;exact .inl d;cases e;refine .inr ⟨f,eh,rfl,fun j g=>?_⟩;obtain⟨x,l⟩:=I j g;obtain⟨y,m⟩:=d j g;have au:=Wk w _ l;have au:f<w.heap.size:=au;exact⟨y,by rw[←m];exact nt (w:=w') (g_ _ _ _ _ (by show f≠r;omega))⟩
structure sq (w w':World) (b:Nat) (a:Option Addr) (len r:Nat) (cs:Array Value) (ty:TypeId):Prop where
 n:el w' b a len
 s:fb b w w'
 r:w'.heap[r]? =some (.cells cs ty (0,0))
variable{c:World}{ty:TypeId}
theorem sq.A_{e:World}{len:Nat}(h:sq w e b a len r cs ty)(g:el c b a len)(d:fb b e c)(f:r≠b):sq w c b a len r cs ty:=⟨g,h.s.trans d,d.cells f h.r⟩
theorem sq.K{d:World}{len:Nat}(h:sq w c b a len r cs ty)(A:β c d):sq w d b a len r cs ty:=⟨h.n.K A,h.s.trans (fb.K A),(A.block r (g6.1 h.r).1).trans h.r⟩
theorem sq.alloc{len:Nat}(h:sq w c b a len r cs ty)(o:Obj):sq w (c.alloc o) b a len r cs ty:=h.K ((br _ _).alloc (aZ _) o)
theorem sq.ee{len:Nat}(h:el w b a len)(cs:Array Value)(ty:TypeId):sq w (w.alloc (.cells cs ty (0,0))) b a len w cs ty:=⟨h.alloc _,(fb.refl b w).alloc _,cW w _⟩
theorem Y4(w:World)(b:Nat)(a:Option Addr)(len:Nat)(d:len<=maxLen)(h:el w b a len):Calls prog 200 #[.pointer (some ⟨b,0,none⟩)] w fun e w'=>ahv e/\el w' b a len/\fb b w w':=by
 have K:Hid (∀w,el w b a len->Calls prog 15 #[.pointer (some ⟨b,0,none⟩),.int .i64 2001] w fun e w'=>tA 2001 e/\el w' b a len/\fb b w w'):=fun w c=>pZ w b a len 2001 z z d c;have I:Hid (∀w,el w b a len->Calls prog 15 #[.pointer (some ⟨b,0,none⟩),.int .i64 8] w fun e w'=>tA 8 e/\el w' b a len/\fb b w w'):=fun w c=>pZ w b a len 8 z z d c;have P:Hid (∀w,el w b a len->Calls prog 15 #[.pointer (some ⟨b,0,none⟩),.int .i64 2000000000000001] w fun e w'=>tA 2000000000000001 e/\el w' b a len/\fb b w w'):=fun w c=>pZ w b a len 2000000000000001 z z d c;have q:Hid (∀w,el w b a len->Calls prog 15 #[.pointer (some ⟨b,0,none⟩),.int .i64 4] w fun e w'=>tA 4 e/\el w' b a len/\fb b w w'):=fun w c=>pZ w b a len 4 z z d c;have o:=G h;have u:=G (sq.ee h #[.int .i64 0,.int .i64 0] 38);have f:Hid (w.heap.size≠b):=(by have:=h.lt;show w.heap.size≠b;omega);clear h d;go_enter func200,ntmps200
 go_wp2_with (first|(go_at_call 15;(with_reducible refine(K.out _ u.out.n).mono ?_);rintro e W ⟨⟨cn,ii,V,rfl⟩,E,J⟩;have k:=G (u.out.A_ E J f.out);have T:=k)|(go_at_call 15;(with_reducible refine(I.out _ k.out.n).mono ?_);rintro e Y ⟨⟨dw,oO,S,rfl⟩,M,O⟩;have j:=G (k.out.A_ M O f.out))|(go_at_call 15;(with_reducible refine(P.out _ j.out.n).mono ?_);rintro e Z ⟨⟨er,jK,X,rfl⟩,N,Q⟩;have r:=G (j.out.A_ N Q f.out))|(go_at_call 15;(with_reducible refine(q.out _ r.out.n).mono ?_);rintro e L ⟨⟨g,x,B,rfl⟩,l,m⟩;have n:=G (r.out.A_ l m f.out);obtain⟨t,rfl⟩:∃s:Nat,g=(s:Int):=⟨g.toNat,z⟩)|(go_at_call 15;(with_reducible refine(q.out _ j.out.n).mono ?_);rintro e L ⟨⟨g,x,B,rfl⟩,l,m⟩;have n:=G (j.out.A_ l m f.out);obtain⟨t,rfl⟩:∃s:Nat,g=(s:Int):=⟨g.toNat,z⟩)|(go_at_call 293;refine(aD9 _ t _ z z z).mono ?_;rintro e U ⟨⟨C,y,rfl,A,R⟩,H⟩;have i:=G (n.out.K H);obtain⟨fo,F⟩:=jV i.out.r;obtain⟨z0,cy⟩:=mD i.out.r;have D:=(g6.1 i.out.r).1))
 all_goals
  refine jT (by simp[results,results200,go_sem,fo,F,D];rfl) rfl ?_;exact⟨⟨C,y,rfl,A,R⟩,(o.out.p4 (o.out.p4 i.out.n (aZ _) 0 _) (aZ _) 1 _).alloc _,((i.out.s.p4 (aZ _) 0 _).p4 (aZ _) 1 _).alloc _⟩
def axZ(N:Int):Value:=.agg #[.int .i64 3,.string ⟨#[]⟩,.int .i64 0,.int .i64 0,.int .i64 N,.slice none 0 0,.slice none 0 0]
def aFk(N:Int)(S:Nat):Value:=.agg #[.int .i64 2,.string ⟨#[]⟩,.int .i64 N,.int .i64 S,.int .i64 0,.slice none 0 0,.slice none 0 0]
def avi(e:Ending):Prop:=∃N:Int,e=.returned (axZ N)/\0<=N/\N<=3652058
def avu(e:Ending):Prop:=∃(N:Int) (S:Nat),e=.returned (aFk N S)/\hn N S/\S<=3
abbrev aeL:Array Value:=#[.int .i64 0,.string ⟨#[]⟩,.int .i64 0,.int .i64 0,.int .i64 0,.slice none 0 0,.slice none 0 0]
theorem el.CF(h:el w b a n)(c:el w' b a n)(u0 u1 u2 u3 u4 u5 u6:Value):el (((((((w'.setCell ⟨w,0,none⟩ u0).setCell ⟨w,1,none⟩ u1).setCell ⟨w,2,none⟩ u2).setCell ⟨w,3,none⟩ u3).setCell ⟨w,4,none⟩ u4).setCell ⟨w,5,none⟩ u5).setCell ⟨w,6,none⟩ u6) b a n:=
 h.p4 (h.p4 (h.p4 (h.p4 (h.p4 (h.p4 (h.p4 c (aZ _) 0 _) (aZ _) 1 _) (aZ _) 2 _) (aZ _) 3 _) (aZ _) 4 _) (aZ _) 5 _) (aZ _) 6 _
theorem fb.CF{g:Nat}(h:fb g w w')(u0 u1 u2 u3 u4 u5 u6:Value):fb g w (((((((w'.setCell ⟨w,0,none⟩ u0).setCell ⟨w,1,none⟩ u1).setCell ⟨w,2,none⟩ u2).setCell ⟨w,3,none⟩ u3).setCell ⟨w,4,none⟩ u4).setCell ⟨w,5,none⟩ u5).setCell ⟨w,6,none⟩ u6):=
 ((((((h.p4 (aZ _) 0 _).p4 (aZ _) 1 _).p4 (aZ _) 2 _).p4 (aZ _) 3 _).p4 (aZ _) 4 _).p4 (aZ _) 5 _).p4 (aZ _) 6 _
theorem aLr(w:World)(b:Nat)(a:Option Addr)(len:Nat)(f:len<=maxLen)(h:el w b a len):Calls prog 118 #[.pointer (some ⟨b,0,none⟩),.int .i64 3] w fun e w'=>avi e/\el w' b a len/\fb b w w':=by
 have r:Hid (∀w,el w b a len->Calls prog 15 #[.pointer (some ⟨b,0,none⟩),.int .i64 1000] w fun e w'=>tA 1000 e/\el w' b a len/\fb b w w'):=fun w d=>pZ w b a len 1000 z z f d;have o:Hid (∀w,el w b a len->Calls prog 15 #[.pointer (some ⟨b,0,none⟩),.int .i64 8] w fun e w'=>tA 8 e/\el w' b a len/\fb b w w'):=fun w d=>pZ w b a len 8 z z f d;have J:Hid (∀w,el w b a len->Calls prog 15 #[.pointer (some ⟨b,0,none⟩),.int .i64 3652059] w fun e w'=>tA 3652059 e/\el w' b a len/\fb b w w'):=fun w d=>pZ w b a len 3652059 z z f d;have k:=G h;have l:=G (sq.ee h aeL 42);have i:Hid (w.heap.size≠b):=(by have:=h.lt;show w.heap.size≠b;omega);clear h f;go_enter func118,ntmps118
 go_wp2_with (first|(go_at_call 15;(with_reducible refine(r.out _ l.out.n).mono ?_);rintro e S ⟨⟨s,ii,R,rfl⟩,m,q⟩;have j:=G (l.out.A_ m q i.out))|(go_at_call 15;(with_reducible refine(o.out _ j.out.n).mono ?_);rintro e U ⟨⟨dw,oO,Q,rfl⟩,y,E⟩;have c:=G (j.out.A_ y E i.out);obtain⟨fo,n,t,B,L,N,O⟩:=eX c.out.r;obtain⟨z0,X,dz,z3,z4,z5,eO⟩:=he c.out.r)|(go_at_call 15;(with_reducible refine(J.out _ c.out.n).mono ?_);rintro e V ⟨⟨C,M,T,rfl⟩,D,P⟩;have g:=G (c.out.A_ D P i.out);obtain⟨A,u,x,F,H,I,K⟩:=eX g.out.r;obtain⟨Z,dl,Y,W,ja,jS,lK⟩:=he g.out.r))
 ·refine jT (by simp[results,Wi,go_sem,A,u,x,F,H,I,K];rfl) rfl ?_;exact⟨⟨C,rfl,M,z⟩,k.out.CF g.out.n _ _ _ _ _ _ _,g.out.s.CF _ _ _ _ _ _ _⟩
 ·refine jT (by simp[results,Wi,go_sem,fo,n,t,B,L,N,O];rfl) rfl ?_;exact⟨⟨738000+s,rfl,z,z⟩,k.out.CF c.out.n _ _ _ _ _ _ _,c.out.s.CF _ _ _ _ _ _ _⟩
theorem aLt(w:World)(b:Nat)(a:Option Addr)(len:Nat)(d:len<=maxLen)(h:el w b a len):Calls prog 118 #[.pointer (some ⟨b,0,none⟩),.int .i64 2] w fun e w'=>avu e/\el w' b a len/\fb b w w':=by
 have k:Hid (∀w,el w b a len->Calls prog 200 #[.pointer (some ⟨b,0,none⟩)] w fun e w'=>ahv e/\el w' b a len/\fb b w w'):=fun w g=>Y4 w b a len d g;have x:=G h;have f:=G (sq.ee h aeL 42);have j:Hid (w.heap.size≠b):=(by have:=h.lt;show w.heap.size≠b;omega);clear h d;go_enter func118,ntmps118
 go_wp2_with (first|(go_at_call 200;(with_reducible refine(k.out _ f.out.n).mono ?_);rintro e A ⟨⟨i,m,rfl,n,l⟩,r,z⟩;have c:=G (f.out.A_ r z j.out);obtain⟨q,o,p,s,t,u,y⟩:=eX c.out.r;obtain⟨D,E,C,B,H,F,I⟩:=he c.out.r))
 refine jT (by simp[results,Wi,go_sem,q,o,p,s,t,u,y];rfl) rfl ?_;exact⟨⟨i,m,rfl,n,l⟩,x.out.CF c.out.n _ _ _ _ _ _ _,c.out.s.CF _ _ _ _ _ _ _⟩
end Go.aJ
namespace Go.bS
open Go Go.Proofs.Tryz Go.Proofs Go.RowKit Go.Lib Go.aJ
theorem att:(prog.info? 5).map (fun i=>(i.zero,i.size,i.bytes))=some (some (.int .u8 0),1,1):=av
def CN:List ByteArray:=[⟨#[]⟩,⟨#[97]⟩,⟨#[98]⟩,⟨#[97,98]⟩,⟨#[105,116,39,115]⟩,⟨#[50,48,50,52,45,48,49,45,51,49]⟩,⟨#[49,50]⟩,⟨#[45,51,46,53]⟩,⟨#[65,124,66,44,91,99,93,59]⟩,⟨#[78,111,114,116,104,32,55]⟩,⟨#[120,32,121]⟩,⟨#[39,39]⟩,⟨#[97,98,99,97,98,99]⟩,⟨#[48]⟩,⟨#[55,46,50,53]⟩]
theorem aLx:∀s∈CN,kp s:=by
 have h:∀s∈CN,s.data.toList.length<=200/\∀c∈s.data.toList,32<=c.toNat/\c.toNat<=126:=ak;intro s a;have:=h s a;exact rN.CJ (l:=s.data.toList) this.2 this.1
def avL(w:World)(e:Ending)(w':World):Prop:=∃c:Nat,e=.returned (.slice (some ⟨w.heap.size,0,none⟩) 15 c)/\β w w'/\∀k (a:k<15),w'.cell? ⟨w.heap.size,k,none⟩=some (.string (CN[k]'a))
theorem aLH(w:World):Calls prog 292 #[] w fun e w'=>avL w e w':=by
 have b:β w (w.alloc (.cells (CN.map Value.string).toArray 9)):=(br _ _).alloc (aZ _) _;have c:∀k (a:k<15),(w.alloc (.cells (CN.map Value.string).toArray 9)).cell? ⟨w,k,none⟩=some (.string (CN[k]'a)):=fun k a=>by have h:=cW w (.cells (CN.map Value.string).toArray 9);simp only[World.cell?,h];rw[Ws,n4,jU (show k<CN from a)];rfl
 go_enter func292,ntmps292
 go_wp2;go_ret;exact⟨_,rfl,b,c⟩
variable{w w':World}{b n:Nat}{v:Value}
theorem aGi{base:Nat}{e:TypeId}{size:Nat}{aP:List Value}(h:w.ownsRow base e size v n aP)(d:fb b w w')(A:b<base):w'.ownsRow base e size v n aP:=by
 obtain⟨i,a⟩:=h;refine⟨i,?_⟩;rcases a with a|⟨g,cap,k,aj,f,c,j⟩
 exact .inl a;exact .inr ⟨g,cap,k,aj,f,by rw[d.block g (bF c) z];exact c,j⟩
variable{wr:World}{a:Option Addr}
theorem _root_.Go.aJ.el.hN(ae:el w b a n)(h:el wr b a n)(e:w'.heap[b]? =wr.heap[b]?)(k:fb b w w'):el w' b a n:=by
 obtain⟨c,l,H,I,g⟩:=h;obtain⟨_,_,_,d,_⟩:=ae;refine⟨c,l,e.trans H,?_,g⟩;rcases d with d|⟨j,eh,rfl,d⟩
 exact .inl d;refine .inr ⟨j,eh,rfl,fun i hi=>?_⟩;obtain⟨x,f⟩:=d i hi;exact⟨x,by rw[←f];exact nt (k.block j (Wk w _ f) (fun e=>g _ rfl z e))⟩
theorem _root_.Go.aJ.fb.Ht(h:fb b w wr)(A:Below w wr w'):fb b w w':=⟨A.os.trans h.os,A.tape.trans h.tape,A.output.trans h.output,cO h.size A.size,fun k a c=>(A.block k a).trans (h.block k a c)⟩
def wZ(l:List Nat):List Int:=l.map fun(x:Nat)=>(x:Int)
variable{l:List Nat}
theorem awR(h:∀x∈l,32<=x/\x<=126)(b:l.length<=200):kp (strOfNums (wZ l)):=by
 have e:strOfNums (wZ l)=⟨(l.map UInt8.ofNat).toArray⟩:=by unfold strOfNums wZ;rw[LU];rfl
 rw[e];refine rN.CJ (fun c a=>?_) (by rw[IC];exact b);obtain⟨x,d,rfl⟩:=nv.1 a;have:=h x d;rw[aeP (by have:UInt8.size=256:=rfl;omega)];exact this
theorem axE{base:Nat}(h:w.ownsRow base 5 1 v l ((wZ l).map (Value.int .u8))):(convert 126 9 v).run prog w=.ok (.string (strOfNums (wZ l))) w:=by
 obtain⟨H,I⟩:=h;rcases I with⟨rfl,ae⟩|⟨g,cap,a,rfl,e,jy,c,f,d,b⟩
 have:l=[]:=CW ae;subst this;exact Wm (P:=prog) (w:=w) 126 5 se xV 0 0 9 LH
 ·refine Rf (P:=prog) w 126 5 se xV g 0 l cap (wZ l) (by simp[wZ]) (fun i hi=>?_) 9 LH;have H:(a.toList.take (l.length*1))[i]? =((wZ l).map (Value.int .u8))[i]? :=by rw[b]
  rw[oZ,co z,n4]at H;have I:i<(wZ l).length:=by simpa[wZ]using hi
  exact anP
structure nz (w wr:World) (b:Nat) (a:Option Addr) (len:Nat):Prop where
 o:el w b a len
 n:el wr b a len
 s:fb b w wr
theorem nz.next{len:Nat}(h:nz w wr b a len)(d:el w' b a len)(c:fb b wr w'):nz w w' b a len:=⟨h.o,d,h.s.trans c⟩
theorem nz.Ht{len:Nat}(h:nz w wr b a len)(A:Below w wr w'):nz w w' b a len:=⟨h.o,h.o.hN h.n (A.block b h.o.lt) (h.s.Ht A),h.s.Ht A⟩
theorem nz.K{len:Nat}(h:nz w wr b a len)(A:β wr w'):nz w w' b a len:=h.Ht (A.mono h.s.size)
theorem nz.alloc{len:Nat}(h:nz w wr b a len)(o:Obj):nz w (wr.alloc o) b a len:=h.K ((br _ _).alloc (aZ _) o)
theorem aJ'(w:World)(b:Nat)(a:Option Addr)(len:Nat)(ap:len<=maxLen)(h:el w b a len):Calls prog 199 #[.pointer (some ⟨b,0,none⟩)] w fun e w'=>XX e/\nz w w' b a len:=by
 obtain⟨ei,kV,nR,iY,kY⟩:=im att;have g:=G fun(n:Int) (H:0<n) (I:n<=2000000000000001) w Z=>pZ w b a len n H I ap Z;have aa:=G aLH;have u:Hid (nz w w b a len):=G ⟨h,h,fb.refl b w⟩;have Y:Hid (b<w.heap.size):=G h.lt;clear h;go_enter func199,ntmps199;go_upto_region 3 with(first|(go_at_call 15;(with_reducible refine(g.out 18 ak ak _ u.out.n).mono ?_);rintro e am ⟨⟨E,ii,ae,rfl⟩,b5,bV⟩;have B:=G (u.out.next b5 bV);obtain⟨k,rfl⟩:∃k:Nat,E=(k:Int):=⟨E.toNat,z⟩)|(go_at_call 292;(with_reducible refine(aa.out _).mono ?_);rintro e aq ⟨c2,rfl,C,Q⟩;have j:=G (B.out.K C);have O:=G Q;clear C Q))
 by_cases y:k<15
 ·have bo:=O.out k y;have o:=G (aLx _ (fP (show k<CN from y)))
  go_wp2;go_ret;exact⟨⟨_,rfl,o.out⟩,j.out⟩
 ·have P:¬(k:Int)<15:=z;clear O;go_upto_if 22 with(go_at_call 15;(with_reducible refine(g.out 9 ak ak _ j.out.n).mono ?_);rintro e bX ⟨⟨J,jK,ag,rfl⟩,g0,nX⟩;have r:=G (j.out.next g0 nX);obtain⟨m,rfl⟩:∃k:Nat,J=(k:Int):=⟨J.toNat,z⟩)
  generalize ((k:Int)==17)=q;go_cut [5]from 40 (fun x cY=>∃n:Nat,n<=200/\x=.int .i64 n/\nz w cY b a len)
  ·cases q
   ·go_wp2;go_meet;exact⟨m,z,rfl,r.out⟩
   ·go_wp2_with (go_at_call 15;(with_reducible refine(g.out 11 ak ak _ r.out.n).mono ?_);rintro e bn ⟨⟨N,AL,Ub,rfl⟩,lj,qI⟩;have V:=G (r.out.next lj qI);obtain⟨T,rfl⟩:∃k:Nat,N=(k:Int):=⟨N.toNat,z⟩);go_meet;exact⟨190+T,z,bG,V.out⟩
  case rest=>
   obtain⟨n,ax,rfl,d⟩:=hcut;have c:=G d;clear d u B j r
   go_wp2;go_loopw [6,7] (fun v i wr=>∃l:List Nat,l.length<=n/\i=.int .i64 l/\(∀x∈l,32<=x/\x<=126)/\wr.ownsRow w 5 1 v l ((wZ l).map (Value.int .u8))/\nz w wr b a len) (fun _ i _=>n-(RowKit.intOf i).toNat);case atStart=>exact⟨[],dx _,rfl,ao,mT _ _ _ _,c.out⟩
   case round=>
    clear c;obtain⟨l,ab,rfl,o,D,d⟩:=hrel;have F:=G o;have t:=G D;have c:=G d;clear o D d;by_cases au:l.length<n
    ·have P:(l.length:Int)<n:=z
     go_wp2_with (first|(at_builtin;refine ln _ rfl _ _ 126 rfl w 5 ei (.int .u8 0) 1 1 se kV nR iY kY rfl ak _ _ _ rfl (U.out.alloc _) ⟨s,0,none⟩ 1 1 [_] rfl rfl (xv _ _ _) (by simp[Value.oneCell']) (by unfold maxLen;omega) z (by have:=f.out.s.size;simp;omega) ?_;intro d_ bi M K _)|(go_at_call 15;(with_reducible refine(g.out 95 ak ak _ c.out.n).mono ?_);rintro e s ⟨⟨R,af,ad,rfl⟩,n5,A⟩;have f:=G (c.out.next n5 A);have U:=G (aGi t.out A Y.out);obtain⟨m,rfl⟩:∃k:Nat,R=(k:Int):=⟨R.toNat,z⟩;have dV:IntKind.u8.wrap (32+(m:Int))=((32+m:Nat):Int):=(by rw[show(32:Int)+(m:Int)=((32+m:Nat):Int) by omega,QM,Bs z])))
     have L:Below w s bi:=((br w s).alloc f.out.s.size _).grown K (by have:=f.out.s.size;simp;omega) (vP t.out);have lr:=G M;have S:=G (f.out.Ht L);clear M K L
     go_wp2;refine⟨⟨l++[32+m],bz,?_,?_,?_,S.out⟩,by simp[RowKit.intOf];omega⟩
     ·rw[ia];go_num
     ·intro x W;rcases lo.1 W with h|h
      exact F.out x h;obtain rfl:=o0.1 h;omega
     have:=lr.out;simp only[wZ,xY,ia,qO,ID,Bq]at this⊢;exact this
    ·have P:¬(l.length:Int)<n:=z;have gn:=axE t.out;have X:=G (awR F.out z)
     go_wp2;go_ret;exact⟨⟨_,rfl,X.out⟩,c.out⟩
theorem Li:(prog.info? 44).map (·.size)=some 16:=av
theorem CA{P:Program}{fn:Func}{p:Tmp}{ty:TypeId}(h:fn.results=#[.cell p ty])(tmps:Array Value)(w:World)(g:Nat)(t:TypeId)(cs:Array Value)(fr:Nat×Nat)(d:TypeDesc) (ag:tmps.getD p undef=.pointer (some ⟨g,0,none⟩))(an:w.heap[g]? =some (.cells cs t fr)) (hu:P.underlying ty=some d)(hd:(match d with|.struct _|.array _ _=>true|_=>false)=true)(hi:(P.info? ty).map (·.size)=some cs.size): (results fn tmps).run P w=.ok (.agg cs) w:=by
 have a:tmps[p]?.getD undef=.pointer (some ⟨g,0,none⟩):=by simpa using ag
 simp[results,h,a,asAddr,run_loadVar_row w g t ty cs fr d an hu hd hi]
theorem aqq{r:Nat}{t:TypeId}{fr:Nat×Nat}:∀(l:List Value) (i:Nat) (w:World) (cs:Array Value),w.heap[r]? =some (.cells cs t fr)->i+l.length=cs.size->(World.setCells w r i l).heap[r]? =some (.cells (cs.toList.take i++l).toArray t fr)
 |[],i,w,cs,h,hi=>by
  have e:cs.toList.take i=cs.toList:=uK (by rw[jC];simp only[uJ]at hi;omega)
  rw[e,sf]
  exact h
 |v::l,i,w,cs,h,hi=>by
  have H:=hT (i:=i) h v
  simp only[l7]at hi
  have I:=aqq l (i+1) _ _ H bz
  have e:(cs.setIfInBounds i v).toList.take (i+1)=cs.toList.take i++[v]:=by
   rw[Array.toList_setIfInBounds,List.take_succ,List.take_set,List.set_eq_of_length_le (by rw[nu,jC];omega),List.getElem?_set_self (by rw[jC];omega)]
   rfl
  rw[e,Ix,as8]at I
  exact I
theorem Qd{r:Nat}{t:TypeId}{fr:Nat×Nat}{cs:Array Value}(h:w.heap[r]? =some (.cells cs t fr))(l:List Value)(a:l.length=cs.size):(World.setCells w r 0 l).heap[r]? =some (.cells l.toArray t fr):=by
 have:=aqq l 0 w cs h z;simpa using this
theorem Hz{B:Nat}{w:World}{r:Nat}(a:B<=r):∀(l:List Value) (i:Nat) (W:World),Below B w W->Below B w (World.setCells W r i l)
 |[],_,_,h=>h
 |v::l,i,W,h=>Hz a l (i+1) _ (h.setCell (p:=⟨r,i,none⟩) a v)
theorem aqp{r k:Nat}(a:k≠r):∀(l:List Value) (i:Nat) (W:World),(World.setCells W r i l).heap[k]? =W.heap[k]?
 |[],_,_=>rfl
 |v::l,i,W=>(aqp a l (i+1) _).trans (g_ _ _ _ _ a)
abbrev gY(id c_ gq dj kd:Int)(c:Option Addr)(e d:Nat)(k:Int)(s:ByteArray)(N S n:Int)(ca:Option Addr)(cc:Nat)(ra:Option Addr)(rc:Nat)(fm e5:ByteArray)(aG:Option Addr)(b a:Nat):Array Value:=
 #[.int .i64 id,.int .i64 c_,.int .i64 gq,.int .i64 dj,.int .i64 kd,.slice c e d,.int .i64 k,.string s,.int .i64 N,.int .i64 S,.int .i64 n,.slice ca 0 cc,.slice ra 0 rc,.string fm,.string e5,.slice aG b a]
abbrev uh:Array Value:=gY 0 0 0 0 0 none 0 0 0 bO 0 0 0 none 0 none 0 bO bO none 0 0
end Go.bS
namespace Go.bh
open Go Go.Proofs Go.RowKit Go.da
def tn(w:World)(B b m n:Nat):Prop:=B<=w.heap.size/\∃l:List UInt8,Lib.IsBuilderF 128 5 B b (Lib.byteCells l) w/\m<=l.length/\l.length<=n
variable{w:World}{B b m n n':Nat}
theorem tn.zq{a:Nat}(h:tn w B b m n)(d:a<=m)(e:n<=n'):tn w B b a n':=by
 obtain⟨ae,l,H,I,c⟩:=h;exact⟨ae,l,H,z,z⟩
variable{w':World}{e:TypeId}{v:Value}{aP:List Value}
theorem AY{base:Nat}{size:Nat}(h:w.ownsRow base e size v n aP)(A:β w w'):w'.ownsRow base e size v n aP:=by
 exact acy
theorem aGj{base:Nat}{size:Nat}(h:w.ownsRowF base e size v n aP)(A:β w w'):w'.ownsRowF base e size v n aP:=by
 obtain⟨d,a⟩:=h;refine⟨d,?_⟩;rcases a with a|⟨g,cap,i,bb,aj,c,b,f⟩
 exact .inl a;exact .inr ⟨g,cap,i,bb,aj,c,by rw[A.block g (g6.1 b).1];exact b,f⟩
theorem ail{T:TypeId}{p:Value}{b2:List Value}(h:Lib.BuilderAtF T e B b p b2 w)(A:β w w'):Lib.BuilderAtF T e B b p b2 w':=by
 obtain⟨H,v,I,c,a⟩:=h;exact⟨H,v,by rw[A.block b (c8 I)];exact I,aGj c A,a⟩
theorem tn.K(h:tn w B b m n)(A:β w w'):tn w' B b m n:=by
 obtain⟨ae,l,H,I⟩:=h;exact⟨cO ae A.size,l,H.elim (fun x=>.inl (ail x A)) (fun x=>.inr (ail x A)),I⟩
theorem tn.lt(h:tn w B b m n):b<w.heap.size:=by
 obtain⟨_,l,H,_⟩:=h;rcases H with H|H<;>exact H.lt
theorem tn.base(h:tn w B b m n):B<=b:=by
 obtain⟨_,l,H,_⟩:=h;rcases H with H|H<;>exact H.1
theorem tn.ee(w:World):tn (w.alloc (.cells #[.pointer none,.slice none 0 0] 128)) w w 0 0:=by
 refine⟨ao,[],.inl ⟨aZ _,.slice none 0 0,cW _ _,⟨by simp[Lib.byteCells],.inl ⟨rfl,rfl⟩⟩,by simp[Value.ownBlock]⟩,aZ _,aZ _⟩
theorem kz.kept{t e:Nat}{c:Option Nat}{v:Array Value}(h:w.heap[b]? =some (.cells v t (0,0)))(a:Lib.OthersKept e c w w')(H:some b≠c)(I:t≠e):w'.heap[b]? =some (.cells v t (0,0)):=
 a b _ h H fun c bb e=>by cases e;exact I rfl
structure BJ (w:World) (aI:Array Value) (b m n:Nat) (wr:World):Prop where
 g:hX w aI wr
 j4:tn wr b b m n
 lt:w.heap.size<b
variable{wr:World}{a:Array Value}
theorem BJ.K(h:BJ w a b m n wr)(A:β wr w'):BJ w a b m n w':=⟨h.g.K A,h.j4.K A,h.lt⟩
theorem BJ.zq{c:Nat}(h:BJ w a b m n wr)(d:c<=m)(e:n<=n'):BJ w a b c n' wr:=⟨h.g,h.j4.zq d e,h.lt⟩
variable{o:Obj}{row:Option Nat}
theorem Yf{T t:TypeId}(an:(w.alloc o).grownBy w' row)(c:∀k,row=some k->∃cs fr,w.heap[k]? =some (.cells cs T fr)){k:Nat}{cs:Array Value}{fr:Nat×Nat}(a:w.heap[k]? =some (.cells cs t fr))(ai:t≠T):w'.heap[k]? =some (.cells cs t fr):=by
 rw[an.block k (by have:=c8 a;simp;omega) (fun e=>?_),tT _ _ (c8 a)];exact a;obtain⟨f,d,b⟩:=c k e.symm;rw[a]at b;cases b;exact ai rfl
theorem BJ.grown{d:Array Value}(h:BJ w d b m n wr)(an:(wr.alloc o).grownBy w' row)(e:∀k,row=some k->∃cs fr,wr.heap[k]? =some (.cells cs 9 fr)/\w.heap.size<=k):BJ w d b m n w':=by
 have c:∀k,row=some k->∃cs fr,wr.heap[k]? =some (.cells cs 9 fr):=fun k a=>by obtain⟨cs,fr,H,_⟩:=e k a;exact⟨cs,fr,H⟩
 have i:β w w':=(h.g.b.alloc h.g.b.size o).grown an (by have:=h.g.b.size;simp;omega) (fun k a=>by obtain⟨_,_,_,H⟩:=e k a;exact H);refine⟨⟨i,Yf an c h.g.g ak⟩,?_,h.lt⟩;obtain⟨ae,l,H,I⟩:=h.j4;have kC:∀p,Lib.BuilderAtF 128 5 b b p (Lib.byteCells l) wr->Lib.BuilderAtF 128 5 b b p (Lib.byteCells l) w':=fun p ⟨bW,v,cD,⟨a3,a4⟩,a5⟩=>by
  refine⟨bW,v,Yf an c cD ak,⟨a3,?_⟩,a5⟩;rcases a4 with a4|⟨g,cap,r,bb,aj,f,j,q⟩
  exact .inl a4;exact .inr ⟨g,cap,r,bb,aj,f,Yf an c j ak,q⟩
 exact⟨cO (cO ae ao) an.size,l,H.elim (fun x=>.inl (kC _ x)) (fun x=>.inr (kC _ x)),I⟩
theorem ul{base:Nat}{size:Nat}(h:w.ownsRow base e size v n aP)(ae:v≠ .slice none 0 0):∃g cap ck,v=.slice (some ⟨g,0,none⟩) n cap/\base<=g/\w.heap[g]? =some (.cells ck e (0,0))/\n<=cap/\ck.size=cap*size/\∀i,i<n*size->ck[i]? =aP[i]? :=by
 exact anJ
structure MZ (w:World) (base:Nat) (v:Value) (n:Nat) (bN:List ByteArray):Prop where
 len:bN.length=n
 lJ:∀y∈bN,y.size<=200
 p2:w.ownsRow base 9 1 v n (bN.map Value.string)
theorem MZ.block{base:Nat}{d:List ByteArray}(h:MZ w base v n d):∀k,v.ownBlock=some k->∃cs fr,w.heap[k]? =some (.cells cs 9 fr)/\base<=k:=by
 intro k a;rcases h.p2.2 with⟨c,_⟩|⟨g,cap,i,aj,b,e,f⟩
 subst c;simp[Value.ownBlock]at a;subst aj;simp[Value.ownBlock]at a;subst a;exact⟨_,_,e,b⟩
theorem MZ.K{base:Nat}{a:List ByteArray}(h:MZ w base v n a)(A:β w w'):MZ w' base v n a:=⟨h.len,h.lJ,AY h.p2 A⟩
end Go.bh
namespace Go.bh
open Go.da (bA)
def gm(rs:List bA):List Nat->List Int->Option Nat
 |[],_=>some 0
 |_::_,[]=>none
 |s::ss,x::p=>
  if x= -1 then(gm rs ss p).map (· +1)
  else if 0<=x then
   match rs[x.toNat]? with
   |some r=>if r.h=s then(gm rs (r.args++ss) p).map (· +1)else none
   |none=>none
  else none
theorem DE(rs:List bA)(p:List Int):gm rs [] p=some 0:=by cases p<;>rfl
theorem JM(rs:List bA)(s:Nat)(ss:List Nat):gm rs (s::ss) []=none:=rfl
theorem NX(rs:List bA)(s:Nat)(ss:List Nat)(p:List Int):gm rs (s::ss) (-1::p)=(gm rs ss p).map (· +1):=by
 rw[gm,co rfl]
theorem Gn(rs:List bA)(s:Nat)(ss:List Nat)(p:List Int)(k:Nat)(a:k<rs)(b:rs[k].h=s):gm rs (s::ss) ((k:Int)::p)=(gm rs (rs[k].args++ss) p).map (· +1):=by
 have H:rs[(k:Int).toNat]? =some rs[k]:=by simp[a]
 rw[gm,bs z,co z,H];simp[b]
theorem Zj(rs:List bA)(s:Nat)(ss:List Nat)(x:Int)(p:List Int)(H:x≠ -1)(I:∀k:Nat,x=k->∀a:k<rs,rs[k].h≠s):gm rs (s::ss) (x::p)=none:=by
 rw[gm,bs H];by_cases ae:0<=x
 ·rw[co ae];cases b:rs[x.toNat]? with
  |none=>rfl
  |some r=>obtain⟨a,rfl⟩:=k2.1 b;simp only;rw[bs (I x.toNat z a)]
 rw[bs ae]
theorem Gp{rs:List bA}{s:Nat}{ss:List Nat}{p:List Int}{n:Nat}(h:gm rs (s::ss) p=some n):∃x q,p=x::q/\((x= -1/\∃m,n=m+1/\gm rs ss q=some m)∨ ∃(k:Nat) (a:k<rs),x=k/\rs[k].h=s/\∃m,n=m+1/\gm rs (rs[k].args++ss) q=some m):=by
 cases p with
 |nil=>rw[JM]at h;cases h
 |cons x q=>
  refine⟨x,q,rfl,?_⟩;by_cases H:x= -1;subst H;rw[NX]at h;obtain⟨m,b,rfl⟩:=iz.1 h;exact .inl ⟨rfl,m,rfl,b⟩;by_cases I:∃(k:Nat) (a:k<rs),x=k/\rs[k].h=s;obtain⟨k,a,rfl,c⟩:=I;rw[Gn rs s ss q k a c]at h;obtain⟨m,b,rfl⟩:=iz.1 h;exact .inr ⟨k,a,rfl,c,m,rfl,b⟩;rw[Zj rs s ss x q H fun k d a e=>I ⟨k,a,d,e⟩]at h;cases h
theorem NV(rs:List bA):∀(p:List Int) (a b:List Nat),gm rs (a++b) p=(gm rs a p).bind fun n=>(gm rs b (p.drop n)).map (n+ ·)
 |p,[],b=>by
  rw[DE]
  simp
 |[],s::ss,b=>by simp[JM]
 |x::p,s::ss,b=>by
  rw[Wq]
  by_cases H:x= -1
  ·subst H
   rw[NX,NX,NV rs p ss b]
   cases gm rs ss p with
   |none=>rfl
   |some n=>
    simp only[C1,n6,Wr]
    cases gm rs b (p.drop n)with
    |none=>rfl
    |some m=>simp;omega
  ·by_cases I:∃(k:Nat) (c:k<rs),x=k/\rs[k].h=s
   ·obtain⟨k,c,rfl,d⟩:=I
    rw[Gn rs s _ p k c d,Gn rs s _ p k c d,←Ix,NV rs p (rs[k].args++ss) b]
    cases gm rs (rs[k].args++ss) p with
    |none=>rfl
    |some n=>
     simp only[C1,n6,Wr]
     cases gm rs b (p.drop n)with
     |none=>rfl
     |some m=>simp;omega
   ·have A:∀k:Nat,x=k->∀c:k<rs,rs[k].h≠s:=fun k f c e=>I ⟨k,c,f,e⟩
    rw[Zj rs s _ x p H A,Zj rs s _ x p H A]
    rfl
theorem NY(rs:List bA):∀(p:List Int) (a:List Nat) (n:Nat),gm rs a p=some n->n<=p.length
 |p,[],n,h=>by rw[DE]at h;cases h;exact dx _
 |[],s::ss,n,h=>by rw[JM]at h;cases h
 |x::p,s::ss,n,h=>by
  obtain⟨f,q,e,c⟩:=Gp h
  cases e
  rcases c with⟨_,m,rfl,b⟩|⟨k,d,_,_,m,rfl,b⟩
  ·have:=NY rs p _ m b;simp;omega
  ·have:=NY rs p _ m b;simp;omega
theorem NW(rs:List bA):∀(p:List Int) (a:List Nat) (n:Nat) (q:List Int),gm rs a p=some n->gm rs a (p++q)=some n
 |p,[],n,q,h=>by rw[DE]at h⊢;exact h
 |[],s::ss,n,q,h=>by rw[JM]at h;cases h
 |x::p,s::ss,n,q,h=>by
  obtain⟨g,i,e,f⟩:=Gp h
  cases e
  rw[Wq]
  rcases f with⟨rfl,m,rfl,b⟩|⟨k,c,rfl,d,m,rfl,b⟩
  ·rw[NX,NW rs p _ m q b];rfl
  ·rw[Gn rs s ss _ k c d,NW rs p _ m q b];rfl
theorem Zk(rs:List bA):∀(p:List Int) (a:List Nat) (n:Nat),gm rs a p=some n->gm rs a (p.take n)=some n
 |p,[],n,h=>by rw[DE]at h⊢;exact h
 |[],s::ss,n,h=>by rw[JM]at h;cases h
 |x::p,s::ss,n,h=>by
  obtain⟨g,i,e,f⟩:=Gp h
  cases e
  rcases f with⟨rfl,m,rfl,b⟩|⟨k,c,rfl,d,m,rfl,b⟩
  ·rw[as9,NX,Zk rs p _ m b];rfl
  ·rw[as9,Gn rs s ss _ k c d,Zk rs p _ m b];rfl
variable{s n:Nat}{p:List Int}
theorem JN{rs:List bA}{ss:List Nat}(h:gm rs (s::ss) p=some n):0<n:=by
 obtain⟨_,_,_,a⟩:=Gp h;rcases a with⟨_,m,rfl,_⟩|⟨_,_,_,_,m,rfl,_⟩<;>omega
def u'(rs:List bA)(M:Nat->Nat)(p:List Int):Prop:=∀k,k<p.length->∃(x:Nat) (a:x<rs.length),p[k]? =some (x:Int)/\∃m,gm rs [rs[x].h] (p.drop k)=some m/\m<=M rs[x].h
theorem u'.nil(rs:List bA)(M:Nat->Nat):u' rs M []:=fun k a=>by simp at a
variable{M:Nat->Nat}
theorem u'.Jp{rs:List bA}{q:List Int}(ag:u' rs M p)(d:u' rs M q):u' rs M (p++q):=fun k c=>by
 by_cases h:k<p
 ·obtain⟨x,a,H,m,I,b⟩:=ag k h
  refine⟨x,a,by rw[CX h];exact H,m,?_,b⟩
  rw[List.drop_append_of_le_length z]
  exact NW rs _ _ _ _ I
 ·obtain⟨x,a,H,m,I,b⟩:=d (k-p.length) (by simp at c;omega)
  refine⟨x,a,by rw[Fs z];exact H,m,?_,b⟩
  rw[List.drop_append,Rk (z:p.length<=k),zt]
  exact I
theorem u'.cons{rs:List bA}{M:Nat->Nat}{k:Nat}{q:List Int}{n:Nat}(a:k<rs)(c:u' rs M q)(aO:gm rs rs[k].args q=some n)(f:n+1<=M rs[k].h):u' rs M ((k:Int)::q):=fun j d=>by
 cases j with
 |zero=>exact⟨k,a,rfl,n+1,by rw[LM,Gn rs _ _ q k a rfl,sf,aO];rfl,f⟩
 |succ j=>
  obtain⟨x,b,H,m,I,e⟩:=c j (by simp at d;omega)
  exact⟨x,b,by simpa using H,m,by simpa using I,e⟩
structure pF (rs:List bA) (M:Nat->Nat) (s n:Nat) (p:List Int):Prop where
 len:p.length=n
 gm:gm rs [s] p=some n
 sub:u' rs M p
 le:n<=M s
theorem pF.pos{rs:List bA}(h:pF rs M s n p):0<n:=JN h.gm
theorem pF.CC{rs:List bA}(h:pF rs M s n p):∀x∈p,0<=x/\x<rs.length:=fun x b=>by
 obtain⟨k,a⟩:=Ft.1 b
 obtain⟨au,_⟩:=k2.1 a
 obtain⟨y,c,H,_⟩:=h.sub k au
 rw[a]at H
 cases H
 omega
theorem pF.head{rs:List bA}(h:pF rs M s n p):∃(k:Nat) (a:k<rs) (q:List Int),p=(k:Int)::q/\rs[k].h=s:=by
 obtain⟨x,q,rfl,c⟩:=Gp h.gm;rcases c with⟨rfl,_⟩|⟨k,a,rfl,b,_⟩
 have:=(h.CC (-1) (qP ..)).1;omega;exact⟨k,a,q,rfl,b⟩
end Go.bh
namespace Go.bh
open Go Go.Proofs Go.RowKit Go.Shelf Go.da
attribute [local go_sem] Oper.semAt_some
def Dj(p q:Nat)(X a:World):Prop:=(∀o,X.heap[p]? =some o->a.heap[p]? =some o)/\(∀o,X.heap[q]? =some o->a.heap[q]? =some o)
theorem Dj.refl(p q:Nat)(X:World):Dj p q X X:=⟨fun _ h=>h,fun _ h=>h⟩
variable{p q:Nat}
theorem Dj.trans{X b Z:World}(h:Dj p q X b)(k:Dj p q b Z):Dj p q X Z:=⟨fun o a=>k.1 o (h.1 o a),fun o a=>k.2 o (h.2 o a)⟩
theorem Dj.put{W:World}{l:Nat}(b:Obj)(H:p≠l)(I:q≠l):Dj p q W (W.putObj l b):=
 ⟨fun o a=>by rw[(aeM W l b).block p (c8 a) (by simpa using H)];exact a,fun o a=>by rw[(aeM W l b).block q (c8 a) (by simpa using I)];exact a⟩
end Go.bh
namespace Go.bh
open Go Go.Proofs.Tryz Go.Proofs Go.RowKit Go.Shelf Go.da
attribute [local go_sem] Oper.semAt_some
def zO(B:Nat)(w:World):List Deferred->Prop
 |[]=>True
 |d::ds=>(∃D,d={target:=.collected D,args:=#[]}/\B<=D/\w.heap[D]? =some (.deferred (some []))/\∀e∈ds,e.target≠ .collected D)/\zO B w ds
theorem zO.put{B D:Nat}{w:World}:∀{ds:List Deferred},zO B w ds->(∀e∈ds,e.target≠ .collected D)->∀o,zO B (w.putObj D o) ds
 |[],_,_,_=>g'
 |d::ds,⟨⟨D',aj,c,b,g⟩,h⟩,a,o=>by
  refine⟨⟨D',aj,c,?_,g⟩,h.put (fun e aO=>a e (jD _ aO)) o⟩
  have f:D'≠D:=fun e=>a d (qP ..) (by rw[aj,e])
  rw[(aeM w D o).block D' (c8 b) (by simpa using f)]
  exact b
def lu(w:World)(aG:Option Addr)(p:List Int):Prop:=0<p.length->∃b o,aG=some ⟨b,o,none⟩/\b<w.heap.size/\∀i (hi:i<p.length),w.cell? ⟨b,o+i,none⟩=some (.int .i64 p[i])
variable{w:World}
theorem lu.K{w':World}{aG:Option Addr}{p:List Int}(h:lu w aG p)(A:β w w'):lu w' aG p:=fun ae=>by
 obtain⟨b,o,e,a,c⟩:=h ae
 exact⟨b,o,e,cS A a,fun i hi=>by rw[A.cell a];exact c i hi⟩
def au7(C:Nat)(ds:List Deferred):Prop:=∀d∈ds,∀D,d.target=.collected D->D<C
theorem zO.lt{B:Nat}{w:World}:∀{ds:List Deferred},zO B w ds->au7 w ds
 |[],_=>fun d hd=>by cases hd
 |d::ds,⟨⟨D,aj,c,b,f⟩,h⟩=>fun e aO D' a=>by
  rcases gl.1 aO with rfl|aO
  ·rw[aj]at a;cases a;exact c8 b
  ·exact h.lt e aO D' a
theorem zO.kept{B:Nat}{W W':World}{row:Option Nat}(an:W.grownBy W' row):∀{ds:List Deferred},zO B W ds->(∀k,row=some k->(∃cs t fr,W.heap[k]? =some (.cells cs t fr))∨ ∀d∈ds,d.target≠ .collected k)->zO B W' ds
 |[],_,_=>g'
 |d::ds,⟨⟨D,aj,i,a,j⟩,h⟩,c=>by
  refine⟨⟨D,aj,i,?_,j⟩,h.kept an fun k f=>(c k f).elim .inl fun af=>.inr fun e aO=>af e (jD _ aO)⟩
  rw[an.block D (c8 a) (fun e=>?_)]
  ·exact a
  ·rcases c D e.symm with⟨cs,l,fr,b⟩|g
   ·rw[a]at b;cases b
   ·exact g d (qP ..) (by rw[aj])
def aLq(b:List Nat):List Value:=b.map fun a=>.int .i64 ((a:Nat):Int)
structure C6 (w:World) (aI:Array Value) (ds:List Deferred) (v:Value) (gf:List Nat) (W:World):Prop where
 g:hX w aI W
 m:zO w.heap.size W ds
 b:Boxed W (w.heap.size+1+1) 22 v
 r:W.ownsRow w.heap.size 3 1 v gf.length (aLq gf)
variable{W:World}{v:Value}
theorem C6.kept{W':World}{f:Array Value}{ds:List Deferred}{j:List Nat}{row:Option Nat}(h:C6 w f ds v j W)(an:W.grownBy W' row)(b:∀k,row=some k->w.heap.size<=k/\(∃o,W.heap[k]? =some o/\o.isCells=false)/\∀d∈ds,d.target≠ .collected k):C6 w f ds v j W':=by
 have c:∀k cs t fr,W.heap[k]? =some (.cells cs t fr)->some k≠row:=fun k cs t fr a e=>by obtain⟨_,⟨o,i,l⟩,_⟩:=b k e.symm;rw[a]at i;cases i;cases l
 refine⟨⟨h.g.b.grown an h.g.b.size (fun k a=>(b k a).1),?_⟩,h.m.kept an fun k a=>.inr (b k a).2.2,h.b.kept an (c _ _ _ _ h.b),h.r.kept an ?_⟩;unfold kz;rw[an.block _ (c8 h.g.g) (c _ _ _ _ h.g.g)];exact h.g.g
 ·rcases h.r.2 with⟨e,_⟩|⟨g,cap,p,e,_,n,_⟩
  exact .inl (by rw[e];rfl);refine .inr (fun m=>c _ _ _ _ n ?_);rw[←m,e];rfl
theorem C6.alloc{a:Array Value}{ds:List Deferred}{b:List Nat}(h:C6 w a ds v b W)(o:Obj):C6 w a ds v b (W.alloc o):=h.kept (World.grownBy_alloc W o none) ao
theorem y0{base:Nat}{e:TypeId}{size:Nat}{n:Nat}{aP:List Value}(h:w.ownsRow base e size v n aP){q:Nat}(a:q<base):some q≠v.ownBlock:=by
 rcases h.2 with⟨aj,_⟩|⟨g,cap,c,aj,b,_⟩
 subst aj;simp[Value.ownBlock];subst aj;simp[Value.ownBlock];omega
theorem Ek:(prog.info? 3).map (fun i=>(i.zero,i.size,i.bytes))=some (some (.int .i64 0),1,8):=av
theorem C6.slice{b:Array Value}{ds:List Deferred}{a:List Nat}(h:C6 w b ds v a W):∃va c,v=.slice va a c:=by
 rcases h.r.2 with⟨e,ae⟩|⟨g,cap,d,e,_⟩
 exact⟨_,_,by rw[e,ae]⟩;exact⟨_,_,e⟩
end Go.bh
namespace Go.bh
open Go Go.Proofs Go.RowKit Go.da
structure pB (S:cU) (M:Nat->Nat) (rs:List bA) (ca bd:Option Addr) (cc aW rb aE rc:Nat) (w:World):Prop where
 ok:qZ S
 UY:FY S
 yS:∀i,1<=M i/\M i<=5
 sub:rs.Sublist S.df
 c:jd w ca S.bw
 y:sA w bd S.aD M
 r:wV w (some ⟨rb,aE,none⟩) rs
 b4:S.bw.length<=cc
 dF:S.aD.length<=aW
 gL:rs.length<=rc
abbrev eg(S:cU)(rs:List bA)(ca bd:Option Addr)(cc aW rb aE rc:Nat):Array Value:=#[.string S.nm,.int .i64 S.db,.slice ca S.bw.length cc,.slice bd S.aD.length aW,.slice (some ⟨rb,aE,none⟩) rs.length rc,.int .i64 S.al]
section
variable {S:cU} {M:Nat->Nat} {rs:List bA} {ca bd:Option Addr} {cc aW rb aE rc:Nat} {w:World}
theorem pB.K{w':World}(h:pB S M rs ca bd cc aW rb aE rc w)(A:β w w'):pB S M rs ca bd cc aW rb aE rc w':=
 ⟨h.ok,h.UY,h.yS,h.sub,h.c.K A,h.y.K A,h.r.K A,h.b4,h.dF,h.gL⟩
theorem pB.rq(h:pB S M rs ca bd cc aW rb aE rc w):rs.length<=40:=cO h.sub.length_le h.ok.df
theorem pB.iD(h:pB S M rs ca bd cc aW rb aE rc w):∀r∈rs,r.args.length<=3:=fun r a=>(h.UY.df r (h.sub.subset a)).iD
end
variable{w:World}
theorem hX.JK{wr:World}{a:Array Value}(h:hX w a wr):hX w a wr.drew:=h.K ((br _ _).drew)
variable{P:Program}{ops:Array Oper}{oi:Oper}{v:Value}{a:Act}
theorem ase{dY:Exit->Act->World->Prop}{e:Region.Mode}{S:World->Prop}{i:Nat}{d:Option Tmp}{f:Nat}{b:Array Bool}(hi:ops[i]? =some oi)(hd:oi.dst=d) (g:Region.noSelect ops=true)(m:Region.free e ops b i=true)(k:(Region.ready e ops b).contains i=true) (n:∀c a w,dY (.panic c) (a.put d v) w->dY (.panic c) a w)(j:YieldsIf P ops S oi v a)(l:S w) (h:wpAnyH P e ops dY S f (b.setIfInBounds i true) (a.put d v) w):wpAnyH P e ops dY S (f+1) b a w:=by
 subst hd;exact p6 hi g m k n j l h
variable{oI:Nat}{lG mQ:Array Bool}{a':Act}
theorem ci{dY:Exit->Act->World->Prop}{qF:Region.Mode}{S:World->Prop}(i d:Nat)(h:wpAnyH P qF ops dY S oI mQ a' w)(hi:ops[i]? =some oi:=by rfl)(hd:oi.dst=some d:=by rfl) (Y:Region.noSelect ops=true:=by kernel_rfl)(ch:Region.free qF ops lG i=true:=by kernel_rfl)(ab:(Region.ready qF ops lG).contains i=true:=by kernel_rfl) (dV:Region.wanted oi (yielded ops a.tmps)=true:=by rfl) (aB:∀w,S w->(execOp a.eval oi).run P w=.ok (.value v) w:=by intro w aal;(try dsimp only at aal);(go_simp<;>with_reducible rfl))(bm:S w:=by assumption) (j':∀c a w,dY (.panic c) (a.put (some d) v) w->dY (.panic c) a w:=by exact fun _ _ _ h=>h) (U:lG.setIfInBounds i true=mQ:=by(try simp only[List.setIfInBounds_toArray,List.set_cons_zero,List.set_cons_succ]);rfl)(aH:a.put (some d) v=a':=by(try simp only[Act.put,List.setIfInBounds_toArray,List.set_cons_zero,List.set_cons_succ]);rfl):wpAnyH P qF ops dY S (oI+1) lG a w:=by
 subst U aH;exact ase hi hd Y ch ab j' (.inl ⟨dV,aB⟩) bm h
theorem mr{dY:Exit->Act->World->Prop}{qF:Region.Mode}{S:World->Prop}(i d:Nat)(h:wpAnyH P qF ops dY S oI mQ a' w)(hi:ops[i]? =some oi:=by rfl)(hd:oi.dst=some d:=by rfl) (Y:Region.noSelect ops=true:=by kernel_rfl)(ch:Region.free qF ops lG i=true:=by kernel_rfl)(ab:(Region.ready qF ops lG).contains i=true:=by kernel_rfl) (dV:Region.wanted oi (yielded ops a.tmps)=false:=by rfl)(bm:S w:=by assumption) (j':∀c a w,dY (.panic c) (a.put (some d) undef) w->dY (.panic c) a w:=by exact fun _ _ _ h=>h) (U:lG.setIfInBounds i true=mQ:=by(try simp only[List.setIfInBounds_toArray,List.set_cons_zero,List.set_cons_succ]);rfl)(aH:a.put (some d) undef=a':=by(try simp only[Act.put,List.setIfInBounds_toArray,List.set_cons_zero,List.set_cons_succ]);rfl):wpAnyH P qF ops dY S (oI+1) lG a w:=by
 subst U aH;exact ase hi hd Y ch ab j' (.inr ⟨dV,rfl⟩) bm h
end Go.bh
namespace Go.bh
open Go Go.Proofs.Tryz Go.Proofs Go.RowKit Go.da
structure Ji (w:World) (aI:Array Value) (up:Value) (Dx et b Dy m n:Nat) (W:World):Prop where
 o:β w W
 g:kz W Dx 29 aI
 p:kz W et 22 #[up]
 f:kz W Dy 58 #[.func (.func 153) #[] #[.pointer (some ⟨et,0,none⟩),.pointer (some ⟨b,0,none⟩),.pointer (some ⟨Dx,0,none⟩),.pointer (some ⟨Dy,0,none⟩)]]
 j4:tn W b b m n
 bZ:w.heap.size<=b
 cp:Dx<b
 ix:et<b
 KM:Dy≠b
section
variable {w W W':World} {aI:Array Value} {up:Value} {Dx et b Dy m n vN n':Nat}
theorem Ji.K(h:Ji w aI up Dx et b Dy m n W)(A:β W W'):Ji w aI up Dx et b Dy m n W':=
 ⟨cj h.o A,h.g.K A,h.p.K A,h.f.K A,h.j4.K A,h.bZ,h.cp,h.ix,h.KM⟩
theorem Ji.zq(h:Ji w aI up Dx et b Dy m n W)(a:vN<=m)(c:n<=n'):Ji w aI up Dx et b Dy vN n' W:=⟨h.o,h.g,h.p,h.f,h.j4.zq a c,h.bZ,h.cp,h.ix,h.KM⟩
end
theorem ayz{rs:List bA}{s:Nat}{ss:List Nat}{p:List Int}{d:Nat}(h:gm rs (s::ss) p=some d):∃b4 c,gm rs [s] p=some b4/\gm rs ss (p.drop b4)=some c/\d=b4+c:=by
 have a:gm rs ([s]++ss) p=some d:=h;rw[NV]at a;cases H:gm rs [s] p with
 |none=>rw[H]at a;cases a
 |some b4=>rw[H]at a;obtain⟨c,hd,rfl⟩:=iz.1 a;exact⟨b4,c,rfl,hd,rfl⟩
attribute [local irreducible] wpStill in
theorem aea(bo c1 c2 c3 c5:Value)(rs:List bA)(rb aE rc:Nat)(aG:Option Addr)(bB:Nat)(p:List Int)(w:World)(M:wV w (some ⟨rb,aE,none⟩) rs)(ag:lu w aG p)(oK:∀r∈rs,r.args.length<=3)(vE:rs.length<=40)(G2:p.length<=100):∀(N a s k:Nat) (W:World),p.length-a<=N->gm rs [s] (p.drop a)=some k->β w W-> χ 195 #[.agg #[bo,c1,c2,c3,.slice (some ⟨rb,aE,none⟩) rs rc,c5],.slice aG p bB,a,s] W fun e W'=>e=.returned (.tuple #[.int .i64 ((a+k:Nat):Int),.bool true]):=by
 intro N;induction N with
 |zero=>intro a s k W ec c;rw[Rk z,JM]at c;cases c
 |succ N V=>
  intro a s k W ec c ar;obtain⟨x,q,m,az⟩:=Gp c;clear c;have aH:a<p.length:=by
   rcases x1 a p with h|h;exact h;rw[Rk h]at m;cases m
  have mm:=Iy aH;rw[mm]at m;injection m with m aC
  subst aC;obtain⟨pb,po,rfl,kW,om⟩:=ag z;have R:=G (om a aH);rw[m]at R;have hA:(0:Int)<=(a:Int):=z;have gU:(a:Int)<p.length:=z;have kf:(a:Int)<=100:=z;have pU:decide ((p.length:Int)<=(a:Int))=false:=bz;have f:=hX.ee W #[bo,c1,c2,c3,.slice (some ⟨rb,aE,none⟩) rs rc,c5];have C:=cj ar f.b;have j5:=(C.cell kW).trans R.out;have Cx:=c8 f.g;clear mm om m;rcases az with⟨rfl,ik,rfl,vB⟩|⟨r,ab,rfl,ak,Q,rfl,c⟩
  ·rw[DE]at vB;cases vB;clear ag M V ec R;go_enter func195,ntmps195
   go_wp2;go_ret2
   exact⟨ao,f.b⟩
  ·rw[sf]at c;have Ot:=M;obtain⟨ur,Lb,cg,iw,kE⟩:=M;cases cg;obtain⟨y,ac,g⟩:=kE r ab;have al:=g;have g:=g.K iw C;have jG:=G g.args;have fo:=g.bo;have b8:=g.c1;have cr:=g.c2;have ej:=g.c3;rw[ak]at fo;have TC:=oK _ (fP ab);have u:=G c;have mn:(0:Int)<=(r:Int):=z;have rf:(r:Int)<rs.length:=z;have aj:((r:Int)== -1)=false:=by simp<;>omega
   have aF:decide ((r:Int)<0)=false:=ao;have bq:decide ((rs.length:Int)<=(r:Int))=false:=bz;have ae:=G V;have E:=aK 4 f.g;clear kE g ag c V;go_enter func195,ntmps195
   go_wp2;have P:=f.K ((br _ _).drew);have o:Below (W.alloc (Obj.cells #[bo,c1,c2,c3,.slice (some ⟨rb,aE,none⟩) rs rc,c5] 29)).heap.size (W.alloc (Obj.cells #[bo,c1,c2,c3,.slice (some ⟨rb,aE,none⟩) rs rc,c5] 29)) (W.alloc (Obj.cells #[bo,c1,c2,c3,.slice (some ⟨rb,aE,none⟩) rs rc,c5] 29)).drew:=(br _ _).drew;have gZ:pb<(W.alloc (Obj.cells #[bo,c1,c2,c3,.slice (some ⟨rb,aE,none⟩) rs rc,c5] 29)).heap.size:=cS C kW;have bZ:rb<(W.alloc (Obj.cells #[bo,c1,c2,c3,.slice (some ⟨rb,aE,none⟩) rs rc,c5] 29)).heap.size:=cS C iw;have JD:(W.alloc (Obj.cells #[bo,c1,c2,c3,.slice (some ⟨rb,aE,none⟩) rs rc,c5] 29)).drew.cell? ⟨pb,po+a,none⟩=_:=(o.cell gZ).trans j5;have Qe:(W.alloc (Obj.cells #[bo,c1,c2,c3,.slice (some ⟨rb,aE,none⟩) rs rc,c5] 29)).drew.cell? ⟨rb,aE+r*4,none⟩=_:=(o.cell bZ).trans fo;have Qf:(W.alloc (Obj.cells #[bo,c1,c2,c3,.slice (some ⟨rb,aE,none⟩) rs rc,c5] 29)).drew.cell? ⟨rb,aE+r*4+1,none⟩=_:=(o.cell bZ).trans b8;have af:(W.alloc (Obj.cells #[bo,c1,c2,c3,.slice (some ⟨rb,aE,none⟩) rs rc,c5] 29)).drew.cell? ⟨rb,aE+r*4+2,none⟩=_:=(o.cell bZ).trans cr;have ah:(W.alloc (Obj.cells #[bo,c1,c2,c3,.slice (some ⟨rb,aE,none⟩) rs rc,c5] 29)).drew.cell? ⟨rb,aE+r*4+3,none⟩=_:=(o.cell bZ).trans ej;have ax:=G (jG.out.K o);have ap:W.heap.size<(W.alloc (Obj.cells #[bo,c1,c2,c3,.slice (some ⟨rb,aE,none⟩) rs rc,c5] 29)).drew.heap.size:=Cx;refine uH av av ?_;change wpStill _ _ (W.alloc (Obj.cells #[bo,c1,c2,c3,.slice (some ⟨rb,aE,none⟩) rs rc,c5] 29)).drew (fun a'=>Exit.then _ _ Exit.normal a' (W.alloc (Obj.cells #[bo,c1,c2,c3,.slice (some ⟨rb,aE,none⟩) rs rc,c5] 29)).drew) _ _;clear f j5 fo b8 cr ej jG E Cx o gZ bZ;generalize (W.alloc (Obj.cells #[bo,c1,c2,c3,.slice (some ⟨rb,aE,none⟩) rs rc,c5] 29)).drew=n at*;have E:=aK 4 P.g;repeat still_step
   refine rB ?_
   go_wp2
   go_region_held3 (fun X=>X.cell? ⟨W,4,none⟩=some (.slice (some ⟨rb,aE,none⟩) rs rc)/\X.cell? ⟨pb,po+a,none⟩=some (.int .i64 r)/\X.cell? ⟨rb,aE+r*4,none⟩=some (.int .i64 s)/\X.cell? ⟨rb,aE+r*4+1,none⟩=some (.string rs[r].op)/\X.cell? ⟨rb,aE+r*4+2,none⟩=some (.string rs[r].aG)/\X.cell? ⟨rb,aE+r*4+3,none⟩=some (.slice y rs[r].args.length ac)) (first|exact⟨E,JD,Qe,Qf,af,ah⟩|go_keep) (fail);have Y:hX W #[bo,c1,c2,c3,.slice (some ⟨rb,aE,none⟩) rs rc,c5] (n.alloc (.cells #[s,.string rs[r].op,.string rs[r].aG,.slice y rs[r].args.length ac] 96)).drew:=P.K ((e4 n _).drew);have tq:kz (n.alloc (.cells #[s,.string rs[r].op,.string rs[r].aG,.slice y rs[r].args.length ac] 96)).drew n 96 #[s,.string rs[r].op,.string rs[r].aG,.slice y rs[r].args.length ac]:=(kz.ee n _ _).K ((br _ _).drew);clear P E JD Qe Qf af ah ap ax;generalize (n.alloc (.cells #[s,.string rs[r].op,.string rs[r].aG,.slice y rs[r].args.length ac] 96)).drew=aq at*;generalize n.heap.size=Z at*;have ay:=G ar;have W4:=G (fun X (I:β w X)=>al.args.K I);have aw:=G Y;clear g
   go_wp2;go_loopw [2,11,12,13] (fun v i _ _ wr=>∃j t d:Nat,j<=rs[r].args.length/\i=.int .i64 j/\v=.int .i64 t/\a+1<=t/\t+d=a+1+Q/\t<=101/\Hid (gm rs (rs[r].args.drop j) (p.drop t)=some d)/\hX W #[bo,c1,c2,c3,.slice (some ⟨rb,aE,none⟩) rs rc,c5] wr/\kz wr Z 96 #[s,.string rs[r].op,.string rs[r].aG,.slice y rs[r].args.length ac]) (fun _ i _ _ _=>rs[r].args.length-(RowKit.intOf i).toNat);case atStart=>exact⟨0,a+1,Q,dx _,rfl,bG,aZ _,rfl,z,u,Y,tq⟩
   case round=>
    clear Y aw tq u;obtain⟨j,t,d,aa,rfl,rfl,fv,aA,h1,u,D,f⟩:=hrel;have dp:=aK 3 f;have aB:=c8 f;by_cases au:j<rs[r].args.length
    ·have mP:(0:Int)<=(j:Int):=z;have lF:(j:Int)<(rs[r].args.length:Int):=z;have c:=u.out;rw[Iy au]at c;obtain⟨b4,eD,F,T,hd⟩:=ayz c;rw[List.drop_drop]at T;have ad:=G T;have an:=NY rs _ _ _ F;rw[qN]at an;have hE:0<b4:=JN F;have S:=cj ay.out D.b;obtain⟨L,O,rfl,jl,oL⟩:=W4.out wr S z;have iU:=oL j au;have jH:Hid (∀X,β w X->Calls prog 195 #[.agg #[bo,c1,c2,c3,.slice (some ⟨rb,aE,none⟩) rs rc,c5],.slice (some ⟨pb,po,none⟩) p bB,t,.int .i64 rs[r].args[j]] X fun e w'=>∃B:Nat,e=.returned (.tuple #[B,.bool true])/\Hid (B=t+b4)/\β X w'):=by refine G fun X I=>?_;refine(ae.out t rs[r].args[j] b4 X z F I).mono ?_;rintro e w' ⟨aO,A⟩;exact⟨t+b4,aO,G rfl,A⟩
     obtain⟨dX,dl,dE,cH,ja,jS⟩:=f_ D.g;clear c F T u ae oL
     go_wp2
     go_region_held3 (fun X=>X.cell? ⟨W,0,none⟩=some bo/\X.cell? ⟨W,1,none⟩=some c1/\X.cell? ⟨W,2,none⟩=some c2/\X.cell? ⟨W,3,none⟩=some c3/\X.cell? ⟨W,4,none⟩=some (.slice (some ⟨rb,aE,none⟩) rs rc)/\X.cell? ⟨W,5,none⟩=some c5/\X.cell? ⟨Z,3,none⟩=some (.slice (some ⟨L,O,none⟩) rs[r].args.length ac)/\X.cell? ⟨L,O+j,none⟩=some (.int .i64 rs[r].args[j])) (first|exact⟨dX,dl,dE,cH,ja,jS,dp,iU⟩|exact⟨u0,u1,u2,u3,u4,u5,u6,u7⟩|go_keep) (first|(go_at_call 195;refine(jH.out _ (by first|exact S.drew|exact S)).mono ?_;rintro e bn ⟨B,rfl,l,bu⟩;have K:=(lh wr).trans bu;have H:=D.K K;have U:=f.K K;obtain⟨u0,u1,u2,u3,u4,u5⟩:=f_ H.g;have u6:=aK 3 U;have u7:bn.cell? ⟨L,O+j,none⟩=some (.int .i64 rs[r].args[j]):=(by rw[K.cell jl];exact iU)))
     go_wp2;go_roundw;case rel=>first|exact⟨j+1,B,eD,z,bG,rfl,by have:=l.out;omega,by have:=l.out;omega,by have:=l.out;omega,by rw[l.out];exact ad,H,U⟩|((repeat apply Exists.intro);refine⟨?_,rfl⟩;exact⟨j+1,B,eD,z,bG,rfl,by have:=l.out;omega,by have:=l.out;omega,by have:=l.out;omega,by rw[l.out];exact ad,H,U⟩)
     case measure=>simp[RowKit.intOf];omega
    ·have lF:¬(j:Int)<(rs[r].args.length:Int):=z;have c:=u.out;rw[Rk z,DE]at c;have TJ:d<=0:=by cases c;exact aZ _
     clear c u
     go_wp2;go_ret2
     exact⟨by
       have ai:t=a+(Q+1):=z
       rw[ai];rfl,D.b⟩
end Go.bh
