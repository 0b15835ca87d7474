/- ConflictAuthors. -/
import Derived.Test.YtfgcglgpfgifkaaGreatDoorP06
set_option linter.all false
set_option maxRecDepth 100000
set_option maxHeartbeats 16000000
namespace Go.aI
open Go Go.Proofs.Tryz Go.Proofs Go.RowKit Go.Lib
def wW(neg:Bool)(n S:Nat):List UInt8:=(if neg=true then [45]else [])++(decDigits (n/10^S)++(if 0<S then 46::(decDigits (10^S+n%10^S)).drop 1 else []))
theorem Cb{t:ByteArray}{n:Nat}(h:t.data.toList=decDigits n)(c:n<=1000000000000000):t.size<=1000000000000001/\1<=t.size:=by
 have H:=aaR n;have I:=Qa n n (aZ _);rw[←h,ji]at H;have H:t.size=nDigits n:=H;have b:1<=nDigits n:=by
  by_cases a:n<10
  ·rw[aaT a];omega
  ·rw[nDigits_big a];omega
 omega
theorem Ou(t:ByteArray):(t.extract 1 t.size).data.toList=t.data.toList.drop 1:=aaS t 1
theorem aDD(N:Int)(S:Nat)(w:World)(h:g1 N S)(O:0<S)(bx:S<=3)(n:Nat)(s:n=N.natAbs)(F:decide (N<0)=true):Calls prog 104 #[.agg #[.int .i64 N,.int .i64 S]] w fun e w'=>Fz (wW true n S) e/\Below w.heap.size w w':=by
 have sb:n<=1000000000000000:=by have:=h.2.2;omega
 have ag:10^S<=10^3:=ks z z;have D:0<10^S:=E5 z;have T:Hid (∀w,Calls prog 187 #[.agg #[.int .i64 N,.int .i64 S]] w fun e w'=>mX true n S e/\Below w.heap.size w w'):=fun w=>by rw[←F,s];exact wf N S w h
 have u:Hid (∀w,Calls prog 188 #[.int .i64 S] w fun e w'=>hc (10^S) e/\Below w.heap.size w w'):=fun w=>Hj S w z;clear h s F;obtain⟨P,W⟩:∃P,Hid (P=10^S):=⟨10^S,G rfl⟩;unfold wW;rw[←W.out]at u ag D⊢;have it:n/P<=n:=E2 _ _;have j_:n%P<P:=w2 _ D;obtain⟨q,t⟩:∃q,Hid (q=n/P):=⟨n/P,G rfl⟩;obtain⟨r,c⟩:∃r,Hid (r=n%P):=⟨n%P,G rfl⟩;rw[←t.out]at it⊢;rw[←c.out]at j_;rw[←c.out];have ex:0<(S:Int):=z;rw[cv O];go_enter func104,ntmps104
 go_wp2_with (first
  |(have _:=o;go_at_call 41;(with_reducible refine(C6 B L P r _ l o z z).mono ?_);rintro e a' ⟨⟨t5,rfl,H⟩,R⟩;have Y:=G (b_ iL.out R))
  |(have _:=H;go_at_call 190;(with_reducible refine(B_ t5 (P+r) _ H z).mono ?_);rintro e bq ⟨⟨b,rfl,J⟩,U⟩;have Z:=G (b_ Y.out U);have j:=Cb J z;have aa:=j.1;have ab:=j.2;have Ci:(1:Int)<=(b.size:Int):=z;have I:=Ou b;have M:=G I;clear I j;have z9:(b.extract 1 b.size).size<=1000000000000001:=bu)
  |(have _:=m;go_at_call 190;(with_reducible refine(B_ K q _ m z).mono ?_);rintro e y ⟨⟨t4,rfl,E⟩,a⟩;have iL:=G (b_ ii.out a);have lE:y.cell? ⟨d.heap.size,0,none⟩=some (.bool true):=((i.U a).br);have hg:y.cell? ⟨d.heap.size,2,none⟩=some (.int .i64 S):=((i.U a).c2);have z4:=(Cb E z).1;have oP:=i.U a)
  |(have _:=l;go_at_call 189;(with_reducible refine(yj k B n P _ X l z z z).mono ?_);rintro e bz ⟨⟨K,L,rfl,m,o⟩,x⟩;have i:=f.U x;rw[←t.out]at m;rw[←c.out]at o;have ii:=G (b_ V.out x))
  |(have _:=C;go_at_call 188;(with_reducible refine(u.out _).mono ?_);rintro e ao ⟨⟨B,rfl,l⟩,A⟩;have f:=C.U A;have cL:=f.lt;have ak:=f.c1;have V:=G ((g.out.alloc g.out.size (.cells #[.bool true,.string k,.int .i64 S] 244 (0,0))).trans (A.mono (by have:=g.out.size;simp;omega))))
  |(go_at_call 187;(with_reducible refine(T.out _).mono ?_);rintro e d ⟨⟨k,rfl,X⟩,Q⟩;have g:=G ((fH w (.cells #[.int .i64 N,.int .i64 S] 40 (0,0))).trans (Q.mono am));have C:=gQ.eI d (.bool true) (.string k) (.int .i64 S)))
 go_ret;exact⟨⟨_,rfl,by simp only[Oa,E,M.out,J];simp⟩,Z.out⟩
theorem aDE(N:Int)(w:World)(h:g1 N ((0:Nat):Int))(n:Nat)(s:n=N.natAbs)(E:decide (N<0)=true):Calls prog 104 #[.agg #[.int .i64 N,.int .i64 0]] w fun e w'=>Fz (wW true n 0) e/\Below w.heap.size w w':=by
 have sb:n<=1000000000000000:=by have:=h.2.2;omega
 have ag:10^0<=10^3:=ks z z;have D:0<10^0:=E5 z;have M:Hid (∀w,Calls prog 187 #[.agg #[.int .i64 N,.int .i64 0]] w fun e w'=>mX true n 0 e/\Below w.heap.size w w'):=fun w=>by rw[←E,s];exact wf N 0 w h
 have u:Hid (∀w,Calls prog 188 #[.int .i64 0] w fun e w'=>hc (10^0) e/\Below w.heap.size w w'):=fun w=>Hj 0 w z;clear h s E;obtain⟨P,R⟩:∃P,Hid (P=10^0):=⟨10^0,G rfl⟩;unfold wW;rw[←R.out]at u ag D⊢;have U:n/P<=n:=E2 _ _;have V:n%P<P:=w2 _ D;obtain⟨q,t⟩:∃q,Hid (q=n/P):=⟨n/P,G rfl⟩;obtain⟨r,o⟩:∃r,Hid (r=n%P):=⟨n%P,G rfl⟩;rw[←t.out]at U⊢;rw[←o.out]at V;go_enter func104,ntmps104
 go_wp2_with (first
  |(have _:=m;go_at_call 41;(with_reducible refine(C6 B J P r _ k m z z).mono ?_);rintro e Z ⟨⟨t5,rfl,F⟩,L⟩;have T:=Lib.hid (b_ iL.out L))
  |(have _:=F;go_at_call 190;(with_reducible refine(B_ t5 (P+r) _ F z).mono ?_);rintro e bq ⟨⟨b,rfl,W⟩,O⟩;have hv:=Lib.hid (b_ T.out O);have i:=Cb W z;have aa:=i.1;have ab:=i.2;have X:(1:Int)<=(b.size:Int):=z;have H:=Ou b;have Y:=Lib.hid H;clear H i;have z9:(b.extract 1 b.size).size<=1000000000000001:=bu)
  |(have _:=l;go_at_call 190;(with_reducible refine(B_ I q _ l z).mono ?_);rintro e y ⟨⟨t4,rfl,nZ⟩,a⟩;have iL:=G (b_ ii.out a);have lE:y.cell? ⟨c.heap.size,0,none⟩=some (.bool true):=((g.U a).br);have hg:y.cell? ⟨c.heap.size,2,none⟩=some (.int .i64 0):=((g.U a).c2);have z4:=(Cb nZ z).1;have oP:=g.U a)
  |(have _:=k;go_at_call 189;(with_reducible refine(yj j B n P _ S k z z z).mono ?_);rintro e bz ⟨⟨I,J,rfl,l,m⟩,x⟩;have g:=d.U x;rw[←t.out]at l;rw[←o.out]at m;have ii:=G (b_ Q.out x))
  |(have _:=C;go_at_call 188;(with_reducible refine(u.out _).mono ?_);rintro e ao ⟨⟨B,rfl,k⟩,A⟩;have d:=C.U A;have cL:=d.lt;have ak:=d.c1;have Q:=G ((f.out.alloc f.out.size (.cells #[.bool true,.string j,.int .i64 0] 244 (0,0))).trans (A.mono (by have:=f.out.size;simp;omega))))
  |(go_at_call 187;(with_reducible refine(M.out _).mono ?_);rintro e c ⟨⟨j,rfl,S⟩,K⟩;have f:=G ((fH w (.cells #[.int .i64 N,.int .i64 0] 40 (0,0))).trans (K.mono am));have C:=gQ.eI c (.bool true) (.string j) (.int .i64 0)))
 exact aj1
theorem aDB(N:Int)(S:Nat)(w:World)(h:g1 N S)(O:0<S)(bx:S<=3)(n:Nat)(s:n=N.natAbs)(F:decide (N<0)=false):Calls prog 104 #[.agg #[.int .i64 N,.int .i64 S]] w fun e w'=>Fz (wW false n S) e/\Below w.heap.size w w':=by
 have sb:n<=1000000000000000:=by have:=h.2.2;omega
 have ag:10^S<=10^3:=ks z z;have D:0<10^S:=E5 z;have T:Hid (∀w,Calls prog 187 #[.agg #[.int .i64 N,.int .i64 S]] w fun e w'=>mX false n S e/\Below w.heap.size w w'):=fun w=>by rw[←F,s];exact wf N S w h
 have u:Hid (∀w,Calls prog 188 #[.int .i64 S] w fun e w'=>hc (10^S) e/\Below w.heap.size w w'):=fun w=>Hj S w z;clear h s F;obtain⟨P,W⟩:∃P,Hid (P=10^S):=⟨10^S,G rfl⟩;unfold wW;rw[←W.out]at u ag D⊢;have it:n/P<=n:=E2 _ _;have j_:n%P<P:=w2 _ D;obtain⟨q,t⟩:∃q,Hid (q=n/P):=⟨n/P,G rfl⟩;obtain⟨r,c⟩:∃r,Hid (r=n%P):=⟨n%P,G rfl⟩;rw[←t.out]at it⊢;rw[←c.out]at j_;rw[←c.out];have ex:0<(S:Int):=z;rw[cv O];go_enter func104,ntmps104
 go_wp2_with (first
  |(have _:=o;go_at_call 41;(with_reducible refine(C6 B L P r _ l o z z).mono ?_);rintro e a' ⟨⟨t5,rfl,H⟩,R⟩;have Y:=G (b_ iL.out R))
  |(have _:=H;go_at_call 190;(with_reducible refine(B_ t5 (P+r) _ H z).mono ?_);rintro e bq ⟨⟨b,rfl,J⟩,U⟩;have Z:=G (b_ Y.out U);have j:=Cb J z;have aa:=j.1;have ab:=j.2;have Ci:(1:Int)<=(b.size:Int):=z;have I:=Ou b;have M:=G I;clear I j;have z9:(b.extract 1 b.size).size<=1000000000000001:=bu)
  |(have _:=m;go_at_call 190;(with_reducible refine(B_ K q _ m z).mono ?_);rintro e y ⟨⟨t4,rfl,E⟩,a⟩;have iL:=G (b_ ii.out a);have lE:y.cell? ⟨d.heap.size,0,none⟩=some (.bool false):=((i.U a).br);have hg:y.cell? ⟨d.heap.size,2,none⟩=some (.int .i64 S):=((i.U a).c2);have z4:=(Cb E z).1;have oP:=i.U a)
  |(have _:=l;go_at_call 189;(with_reducible refine(yj k B n P _ X l z z z).mono ?_);rintro e bz ⟨⟨K,L,rfl,m,o⟩,x⟩;have i:=f.U x;rw[←t.out]at m;rw[←c.out]at o;have ii:=G (b_ V.out x))
  |(have _:=C;go_at_call 188;(with_reducible refine(u.out _).mono ?_);rintro e ao ⟨⟨B,rfl,l⟩,A⟩;have f:=C.U A;have cL:=f.lt;have ak:=f.c1;have V:=G ((g.out.alloc g.out.size (.cells #[.bool false,.string k,.int .i64 S] 244 (0,0))).trans (A.mono (by have:=g.out.size;simp;omega))))
  |(go_at_call 187;(with_reducible refine(T.out _).mono ?_);rintro e d ⟨⟨k,rfl,X⟩,Q⟩;have g:=G ((fH w (.cells #[.int .i64 N,.int .i64 S] 40 (0,0))).trans (Q.mono am));have C:=gQ.eI d (.bool false) (.string k) (.int .i64 S)))
 go_ret;exact⟨⟨_,rfl,by simp only[Oa,E,M.out,J];simp⟩,Z.out⟩
theorem aDC(N:Int)(w:World)(h:g1 N ((0:Nat):Int))(n:Nat)(s:n=N.natAbs)(E:decide (N<0)=false):Calls prog 104 #[.agg #[.int .i64 N,.int .i64 0]] w fun e w'=>Fz (wW false n 0) e/\Below w.heap.size w w':=by
 have sb:n<=1000000000000000:=by have:=h.2.2;omega
 have ag:10^0<=10^3:=ks z z;have D:0<10^0:=E5 z;have M:Hid (∀w,Calls prog 187 #[.agg #[.int .i64 N,.int .i64 0]] w fun e w'=>mX false n 0 e/\Below w.heap.size w w'):=fun w=>by rw[←E,s];exact wf N 0 w h
 have u:Hid (∀w,Calls prog 188 #[.int .i64 0] w fun e w'=>hc (10^0) e/\Below w.heap.size w w'):=fun w=>Hj 0 w z;clear h s E;obtain⟨P,R⟩:∃P,Hid (P=10^0):=⟨10^0,G rfl⟩;unfold wW;rw[←R.out]at u ag D⊢;have U:n/P<=n:=E2 _ _;have V:n%P<P:=w2 _ D;obtain⟨q,t⟩:∃q,Hid (q=n/P):=⟨n/P,G rfl⟩;obtain⟨r,o⟩:∃r,Hid (r=n%P):=⟨n%P,G rfl⟩;rw[←t.out]at U⊢;rw[←o.out]at V;go_enter func104,ntmps104
 go_wp2_with (first
  |(have _:=m;go_at_call 41;(with_reducible refine(C6 B J P r _ k m z z).mono ?_);rintro e Z ⟨⟨t5,rfl,F⟩,L⟩;have T:=Lib.hid (b_ iL.out L))
  |(have _:=F;go_at_call 190;(with_reducible refine(B_ t5 (P+r) _ F z).mono ?_);rintro e bq ⟨⟨b,rfl,W⟩,O⟩;have hv:=Lib.hid (b_ T.out O);have i:=Cb W z;have aa:=i.1;have ab:=i.2;have X:(1:Int)<=(b.size:Int):=z;have H:=Ou b;have Y:=Lib.hid H;clear H i;have z9:(b.extract 1 b.size).size<=1000000000000001:=bu)
  |(have _:=l;go_at_call 190;(with_reducible refine(B_ I q _ l z).mono ?_);rintro e y ⟨⟨t4,rfl,nZ⟩,a⟩;have iL:=G (b_ ii.out a);have lE:y.cell? ⟨c.heap.size,0,none⟩=some (.bool false):=((g.U a).br);have hg:y.cell? ⟨c.heap.size,2,none⟩=some (.int .i64 0):=((g.U a).c2);have z4:=(Cb nZ z).1;have oP:=g.U a)
  |(have _:=k;go_at_call 189;(with_reducible refine(yj j B n P _ S k z z z).mono ?_);rintro e bz ⟨⟨I,J,rfl,l,m⟩,x⟩;have g:=d.U x;rw[←t.out]at l;rw[←o.out]at m;have ii:=G (b_ Q.out x))
  |(have _:=C;go_at_call 188;(with_reducible refine(u.out _).mono ?_);rintro e ao ⟨⟨B,rfl,k⟩,A⟩;have d:=C.U A;have cL:=d.lt;have ak:=d.c1;have Q:=G ((f.out.alloc f.out.size (.cells #[.bool false,.string j,.int .i64 0] 244 (0,0))).trans (A.mono (by have:=f.out.size;simp;omega))))
  |(go_at_call 187;(with_reducible refine(M.out _).mono ?_);rintro e c ⟨⟨j,rfl,S⟩,K⟩;have f:=G ((fH w (.cells #[.int .i64 N,.int .i64 0] 40 (0,0))).trans (K.mono am));have C:=gQ.eI c (.bool false) (.string j) (.int .i64 0)))
 exact aj1
theorem aDA(N:Int)(S:Nat)(w:World)(h:g1 N S)(b:S<=3):Calls prog 104 #[.agg #[.int .i64 N,.int .i64 S]] w fun e w'=>Fz (wW (decide (N<0)) N.natAbs S) e/\Below w.heap.size w w':=by
 by_cases a:N<0
 ·have hd:decide (N<0)=true:=by simp[a]
  rw[hd];by_cases ab:0<S
  ·exact aDD N S w h ab b _ rfl hd
  ·obtain rfl:S=0:=z;exact aDE N w h _ rfl hd
 ·have hd:decide (N<0)=false:=by simp[a]
  rw[hd];by_cases ab:0<S
  ·exact aDB N S w h ab b _ rfl hd
  ·obtain rfl:S=0:=z;exact aDC N w h _ rfl hd
def I1(e:Ending):Prop:=∃(N:Int) (S:Nat),e=.returned (.tuple #[.agg #[.int .i64 N,.int .i64 S],.bool true])/\g1 N S/\S<=3
theorem gQ.aBW{W:World}{b:Nat}{x y ae:Value}(h:gQ W b x y ae)(u:Value):gQ (W.setCell ⟨b,1,none⟩ u) b x u ae:=by
 refine⟨?_⟩;simp[World.setCell,RB,h.h]
theorem gQ.aBX{W:World}{b:Nat}{x y ae:Value}(h:gQ W b x y ae)(u:Value):gQ (W.setCell ⟨b,2,none⟩ u) b x y u:=by
 refine⟨?_⟩;simp[World.setCell,RB,h.h]
structure p7 (w wr:World) (bN bF:Nat) (neg:Bool) (n k:Nat) (t:ByteArray):Prop where
 x:gQ wr bN (.bool neg) (.string t) (.int .i64 k)
 r:wr.heap[bF]? =some (.cells #[.int .i64 0,.int .i64 0] 40 (0,0))
 t:dm t n
 n:n<=1000000000000000
 k:k<=3
 b:Below w.heap.size w wr
 g:w.heap.size<=bN/\w.heap.size<=bF/\bN<bF
theorem p7.U{w wr w':World}{c b:Nat}{neg:Bool}{n k:Nat}{t:ByteArray}(a:p7 w wr c b neg n k t)(h:Below wr.heap.size wr w'):p7 w w' c b neg n k t:=
 ⟨a.x.U h,(h.block b (hl.1 a.r).1).trans a.r,a.t,a.n,a.k,b_ a.b h,a.g⟩
theorem p7.drew{w wr:World}{b a:Nat}{neg:Bool}{n k:Nat}{t:ByteArray}(c:p7 w wr b a neg n k t):p7 w wr.drew b a neg n k t:=c.U ((bi _ _).drew)
theorem p7.step{w wr:World}{b c:Nat}{neg:Bool}{n k d m:Nat}{t u:ByteArray}(a:p7 w wr b c neg n k t)(hu:dm u m)(e:m<=n)(f:d+1=k):p7 w ((wr.setCell ⟨b,1,none⟩ (.string u)).setCell ⟨b,2,none⟩ (.int .i64 (d:Nat))) b c neg m d u:=
 ⟨(a.x.aBW _).aBX _,by rw[hm _ _ _ _ (by have:=a.g;show c≠b;omega),hm _ _ _ _ (by have:=a.g;show c≠b;omega)];exact a.r,hu,db e a.n,by have:=a.k;omega,(a.b.setCell (p:=⟨b,1,none⟩) a.g.1 _).setCell (p:=⟨b,2,none⟩) a.g.1 _,a.g⟩
theorem QT{n k:Nat}(neg:Bool)(c:n<=1000000000000000)(b:k<=3)(h:k=0∨n%10≠0)(N:Int)(a:N=if neg=true then-(n:Int)else n):g1 N k:=by
 refine⟨z,z,?_,?_,?_⟩
 ·rw[a];split<;>omega
 ·rw[a];split<;>omega
 ·rcases h with h|h
  ·left;omega
  ·right;rw[a];split
   ·rw[Int.neg_tmod];show ¬ -(((n%10:Nat)):Int)=0;omega
   ·show ¬(((n%10:Nat)):Int)=0;omega
theorem UN(a:ByteArray)(n s:Nat)(w:World)(A:dm a n)(B:n<=1000000000000000)(y:s<=3):Calls prog 285 #[.agg #[.bool true,.string a,.int .i64 s]] w fun e w'=>I1 e/\Below w.heap.size w w':=by
 have r:Hid (∀w,Calls prog 86 #[.int .i64 10] w fun e w'=>hc 10 e/\Below w.heap.size w w'):=fun w=>pe 10 w z;have T:=kZ w (.cells #[.bool true,.string a,.int .i64 s] 244 (0,0)) (.cells #[.int .i64 0,.int .i64 0] 40 (0,0));have D:Hid (p7 w ((w.alloc (.cells #[.bool true,.string a,.int .i64 s] 244 (0,0))).alloc (.cells #[.int .i64 0,.int .i64 0] 40 (0,0))) w.heap.size (w.heap.size+1) true n s a):=⟨⟨T.p⟩,T.q,A,B,y,T.h,z,z,z⟩;clear T A B y;go_enter func285,ntmps285
 go_wp2;generalize (w.alloc (.cells #[.bool true,.string a,.int .i64 s] 244 (0,0))).alloc (.cells #[.int .i64 0,.int .i64 0] 40 (0,0))=R at*;obtain⟨bF,j⟩:∃bF,bF=w.heap.size+1:=⟨_,rfl⟩;obtain⟨c,o⟩:∃c,c=w.heap.size:=⟨_,rfl⟩;rw[←j,←o]at D;rw[←j,←o];clear o j;go_loopw [4,5,6] (fun _ _ _ wr=>∃(m k:Nat) (t:ByteArray),p7 w wr c bF true m k t/\k<=s) (fun _ _ _ wr=>match wr.cell? ⟨c,2,none⟩with|some (.int _ k)=>k.toNat|_=>0);case atStart=>exact⟨n,s,a,D.out,aZ _⟩
 case round=>
  obtain⟨m,k,t,d,V⟩:=hrel;have l:=G d;have c1:=d.x.c1;have c2:=d.x.c2;have q:Hid (∀f w,dm f 10->Calls prog 189 #[.string t,.string f] w fun e w'=>I3 m 10 e/\Below w.heap.size w w'):=fun f w I=>yj t f m 10 w d.t I (by have:=d.n;omega) z z;have X:=d.n;clear d;by_cases P:0<k
  ·have J:0<(k:Int):=z;obtain⟨e5,mD⟩:∃e5,e5+1=k:=⟨k-1,z⟩;have U:(k:Int)-1=(e5:Int):=z
   go_wp2
   go_region_held3 (fun W=>W.cell? ⟨c,1,none⟩=some (.string t)) (first|exact c1|exact ak|exact L|go_keep) (first|(have _:=C;go_at_call 189;(with_reducible refine(q.out f _ C).mono ?_);rintro e S ⟨⟨ep,eq,rfl,uf,jl⟩,E⟩;have ct:=G (u.out.U E);have L:=ct.out.x.c1)|(go_at_call 86;(with_reducible refine(r.out _).mono ?_);rintro e Q ⟨⟨f,rfl,C⟩,j⟩;have u:=G (l.out.drew.U j);have ak:=u.out.x.c1));by_cases ax:m%10=0
   ·exact ajn
   ·have nB:=GX jl z;have j_:0<(eq.size:Int):=z;have vS:Hid (k=0∨m%10≠0):=.inr ax;obtain⟨fu,b'⟩:=jK ct.out.r;obtain⟨z0,cy⟩:=nR ct.out.r;have N:=ct.out.x.br;have H:=ct.out.x.c1;have K:=ct.out.x.c2;have eV:(k:Int)<=6:=(by have:=ct.out.k;omega);have O:(m:Int)<=1000000000000000:=(by have:=ct.out.n;omega);have F:c≠bF:=(by have:=ct.out.g;omega);have M:bF≠c:=(by have:=ct.out.g;omega);clear r q l u;exact aje
  ·have J:¬0<(k:Int):=z;have vS:Hid (k=0∨m%10≠0):=.inl z;have ct:=l;obtain⟨fu,b'⟩:=jK ct.out.r;obtain⟨z0,cy⟩:=nR ct.out.r;have N:=ct.out.x.br;have H:=ct.out.x.c1;have K:=ct.out.x.c2;have eV:(k:Int)<=6:=(by have:=ct.out.k;omega);have O:(m:Int)<=1000000000000000:=(by have:=ct.out.n;omega);have F:c≠bF:=(by have:=ct.out.g;omega);have M:bF≠c:=(by have:=ct.out.g;omega);clear r q l;exact aje
theorem UM(a:ByteArray)(n s:Nat)(w:World)(A:dm a n)(B:n<=1000000000000000)(y:s<=3):Calls prog 285 #[.agg #[.bool false,.string a,.int .i64 s]] w fun e w'=>I1 e/\Below w.heap.size w w':=by
 have r:Hid (∀w,Calls prog 86 #[.int .i64 10] w fun e w'=>hc 10 e/\Below w.heap.size w w'):=fun w=>pe 10 w z;have T:=kZ w (.cells #[.bool false,.string a,.int .i64 s] 244 (0,0)) (.cells #[.int .i64 0,.int .i64 0] 40 (0,0));have D:Hid (p7 w ((w.alloc (.cells #[.bool false,.string a,.int .i64 s] 244 (0,0))).alloc (.cells #[.int .i64 0,.int .i64 0] 40 (0,0))) w.heap.size (w.heap.size+1) false n s a):=⟨⟨T.p⟩,T.q,A,B,y,T.h,z,z,z⟩;clear T A B y;go_enter func285,ntmps285
 go_wp2;generalize (w.alloc (.cells #[.bool false,.string a,.int .i64 s] 244 (0,0))).alloc (.cells #[.int .i64 0,.int .i64 0] 40 (0,0))=R at*;obtain⟨bF,j⟩:∃bF,bF=w.heap.size+1:=⟨_,rfl⟩;obtain⟨c,o⟩:∃c,c=w.heap.size:=⟨_,rfl⟩;rw[←j,←o]at D;rw[←j,←o];clear o j;go_loopw [4,5,6] (fun _ _ _ wr=>∃(m k:Nat) (t:ByteArray),p7 w wr c bF false m k t/\k<=s) (fun _ _ _ wr=>match wr.cell? ⟨c,2,none⟩with|some (.int _ k)=>k.toNat|_=>0);case atStart=>exact⟨n,s,a,D.out,aZ _⟩
 case round=>
  obtain⟨m,k,t,d,V⟩:=hrel;have l:=G d;have c1:=d.x.c1;have c2:=d.x.c2;have q:Hid (∀f w,dm f 10->Calls prog 189 #[.string t,.string f] w fun e w'=>I3 m 10 e/\Below w.heap.size w w'):=fun f w I=>yj t f m 10 w d.t I (by have:=d.n;omega) z z;have X:=d.n;clear d;by_cases P:0<k
  ·have J:0<(k:Int):=z;obtain⟨e5,mD⟩:∃e5,e5+1=k:=⟨k-1,z⟩;have U:(k:Int)-1=(e5:Int):=z
   go_wp2
   go_region_held3 (fun W=>W.cell? ⟨c,1,none⟩=some (.string t)) (first|exact c1|exact ak|exact L|go_keep) (first|(have _:=C;go_at_call 189;(with_reducible refine(q.out f _ C).mono ?_);rintro e S ⟨⟨ep,eq,rfl,uf,jl⟩,E⟩;have ct:=G (u.out.U E);have L:=ct.out.x.c1)|(go_at_call 86;(with_reducible refine(r.out _).mono ?_);rintro e Q ⟨⟨f,rfl,C⟩,j⟩;have u:=G (l.out.drew.U j);have ak:=u.out.x.c1));by_cases ax:m%10=0
   ·exact ajn
   ·have nB:=GX jl z;have j_:0<(eq.size:Int):=z;have vS:Hid (k=0∨m%10≠0):=.inr ax;obtain⟨fu,b'⟩:=jK ct.out.r;obtain⟨z0,cy⟩:=nR ct.out.r;have N:=ct.out.x.br;have H:=ct.out.x.c1;have K:=ct.out.x.c2;have eV:(k:Int)<=6:=(by have:=ct.out.k;omega);have O:(m:Int)<=1000000000000000:=(by have:=ct.out.n;omega);have F:c≠bF:=(by have:=ct.out.g;omega);have M:bF≠c:=(by have:=ct.out.g;omega);clear r q l u;exact aj8
  ·have J:¬0<(k:Int):=z;have vS:Hid (k=0∨m%10≠0):=.inl z;have ct:=l;obtain⟨fu,b'⟩:=jK ct.out.r;obtain⟨z0,cy⟩:=nR ct.out.r;have N:=ct.out.x.br;have H:=ct.out.x.c1;have K:=ct.out.x.c2;have eV:(k:Int)<=6:=(by have:=ct.out.k;omega);have O:(m:Int)<=1000000000000000:=(by have:=ct.out.n;omega);have F:c≠bF:=(by have:=ct.out.g;omega);have M:bF≠c:=(by have:=ct.out.g;omega);clear r q l;exact aj8
theorem aoq(neg:Bool)(a:ByteArray)(n s:Nat)(w:World)(c:dm a n)(d:n<=1000000000000000)(b:s<=3):Calls prog 285 #[.agg #[.bool neg,.string a,.int .i64 s]] w fun e w'=>I1 e/\Below w.heap.size w w':=by
 cases neg
 ·exact UM a n s w c d b
 ·exact UN a n s w c d b
theorem ayg(N:Int)(s:Nat)(w:World)(ab: -1000000000000000<=N)(H:N<=1000000000000000)(g:s<=3):Calls prog 182 #[.int .i64 N,.int .i64 s] w fun e w'=>I1 e/\Below w.heap.size w w':=by
 have m:=G fun w=>akk N w z z;have l:Hid (∀t w,dm t N.natAbs->Calls prog 285 #[.agg #[.bool (decide (N<0)),.string t,.int .i64 s]] w fun e w'=>I1 e/\Below w.heap.size w w'):=fun t w ah=>aoq _ t N.natAbs s w ah z g;have B:¬(s:Int)<0:=z;have C:(s:Int)<=18:=z;go_enter func182,ntmps182
 go_wp2_with (first
  |(have _:=c;go_at_call 285;(with_reducible refine(l.out y _ c).mono ?_);rintro e i ⟨⟨u,r,rfl,q,n⟩,b⟩;have x:=G (b_ o.out b);have f:i.heap[w.heap.size]? =some (.cells #[.int .i64 0,.int .i64 0] 40 (0,0)):=((b.block _ (hl.1 d).1).trans d);obtain⟨fu,k⟩:=jK f;obtain⟨z0,A⟩:=nR f)
  |(go_at_call 286;(with_reducible refine(m.out _).mono ?_);rintro e j ⟨⟨y,rfl,c⟩,a⟩;have o:=G ((fH w (.cells #[.int .i64 0,.int .i64 0] 40 (0,0))).trans (a.mono am));have d:j.heap[w.heap.size]? =some (.cells #[.int .i64 0,.int .i64 0] 40 (0,0)):=((a.block _ am).trans (da w _))))
 refine fL (by simp[results,results182,go_sem,fu,k];rfl) rfl ?_;exact⟨⟨u,r,rfl,q,n⟩,(x.out.setCell (p:=⟨w.heap.size,0,none⟩) (aZ _) _).setCell (p:=⟨w.heap.size,1,none⟩) (aZ _) _⟩
end Go.aI
namespace Go.aI
open Go Go.Proofs Go.RowKit
structure fP (g:Nat) (w w':World):Prop where
 os:w'.os=w.os
 tape:w'.tape=w.tape
 output:w'.output=w.output
 size:w.heap.size<=w'.heap.size
 block:∀k,k<w.heap.size->k≠g->w'.heap[k]? =w.heap[k]?
theorem fP.trans{g:Nat}{a b c:World}(h:fP g a b)(k:fP g b c):fP g a c:=
 ⟨k.os.trans h.os,k.tape.trans h.tape,k.output.trans h.output,db h.size k.size,fun r d e=>(k.block r (iz d h.size) e).trans (h.block r d e)⟩
theorem fP.U{g:Nat}{a b:World}(h:Below a.heap.size a b):fP g a b:=⟨h.os,h.tape,h.output,h.size,fun r c _=>h.block r c⟩
end Go.aI
namespace Go.aI
open Go Go.Proofs.Tryz Go.Proofs Go.RowKit Go.Lib
theorem pU(w:World)(b:Nat)(a:Option Addr)(len:Nat)(n:Int)(g:0<n)(A:n<=2000000000000001)(f:len<=maxLen)(h:ef w b a len):Calls prog 16 #[.pointer (some ⟨b,0,none⟩),.int .i64 n] w fun e w'=>sK n e/\ef w' b a len/\fP b w w':=
 (pT w b a len n g A f h).mono fun e w' ⟨H,I,m,d,i,l,j⟩=>⟨H,I,⟨i,l,j,z,fun k _ c=>d k c⟩⟩
theorem fP.refl(g:Nat)(w:World):fP g w w:=⟨rfl,rfl,rfl,aZ _,fun _ _ _=>rfl⟩
theorem fP.alloc{g:Nat}{w w':World}(h:fP g w w')(o:Obj):fP g w (w'.alloc o):=h.trans (fP.U ((bi _ _).alloc (aZ _) o))
theorem fP.cells{g b:Nat}{w w':World}(h:fP g w w')(a:b≠g){cs:Array Value}{t:TypeId}(A:w.heap[b]? =some (.cells cs t (0,0))):w'.heap[b]? =some (.cells cs t (0,0)):=(h.block b (hl.1 A).1 a).trans A
theorem fP.pi{g b:Nat}{w w':World}(h:fP g w w')(A:w.heap.size<=b)(i:Nat)(u:Value):fP g w (w'.setCell ⟨b,i,none⟩ u):=by
 have a:=(bi 0 w').setCell (p:=⟨b,i,none⟩) (dq _) u;exact⟨a.os.trans h.os,a.tape.trans h.tape,a.output.trans h.output,db h.size am,fun k c d=>by rw[hm _ _ _ _ (by show k≠b;omega)];exact h.block k c d⟩
def acZ(e:Ending):Prop:=∃(N:Int) (S:Nat),e=.returned (.agg #[.int .i64 N,.int .i64 S])/\g1 N S/\S<=3
theorem ef.pi{w w':World}{b r:Nat}{a:Option Addr}{n:Nat}(h:ef w b a n)(q:ef w' b a n)(z:w.heap.size<=r)(i:Nat)(u:Value):ef (w'.setCell ⟨r,i,none⟩ u) b a n:=by
 obtain⟨c,D,H,I,p⟩:=h;obtain⟨s,k,l,d,C⟩:=q;have A:=(hl.1 H).1;refine⟨s,k,by rw[hm _ _ _ _ (by show b≠r;omega)];exact l,?_,p⟩;rcases I with I|⟨f,ee,rfl,I⟩
 ·exact .inl I
 ·rcases d with d|⟨t,B,e,d⟩
  ·exact .inl d
  ·cases e;refine .inr ⟨f,ee,rfl,fun j g=>?_⟩;obtain⟨x,m⟩:=I j g;obtain⟨y,o⟩:=d j g;have aq:=aaZ w _ m;have aq:f<w.heap.size:=aq;exact⟨y,by rw[←o];exact mO (w:=w') (hm _ _ _ _ (by show f≠r;omega))⟩
structure rL (w w':World) (b:Nat) (a:Option Addr) (len r:Nat) (cs:Array Value) (ty:TypeId):Prop where
 n:ef w' b a len
 s:fP b w w'
 r:w'.heap[r]? =some (.cells cs ty (0,0))
theorem rL.yp{w e c:World}{b r:Nat}{a:Option Addr}{len:Nat}{cs:Array Value}{ty:TypeId}(h:rL w e b a len r cs ty)(g:ef c b a len)(d:fP b e c)(f:r≠b):rL w c b a len r cs ty:=⟨g,h.s.trans d,d.cells f h.r⟩
theorem rL.U{w c d:World}{b r:Nat}{a:Option Addr}{len:Nat}{cs:Array Value}{ty:TypeId}(h:rL w c b a len r cs ty)(A:Below c.heap.size c d):rL w d b a len r cs ty:=⟨h.n.U A,h.s.trans (fP.U A),(A.block r (hl.1 h.r).1).trans h.r⟩
theorem rL.alloc{w c:World}{b r:Nat}{a:Option Addr}{len:Nat}{cs:Array Value}{ty:TypeId}(h:rL w c b a len r cs ty)(o:Obj):rL w (c.alloc o) b a len r cs ty:=h.U ((bi _ _).alloc (aZ _) o)
theorem rL.eI{w:World}{b:Nat}{a:Option Addr}{len:Nat}(h:ef w b a len)(cs:Array Value)(ty:TypeId):rL w (w.alloc (.cells cs ty (0,0))) b a len w.heap.size cs ty:=⟨h.alloc _,(fP.refl b w).alloc _,da w _⟩
theorem Uc(w:World)(b:Nat)(a:Option Addr)(len:Nat)(d:len<=maxLen)(h:ef w b a len):Calls prog 99 #[.pointer (some ⟨b,0,none⟩)] w fun e w'=>acZ e/\ef w' b a len/\fP b w w':=by
 have I:Hid (∀w,ef w b a len->Calls prog 16 #[.pointer (some ⟨b,0,none⟩),.int .i64 2001] w fun e w'=>sK 2001 e/\ef w' b a len/\fP b w w'):=fun w c=>pU w b a len 2001 z z d c;have F:Hid (∀w,ef w b a len->Calls prog 16 #[.pointer (some ⟨b,0,none⟩),.int .i64 8] w fun e w'=>sK 8 e/\ef w' b a len/\fP b w w'):=fun w c=>pU w b a len 8 z z d c;have N:Hid (∀w,ef w b a len->Calls prog 16 #[.pointer (some ⟨b,0,none⟩),.int .i64 2000000000000001] w fun e w'=>sK 2000000000000001 e/\ef w' b a len/\fP b w w'):=fun w c=>pU w b a len 2000000000000001 z z d c;have q:Hid (∀w,ef w b a len->Calls prog 16 #[.pointer (some ⟨b,0,none⟩),.int .i64 4] w fun e w'=>sK 4 e/\ef w' b a len/\fP b w w'):=fun w c=>pU w b a len 4 z z d c;have o:=G h;have u:=G (rL.eI h #[.int .i64 0,.int .i64 0] 40);have f:Hid (w.heap.size≠b):=(by have:=h.lt;show w.heap.size≠b;omega);clear h d;go_enter func99,ntmps99
 go_wp2_with (first
  |(go_at_call 16;(with_reducible refine(I.out _ u.out.n).mono ?_);rintro e X ⟨⟨Z,j_,S,rfl⟩,K,J⟩;have k:=G (u.out.yp K J f.out);have U:=k)
  |(go_at_call 16;(with_reducible refine(F.out _ k.out.n).mono ?_);rintro e W ⟨⟨dt,pa,Y,rfl⟩,L,O⟩;have j:=G (k.out.yp L O f.out))
  |(go_at_call 16;(with_reducible refine(N.out _ j.out.n).mono ?_);rintro e bz ⟨⟨eq,jl,V,rfl⟩,M,P⟩;have t:=G (j.out.yp M P f.out))
  |(go_at_call 16;(with_reducible refine(q.out _ t.out.n).mono ?_);rintro e H ⟨⟨g,Q,x,rfl⟩,l,m⟩;have n:=G (t.out.yp l m f.out);obtain⟨r,rfl⟩:∃s:Nat,g=(s:Int):=⟨g.toNat,z⟩)
  |(go_at_call 16;(with_reducible refine(q.out _ j.out.n).mono ?_);rintro e H ⟨⟨g,Q,x,rfl⟩,l,m⟩;have n:=G (j.out.yp l m f.out);obtain⟨r,rfl⟩:∃s:Nat,g=(s:Int):=⟨g.toNat,z⟩)
  |(go_at_call 182;refine(ayg _ r _ z z z).mono ?_;rintro e T ⟨⟨y,A,rfl,B,R⟩,E⟩;have i:=G (n.out.U E);obtain⟨fV,D⟩:=jK i.out.r;obtain⟨z0,cy⟩:=nR i.out.r;have C:=(hl.1 i.out.r).1))
 all_goals
  refine fL (by simp[results,results99,go_sem,fV,D,C];rfl) rfl ?_;exact⟨⟨y,A,rfl,B,R⟩,(o.out.pi (o.out.pi i.out.n (aZ _) 0 _) (aZ _) 1 _).alloc _,((i.out.s.pi (aZ _) 0 _).pi (aZ _) 1 _).alloc _⟩
def asn(N:Int):Value:=.agg #[.int .i64 3,.string ⟨#[]⟩,.int .i64 0,.int .i64 0,.int .i64 N,.slice none 0 0,.slice none 0 0]
def azb(N:Int)(S:Nat):Value:=.agg #[.int .i64 2,.string ⟨#[]⟩,.int .i64 N,.int .i64 S,.int .i64 0,.slice none 0 0,.slice none 0 0]
def apO(e:Ending):Prop:=∃N:Int,e=.returned (asn N)/\0<=N/\N<=3652058
def apZ(e:Ending):Prop:=∃(N:Int) (S:Nat),e=.returned (azb N S)/\g1 N S/\S<=3
abbrev aaM:Array Value:=#[.int .i64 0,.string ⟨#[]⟩,.int .i64 0,.int .i64 0,.int .i64 0,.slice none 0 0,.slice none 0 0]
theorem ef.Ae{w w':World}{b:Nat}{a:Option Addr}{n:Nat}(h:ef w b a n)(c:ef w' b a n)(u0 u1 u2 u3 u4 u5 u6:Value):ef (((((((w'.setCell ⟨w.heap.size,0,none⟩ u0).setCell ⟨w.heap.size,1,none⟩ u1).setCell ⟨w.heap.size,2,none⟩ u2).setCell ⟨w.heap.size,3,none⟩ u3).setCell ⟨w.heap.size,4,none⟩ u4).setCell ⟨w.heap.size,5,none⟩ u5).setCell ⟨w.heap.size,6,none⟩ u6) b a n:=
 h.pi (h.pi (h.pi (h.pi (h.pi (h.pi (h.pi c (aZ _) 0 _) (aZ _) 1 _) (aZ _) 2 _) (aZ _) 3 _) (aZ _) 4 _) (aZ _) 5 _) (aZ _) 6 _
theorem fP.Ae{g:Nat}{w w':World}(h:fP g w w')(u0 u1 u2 u3 u4 u5 u6:Value):fP g w (((((((w'.setCell ⟨w.heap.size,0,none⟩ u0).setCell ⟨w.heap.size,1,none⟩ u1).setCell ⟨w.heap.size,2,none⟩ u2).setCell ⟨w.heap.size,3,none⟩ u3).setCell ⟨w.heap.size,4,none⟩ u4).setCell ⟨w.heap.size,5,none⟩ u5).setCell ⟨w.heap.size,6,none⟩ u6):=
 ((((((h.pi (aZ _) 0 _).pi (aZ _) 1 _).pi (aZ _) 2 _).pi (aZ _) 3 _).pi (aZ _) 4 _).pi (aZ _) 5 _).pi (aZ _) 6 _
theorem aEM(w:World)(b:Nat)(a:Option Addr)(len:Nat)(f:len<=maxLen)(h:ef w b a len):Calls prog 49 #[.pointer (some ⟨b,0,none⟩),.int .i64 3] w fun e w'=>apO e/\ef w' b a len/\fP b w w':=by
 have q:Hid (∀w,ef w b a len->Calls prog 16 #[.pointer (some ⟨b,0,none⟩),.int .i64 1000] w fun e w'=>sK 1000 e/\ef w' b a len/\fP b w w'):=fun w d=>pU w b a len 1000 z z f d;have o:Hid (∀w,ef w b a len->Calls prog 16 #[.pointer (some ⟨b,0,none⟩),.int .i64 8] w fun e w'=>sK 8 e/\ef w' b a len/\fP b w w'):=fun w d=>pU w b a len 8 z z f d;have E:Hid (∀w,ef w b a len->Calls prog 16 #[.pointer (some ⟨b,0,none⟩),.int .i64 3652059] w fun e w'=>sK 3652059 e/\ef w' b a len/\fP b w w'):=fun w d=>pU w b a len 3652059 z z f d;have k:=G h;have l:=G (rL.eI h aaM 44);have i:Hid (w.heap.size≠b):=(by have:=h.lt;show w.heap.size≠b;omega);clear h f;go_enter func49,ntmps49
 go_wp2_with (first
  |(go_at_call 16;(with_reducible refine(q.out _ l.out.n).mono ?_);rintro e T ⟨⟨m,j_,Q,rfl⟩,t,s⟩;have j:=G (l.out.yp t s i.out))
  |(go_at_call 16;(with_reducible refine(o.out _ j.out.n).mono ?_);rintro e S ⟨⟨dt,pa,U,rfl⟩,C,J⟩;have c:=G (j.out.yp C J i.out);obtain⟨fV,n,r,y,K,P,N⟩:=eU c.out.r;obtain⟨z0,X,dv,z3,z4,z5,eP⟩:=gI c.out.r)
  |(go_at_call 16;(with_reducible refine(E.out _ c.out.n).mono ?_);rintro e V ⟨⟨A,I,R,rfl⟩,D,O⟩;have g:=G (c.out.yp D O i.out);obtain⟨B,u,x,F,H,L,M⟩:=eU g.out.r;obtain⟨el,Z,Y,W,ko,kp,nI⟩:=gI g.out.r))
 ·refine fL (by simp[results,results49,go_sem,B,u,x,F,H,L,M];rfl) rfl ?_;exact⟨⟨A,rfl,I,z⟩,k.out.Ae g.out.n _ _ _ _ _ _ _,g.out.s.Ae _ _ _ _ _ _ _⟩
 ·refine fL (by simp[results,results49,go_sem,fV,n,r,y,K,P,N];rfl) rfl ?_;exact⟨⟨738000+m,rfl,z,z⟩,k.out.Ae c.out.n _ _ _ _ _ _ _,c.out.s.Ae _ _ _ _ _ _ _⟩
theorem aEO(w:World)(b:Nat)(a:Option Addr)(len:Nat)(d:len<=maxLen)(h:ef w b a len):Calls prog 49 #[.pointer (some ⟨b,0,none⟩),.int .i64 2] w fun e w'=>apZ e/\ef w' b a len/\fP b w w':=by
 have j:Hid (∀w,ef w b a len->Calls prog 99 #[.pointer (some ⟨b,0,none⟩)] w fun e w'=>acZ e/\ef w' b a len/\fP b w w'):=fun w g=>Uc w b a len d g;have r:=G h;have f:=G (rL.eI h aaM 44);have i:Hid (w.heap.size≠b):=(by have:=h.lt;show w.heap.size≠b;omega);clear h d;go_enter func49,ntmps49
 go_wp2_with (first
  |(go_at_call 99;(with_reducible refine(j.out _ f.out.n).mono ?_);rintro e A ⟨⟨m,l,rfl,o,k⟩,s,z⟩;have c:=G (f.out.yp s z i.out);obtain⟨q,n,p,t,u,x,y⟩:=eU c.out.r;obtain⟨E,D,C,B,F,H,I⟩:=gI c.out.r))
 refine fL (by simp[results,results49,go_sem,q,n,p,t,u,x,y];rfl) rfl ?_;exact⟨⟨m,l,rfl,o,k⟩,r.out.Ae c.out.n _ _ _ _ _ _ _,c.out.s.Ae _ _ _ _ _ _ _⟩
end Go.aI
namespace Go.b3
open Go Go.Proofs.Tryz Go.Proofs Go.RowKit Go.Lib Go.aI
theorem an_:(prog.info? 5).map (fun i=>(i.zero,i.size,i.bytes))=some (some (.int .u8 0),1,1):=au
def Am:List ByteArray:=[⟨#[]⟩,⟨#[97]⟩,⟨#[98]⟩,⟨#[97,98]⟩,⟨#[105,116,39,115]⟩,⟨#[50,48,50,52,45,48,49,45,51,49]⟩,⟨#[49,50]⟩,⟨#[45,51,46,53]⟩,⟨#[65,124,66,44,91,99,93,59]⟩,⟨#[78,111,114,116,104,32,55]⟩,⟨#[120,32,121]⟩,⟨#[39,39]⟩,⟨#[97,98,99,97,98,99]⟩,⟨#[48]⟩,⟨#[55,46,50,53]⟩]
theorem aES:∀s∈Am,j5 s:=by
 have h:∀s∈Am,s.data.toList.length<=200/\∀c∈s.data.toList,32<=c.toNat/\c.toNat<=126:=ai;intro s a;have:=h s a;exact qW.Ai (l:=s.data.toList) this.2 this.1
def aqc(w:World)(e:Ending)(w':World):Prop:=∃c:Nat,e=.returned (.slice (some ⟨w.heap.size,0,none⟩) 15 c)/\Below w.heap.size w w'/\∀k (a:k<15),w'.cell? ⟨w.heap.size,k,none⟩=some (.string (Am[k]'a))
theorem aEU(w:World):Calls prog 181 #[] w fun e w'=>aqc w e w':=by
 have b:Below w.heap.size w (w.alloc (.cells (Am.map Value.string).toArray 9)):=(bi _ _).alloc (aZ _) _;have c:∀k (a:k<15),(w.alloc (.cells (Am.map Value.string).toArray 9)).cell? ⟨w.heap.size,k,none⟩=some (.string (Am[k]'a)):=fun k a=>by have h:=da w (.cells (Am.map Value.string).toArray 9);simp only[World.cell?,h];rw[RL,pn,ln (show k<Am.length from a)];rfl
 go_enter func181,ntmps181
 go_wp2;go_ret;exact⟨_,rfl,b,c⟩
theorem az6{w w':World}{base b:Nat}{e:TypeId}{size:Nat}{v:Value}{n:Nat}{aK:List Value}(h:w.ownsRow base e size v n aK)(d:fP b w w')(A:b<base):w'.ownsRow base e size v n aK:=by
 obtain⟨i,a⟩:=h;refine⟨i,?_⟩;rcases a with a|⟨g,cap,k,ak,f,c,j⟩
 ·exact .inl a
 ·exact .inr ⟨g,cap,k,ak,f,by rw[d.block g (b1 c) z];exact c,j⟩
theorem _root_.Go.aI.ef.hC{w wr w':World}{b:Nat}{a:Option Addr}{n:Nat}(ab:ef w b a n)(h:ef wr b a n)(e:w'.heap[b]? =wr.heap[b]?)(k:fP b w w'):ef w' b a n:=by
 obtain⟨c,l,H,I,g⟩:=h;obtain⟨_,_,_,d,_⟩:=ab;refine⟨c,l,e.trans H,?_,g⟩;rcases d with d|⟨j,ee,rfl,d⟩
 ·exact .inl d
 ·refine .inr ⟨j,ee,rfl,fun i hi=>?_⟩;obtain⟨x,f⟩:=d i hi;exact⟨x,by rw[←f];exact mO (k.block j (aaZ w _ f) (fun e=>g _ rfl z e))⟩
theorem _root_.Go.aI.fP.Es{b:Nat}{w wr w':World}(h:fP b w wr)(A:Below w.heap.size wr w'):fP b w w':=⟨A.os.trans h.os,A.tape.trans h.tape,A.output.trans h.output,db h.size A.size,fun k a c=>(A.block k a).trans (h.block k a c)⟩
def uP(l:List Nat):List Int:=l.map fun(x:Nat)=>(x:Int)
theorem arj{l:List Nat}(h:∀x∈l,32<=x/\x<=126)(b:l.length<=200):j5 (strOfNums (uP l)):=by
 have e:strOfNums (uP l)=⟨(l.map UInt8.ofNat).toArray⟩:=by unfold strOfNums uP;rw[HV];rfl
 rw[e];refine qW.Ai (fun c a=>?_) (by rw[HT];exact b);obtain⟨x,d,rfl⟩:=yQ.1 a;have:=h x d;rw[aaP (by have:UInt8.size=256:=rfl;omega)];exact this
theorem ar3{w:World}{base:Nat}{v:Value}{l:List Nat}(h:w.ownsRow base 5 1 v l.length ((uP l).map (Value.int .u8))):(convert 230 9 v).run prog w=.ok (.string (strOfNums (uP l))) w:=by
 obtain⟨H,I⟩:=h;rcases I with⟨rfl,ab⟩|⟨g,cap,a,rfl,e,kL,c,f,d,b⟩
 ·have:l=[]:=yK ab;subst this;exact RF (P:=prog) (w:=w) 230 5 underlying230 underlying5 0 0 9 underlying9
 ·refine MP (P:=prog) w 230 5 underlying230 underlying5 g 0 l.length cap (uP l) (by simp[uP]) (fun i hi=>?_) 9 underlying9;have H:(a.toList.take (l.length*1))[i]? =((uP l).map (Value.int .u8))[i]? :=by rw[b]
  rw[oS,cv z,pn]at H;have I:i<(uP l).length:=by simpa[uP]using hi
  exact ai1
structure mV (w wr:World) (b:Nat) (a:Option Addr) (len:Nat):Prop where
 o:ef w b a len
 n:ef wr b a len
 s:fP b w wr
theorem mV.next{w wr w':World}{b:Nat}{a:Option Addr}{len:Nat}(h:mV w wr b a len)(d:ef w' b a len)(c:fP b wr w'):mV w w' b a len:=⟨h.o,d,h.s.trans c⟩
theorem mV.Es{w wr w':World}{b:Nat}{a:Option Addr}{len:Nat}(h:mV w wr b a len)(A:Below w.heap.size wr w'):mV w w' b a len:=⟨h.o,h.o.hC h.n (A.block b h.o.lt) (h.s.Es A),h.s.Es A⟩
theorem mV.U{w wr w':World}{b:Nat}{a:Option Addr}{len:Nat}(h:mV w wr b a len)(A:Below wr.heap.size wr w'):mV w w' b a len:=h.Es (A.mono h.s.size)
theorem mV.alloc{w wr:World}{b:Nat}{a:Option Addr}{len:Nat}(h:mV w wr b a len)(o:Obj):mV w (wr.alloc o) b a len:=h.U ((bi _ _).alloc (aZ _) o)
theorem aDy(w:World)(b:Nat)(a:Option Addr)(len:Nat)(Z:len<=maxLen)(h:ef w b a len):Calls prog 98 #[.pointer (some ⟨b,0,none⟩)] w fun e w'=>S4 e/\mV w w' b a len:=by
 obtain⟨ex,kw,m8,jg,kU⟩:=jt an_;have g:=G fun(n:Int) (H:0<n) (I:n<=2000000000000001) w Y=>pU w b a len n H I Z Y;have aa:=G aEU;have u:Hid (mV w w b a len):=G ⟨h,h,fP.refl b w⟩;have ab:Hid (b<w.heap.size):=G h.lt;clear h;go_enter func98,ntmps98;go_upto_region 3 with(first
  |(go_at_call 16;(with_reducible refine(g.out 18 ai ai _ u.out.n).mono ?_);rintro e ap ⟨⟨B,j_,Ws,rfl⟩,cz,cg⟩;have E:=G (u.out.next cz cg);obtain⟨k,rfl⟩:∃k:Nat,B=(k:Int):=⟨B.toNat,z⟩)
  |(go_at_call 181;(with_reducible refine(aa.out _).mono ?_);rintro e ao ⟨c2,rfl,C,Q⟩;have o:=G (E.out.U C);have N:=G Q;clear C Q))
 by_cases y:k<15
 ·have br:=N.out k y;have j:=G (aES _ (fM (show k<Am.length from y)))
  go_wp2;go_ret;exact⟨⟨_,rfl,j.out⟩,o.out⟩
 ·have P:¬(k:Int)<15:=z;clear N;go_upto_if 22 with(go_at_call 16;(with_reducible refine(g.out 9 ai ai _ o.out.n).mono ?_);rintro e bz ⟨⟨F,jl,ag,rfl⟩,gt,ph⟩;have r:=G (o.out.next gt ph);obtain⟨m,rfl⟩:∃k:Nat,F=(k:Int):=⟨F.toNat,z⟩)
  generalize ((k:Int)==17)=q;go_cut [5]from 40 (fun x c9=>∃n:Nat,n<=200/\x=.int .i64 n/\mV w c9 b a len)
  ·cases q
   ·go_wp2;go_meet;exact⟨m,z,rfl,r.out⟩
   ·go_wp2_with (go_at_call 16;(with_reducible refine(g.out 11 ai ai _ r.out.n).mono ?_);rintro e bh ⟨⟨O,vo,Pw,rfl⟩,lL,qB⟩;have V:=G (r.out.next lL qB);obtain⟨T,rfl⟩:∃k:Nat,O=(k:Int):=⟨O.toNat,z⟩);go_meet;exact⟨190+T,z,bM,V.out⟩
  case rest=>
   obtain⟨n,aw,rfl,d⟩:=hcut;have c:=G d;clear d u E o r
   go_wp2;go_loopw [6,7] (fun v i wr=>∃l:List Nat,l.length<=n/\i=.int .i64 l.length/\(∀x∈l,32<=x/\x<=126)/\wr.ownsRow w.heap.size 5 1 v l.length ((uP l).map (Value.int .u8))/\mV w wr b a len) (fun _ i _=>n-(RowKit.intOf i).toNat);case atStart=>exact⟨[],dq _,rfl,am,mo _ _ _ _,c.out⟩
   case round=>
    clear c;obtain⟨l,ad,rfl,j,D,d⟩:=hrel;have J:=G j;have t:=G D;have c:=G d;clear j D d;by_cases aq:l.length<n
    ·have P:(l.length:Int)<n:=z
     go_wp2_with (first
      |(at_builtin;refine lP _ rfl _ _ 230 rfl w.heap.size 5 ex (.int .u8 0) 1 1 underlying230 kw m8 jg kU rfl ai _ _ _ rfl (U.out.alloc _) ⟨s.heap.size,0,none⟩ 1 1 [_] rfl rfl (wQ _ _ _) (by simp[Value.oneCell']) (by unfold maxLen;omega) z (by have:=f.out.s.size;simp;omega) ?_;intro dO bq K L _)
      |(go_at_call 16;(with_reducible refine(g.out 95 ai ai _ c.out.n).mono ?_);rintro e s ⟨⟨R,Wt,ae,rfl⟩,n5,A⟩;have f:=G (c.out.next n5 A);have U:=G (az6 t.out A ab.out);obtain⟨m,rfl⟩:∃k:Nat,R=(k:Int):=⟨R.toNat,z⟩;have e4:IntKind.u8.wrap (32+(m:Int))=((32+m:Nat):Int):=(by rw[show(32:Int)+(m:Int)=((32+m:Nat):Int) by omega,Mu,ry z])))
     have M:Below w.heap.size s bq:=((bi w.heap.size s).alloc f.out.s.size _).grown L (by have:=f.out.s.size;simp;omega) (up t.out);have k4:=G K;have S:=G (f.out.Es M);clear K L M
     go_wp2;refine⟨⟨l++[32+m],bu,?_,?_,?_,S.out⟩,by simp[RowKit.intOf];omega⟩
     ·rw[ie];go_num
     ·intro x W;rcases nJ.1 W with h|h
      ·exact J.out x h
      ·obtain rfl:=Cs.1 h;omega
     ·have:=k4.out;simp only[uP,w1,ie,oa,Cq,HU]at this⊢;exact this
    ·have P:¬(l.length:Int)<n:=z;have fC:=ar3 t.out;have X:=G (arj J.out z)
     go_wp2;go_ret;exact⟨⟨_,rfl,X.out⟩,c.out⟩
theorem Mj:(prog.info? 47).map (·.size)=some 16:=au
theorem EA{P:Program}{fn:Func}{p:Tmp}{ty:TypeId}(h:fn.results=#[.cell p ty])(tmps:Array Value)(w:World)(g:Nat)(t:TypeId)(cs:Array Value)(fr:Nat×Nat)(d:TypeDesc) (ag:tmps.getD p undef=.pointer (some ⟨g,0,none⟩))(a:w.heap[g]? =some (.cells cs t fr)) (hu:P.underlying ty=some d)(hd:(match d with|.struct _|.array _ _=>true|_=>false)=true)(hi:(P.info? ty).map (·.size)=some cs.size): (results fn tmps).run P w=.ok (.agg cs) w:=by
 have b:tmps[p]?.getD undef=.pointer (some ⟨g,0,none⟩):=by simpa using ag
 simp[results,h,b,asAddr,run_loadVar_row w g t ty cs fr d a hu hd hi]
theorem alj{r:Nat}{t:TypeId}{fr:Nat×Nat}:∀(l:List Value) (i:Nat) (w:World) (cs:Array Value),w.heap[r]? =some (.cells cs t fr)->i+l.length=cs.size->(World.setCells w r i l).heap[r]? =some (.cells (cs.toList.take i++l).toArray t fr)
 |[],i,w,cs,h,hi=>by
  have e:cs.toList.take i=cs.toList:=tt (by rw[ji];simp only[yO]at hi;omega)
  rw[e,qK]
  exact h
 |v::l,i,w,cs,h,hi=>by
  have H:=hS (i:=i) h v
  simp only[mP]at hi
  have I:=alj l (i+1) _ _ H bu
  have e:(cs.setIfInBounds i v).toList.take (i+1)=cs.toList.take i++[v]:=by
   rw[Array.toList_setIfInBounds,List.take_succ,List.take_set,List.set_eq_of_length_le (by rw[n_,ji];omega),List.getElem?_set_self (by rw[ji];omega)]
   rfl
  rw[e,Cp,anN]at I
  exact I
theorem QI{w:World}{r:Nat}{t:TypeId}{fr:Nat×Nat}{cs:Array Value}(h:w.heap[r]? =some (.cells cs t fr))(l:List Value)(a:l.length=cs.size):(World.setCells w r 0 l).heap[r]? =some (.cells l.toArray t fr):=by
 have:=alj l 0 w cs h z;simpa using this
theorem Hm{B:Nat}{w:World}{r:Nat}(a:B<=r):∀(l:List Value) (i:Nat) (W:World),Below B w W->Below B w (World.setCells W r i l)
 |[],_,_,h=>h
 |v::l,i,W,h=>Hm a l (i+1) _ (h.setCell (p:=⟨r,i,none⟩) a v)
theorem ali{r k:Nat}(a:k≠r):∀(l:List Value) (i:Nat) (W:World),(World.setCells W r i l).heap[k]? =W.heap[k]?
 |[],_,_=>rfl
 |v::l,i,W=>(ali a l (i+1) _).trans (hm _ _ _ _ a)
abbrev kz(id dM lM i5 eF:Int)(c:Option Addr)(e d:Nat)(k:Int)(s:ByteArray)(N S n:Int)(ca:Option Addr)(cc:Nat)(ra:Option Addr)(rc:Nat)(iI h2:ByteArray)(aF:Option Addr)(b a:Nat):Array Value:=
 #[.int .i64 id,.int .i64 dM,.int .i64 lM,.int .i64 i5,.int .i64 eF,.slice c e d,.int .i64 k,.string s,.int .i64 N,.int .i64 S,.int .i64 n,.slice ca 0 cc,.slice ra 0 rc,.string iI,.string h2,.slice aF b a]
abbrev x_:Array Value:=kz 0 0 0 0 0 none 0 0 0 bL 0 0 0 none 0 none 0 bL bL none 0 0
end Go.b3
namespace Go.Proofs
open Go.Shelf
shelf_try shelf_lay Lays.n169 Nm 169 at Tryz as lays169
shelf_try shelf_lay Lays.n158 Nm 158 at Tryz as lays158
shelf_try shelf_lay Lays.n156 Nm 156 at Tryz as lays156
shelf_try shelf_lay Lays.n138 Nm 138 at Tryz as lays138
shelf_try shelf_lay Lays.n171 Nm 171 at Tryz as lays171
shelf_tried
end Go.Proofs
namespace Go.bj
open Go Go.Proofs Go.RowKit Go.c0
def uB(w:World)(B b m n:Nat):Prop:=B<=w.heap.size/\∃l:List UInt8,Lib.IsBuilderF 276 5 B b (Lib.byteCells l) w/\m<=l.length/\l.length<=n
theorem uB.wY{w:World}{B b m n a n':Nat}(h:uB w B b m n)(d:a<=m)(e:n<=n'):uB w B b a n':=by
 obtain⟨ab,l,H,I,c⟩:=h;exact⟨ab,l,H,z,z⟩
theorem ye{w w':World}{base:Nat}{e:TypeId}{size:Nat}{v:Value}{n:Nat}{aK:List Value}(h:w.ownsRow base e size v n aK)(A:Below w.heap.size w w'):w'.ownsRow base e size v n aK:=by
 exact Xz
theorem az7{w w':World}{base:Nat}{e:TypeId}{size:Nat}{v:Value}{n:Nat}{aK:List Value}(h:w.ownsRowF base e size v n aK)(A:Below w.heap.size w w'):w'.ownsRowF base e size v n aK:=by
 obtain⟨d,a⟩:=h;refine⟨d,?_⟩;rcases a with a|⟨g,cap,i,bg,ak,c,b,f⟩
 ·exact .inl a
 ·exact .inr ⟨g,cap,i,bg,ak,c,by rw[A.block g (hl.1 b).1];exact b,f⟩
theorem adT{T e:TypeId}{B b:Nat}{p:Value}{bT:List Value}{w w':World}(h:Lib.BuilderAtF T e B b p bT w)(A:Below w.heap.size w w'):Lib.BuilderAtF T e B b p bT w':=by
 obtain⟨H,v,I,c,a⟩:=h;exact⟨H,v,by rw[A.block b (cX I)];exact I,az7 c A,a⟩
theorem uB.U{w w':World}{B b m n:Nat}(h:uB w B b m n)(A:Below w.heap.size w w'):uB w' B b m n:=by
 obtain⟨ab,l,H,I⟩:=h;exact⟨db ab A.size,l,H.elim (fun x=>.inl (adT x A)) (fun x=>.inr (adT x A)),I⟩
theorem uB.lt{w:World}{B b m n:Nat}(h:uB w B b m n):b<w.heap.size:=by
 obtain⟨_,l,H,_⟩:=h;rcases H with H|H<;>exact H.lt
theorem uB.base{w:World}{B b m n:Nat}(h:uB w B b m n):B<=b:=by
 obtain⟨_,l,H,_⟩:=h;rcases H with H|H<;>exact H.1
theorem kd.kept{w w':World}{b t e:Nat}{c:Option Nat}{v:Array Value}(h:w.heap[b]? =some (.cells v t (0,0)))(a:Lib.OthersKept e c w w')(H:some b≠c)(I:t≠e):w'.heap[b]? =some (.cells v t (0,0)):=
 a b _ h H fun c bg e=>by cases e;exact I rfl
structure y7 (w:World) (aG:Array Value) (b m n:Nat) (wr:World):Prop where
 g:hw w aG wr
 jI:uB wr b b m n
 lt:w.heap.size<b
theorem y7.U{w wr w':World}{a:Array Value}{b m n:Nat}(h:y7 w a b m n wr)(A:Below wr.heap.size wr w'):y7 w a b m n w':=⟨h.g.U A,h.jI.U A,h.lt⟩
theorem y7.wY{w wr:World}{a:Array Value}{b m n c n':Nat}(h:y7 w a b m n wr)(d:c<=m)(e:n<=n'):y7 w a b c n' wr:=⟨h.g,h.jI.wY d e,h.lt⟩
theorem Tm{w w':World}{o:Obj}{e2:Option Nat}{T t:TypeId}(d:(w.alloc o).grownBy w' e2)(c:∀k,e2=some k->∃cs fr,w.heap[k]? =some (.cells cs T fr)){k:Nat}{cs:Array Value}{fr:Nat×Nat}(a:w.heap[k]? =some (.cells cs t fr))(ah:t≠T):w'.heap[k]? =some (.cells cs t fr):=by
 rw[d.block k (by have:=cX a;simp;omega) (fun e=>?_),wB _ _ (cX a)]
 ·exact a
 ·obtain⟨g,f,b⟩:=c k e.symm;rw[a]at b;cases b;exact ah rfl
theorem y7.grown{w wr w':World}{f:Array Value}{b m n:Nat}{o:Obj}{e2:Option Nat}(h:y7 w f b m n wr)(a:(wr.alloc o).grownBy w' e2)(e:∀k,e2=some k->∃cs fr,wr.heap[k]? =some (.cells cs 9 fr)/\w.heap.size<=k):y7 w f b m n w':=by
 have d:∀k,e2=some k->∃cs fr,wr.heap[k]? =some (.cells cs 9 fr):=fun k c=>by obtain⟨cs,fr,H,_⟩:=e k c;exact⟨cs,fr,H⟩
 have j:Below w.heap.size w w':=(h.g.b.alloc h.g.b.size o).grown a (by have:=h.g.b.size;simp;omega) (fun k c=>by obtain⟨_,_,_,H⟩:=e k c;exact H);refine⟨⟨j,Tm a d h.g.g ai⟩,?_,h.lt⟩;obtain⟨ab,l,H,I⟩:=h.jI;have md:∀p,Lib.BuilderAtF 276 5 b b p (Lib.byteCells l) wr->Lib.BuilderAtF 276 5 b b p (Lib.byteCells l) w':=fun p ⟨bO,v,cu,⟨a3,a4⟩,a5⟩=>by
  refine⟨bO,v,Tm a d cu ai,⟨a3,?_⟩,a5⟩;rcases a4 with a4|⟨g,cap,s,bg,ak,i,q,r⟩
  ·exact .inl a4
  ·exact .inr ⟨g,cap,s,bg,ak,i,Tm a d q ai,r⟩
 exact⟨db (db ab am) a.size,l,H.elim (fun x=>.inl (md _ x)) (fun x=>.inr (md _ x)),I⟩
theorem tb{w:World}{base:Nat}{e:TypeId}{size n:Nat}{v:Value}{aK:List Value}(h:w.ownsRow base e size v n aK)(ab:v≠ .slice none 0 0):∃g cap cj,v=.slice (some ⟨g,0,none⟩) n cap/\base<=g/\w.heap[g]? =some (.cells cj e (0,0))/\n<=cap/\cj.size=cap*size/\∀i,i<n*size->cj[i]? =aK[i]? :=by
 exact aiX
structure I8 (w:World) (base:Nat) (v:Value) (n:Nat) (bE:List ByteArray):Prop where
 len:bE.length=n
 lm:∀y∈bE,y.size<=200
 nD:w.ownsRow base 9 1 v n (bE.map Value.string)
theorem I8.block{w:World}{base:Nat}{v:Value}{n:Nat}{d:List ByteArray}(h:I8 w base v n d):∀k,v.ownBlock=some k->∃cs fr,w.heap[k]? =some (.cells cs 9 fr)/\base<=k:=by
 intro k a;rcases h.nD.2 with⟨c,_⟩|⟨g,cap,i,ak,b,e,f⟩
 ·subst c;simp[Value.ownBlock]at a
 ·subst ak;simp[Value.ownBlock]at a;subst a;exact⟨_,_,e,b⟩
theorem I8.U{w w':World}{base:Nat}{v:Value}{n:Nat}{a:List ByteArray}(h:I8 w base v n a)(A:Below w.heap.size w w'):I8 w' base v n a:=⟨h.len,h.lm,ye h.nD A⟩
end Go.bj
namespace Go.bj
open Go.c0 (bA)
def gc(rs:List bA):List Nat->List Int->Option Nat
 |[],_=>some 0
 |_::_,[]=>none
 |s::ss,x::p=>
  if x= -1 then(gc rs ss p).map (· +1)
  else if 0<=x then
   match rs[x.toNat]? with
   |some r=>if r.h=s then(gc rs (r.args++ss) p).map (· +1)else none
   |none=>none
  else none
theorem A8(rs:List bA)(p:List Int):gc rs [] p=some 0:=by cases p<;>rfl
theorem F9(rs:List bA)(s:Nat)(ss:List Nat):gc rs (s::ss) []=none:=rfl
theorem J2(rs:List bA)(s:Nat)(ss:List Nat)(p:List Int):gc rs (s::ss) (-1::p)=(gc rs ss p).map (· +1):=by
 rw[gc,cv rfl]
theorem Do(rs:List bA)(s:Nat)(ss:List Nat)(p:List Int)(k:Nat)(a:k<rs.length)(b:rs[k].h=s):gc rs (s::ss) ((k:Int)::p)=(gc rs (rs[k].args++ss) p).map (· +1):=by
 have H:rs[(k:Int).toNat]? =some rs[k]:=by simp[a]
 rw[gc,bn z,cv z,H];simp[b]
theorem Uu(rs:List bA)(s:Nat)(ss:List Nat)(x:Int)(p:List Int)(H:x≠ -1)(I:∀k:Nat,x=k->∀a:k<rs.length,rs[k].h≠s):gc rs (s::ss) (x::p)=none:=by
 rw[gc,bn H];by_cases ab:0<=x
 ·rw[cv ab];cases b:rs[x.toNat]? with
  |none=>rfl
  |some r=>obtain⟨a,rfl⟩:=j2.1 b;simp only;rw[bn (I x.toNat z a)]
 ·rw[bn ab]
theorem Dp{rs:List bA}{s:Nat}{ss:List Nat}{p:List Int}{n:Nat}(h:gc rs (s::ss) p=some n):∃x q,p=x::q/\((x= -1/\∃m,n=m+1/\gc rs ss q=some m)∨ ∃(k:Nat) (a:k<rs.length),x=k/\rs[k].h=s/\∃m,n=m+1/\gc rs (rs[k].args++ss) q=some m):=by
 cases p with
 |nil=>rw[F9]at h;cases h
 |cons x q=>
  refine⟨x,q,rfl,?_⟩;by_cases H:x= -1
  ·subst H;rw[J2]at h;obtain⟨m,b,rfl⟩:=ig.1 h;exact .inl ⟨rfl,m,rfl,b⟩
  ·by_cases I:∃(k:Nat) (a:k<rs.length),x=k/\rs[k].h=s
   ·obtain⟨k,a,rfl,c⟩:=I;rw[Do rs s ss q k a c]at h;obtain⟨m,b,rfl⟩:=ig.1 h;exact .inr ⟨k,a,rfl,c,m,rfl,b⟩
   ·rw[Uu rs s ss x q H fun k d a e=>I ⟨k,a,d,e⟩]at h;cases h
theorem J0(rs:List bA):∀(p:List Int) (a b:List Nat),gc rs (a++b) p=(gc rs a p).bind fun n=>(gc rs b (p.drop n)).map (n+ ·)
 |p,[],b=>by
  rw[A8]
  simp
 |[],s::ss,b=>by simp[F9]
 |x::p,s::ss,b=>by
  rw[RJ]
  by_cases H:x= -1
  ·subst H
   rw[J2,J2,J0 rs p ss b]
   cases gc rs ss p with
   |none=>rfl
   |some n=>
    simp only[Cy,ob,RK]
    cases gc rs b (p.drop n)with
    |none=>rfl
    |some m=>simp;omega
  ·by_cases I:∃(k:Nat) (c:k<rs.length),x=k/\rs[k].h=s
   ·obtain⟨k,c,rfl,d⟩:=I
    rw[Do rs s _ p k c d,Do rs s _ p k c d,←Cp,J0 rs p (rs[k].args++ss) b]
    cases gc rs (rs[k].args++ss) p with
    |none=>rfl
    |some n=>
     simp only[Cy,ob,RK]
     cases gc rs b (p.drop n)with
     |none=>rfl
     |some m=>simp;omega
   ·have A:∀k:Nat,x=k->∀c:k<rs.length,rs[k].h≠s:=fun k f c e=>I ⟨k,c,f,e⟩
    rw[Uu rs s _ x p H A,Uu rs s _ x p H A]
    rfl
theorem J3(rs:List bA):∀(p:List Int) (a:List Nat) (n:Nat),gc rs a p=some n->n<=p.length
 |p,[],n,h=>by rw[A8]at h;cases h;exact dq _
 |[],s::ss,n,h=>by rw[F9]at h;cases h
 |x::p,s::ss,n,h=>by
  obtain⟨f,q,e,c⟩:=Dp h
  cases e
  rcases c with⟨_,m,rfl,b⟩|⟨k,d,_,_,m,rfl,b⟩
  ·have:=J3 rs p _ m b;simp;omega
  ·have:=J3 rs p _ m b;simp;omega
theorem J1(rs:List bA):∀(p:List Int) (a:List Nat) (n:Nat) (q:List Int),gc rs a p=some n->gc rs a (p++q)=some n
 |p,[],n,q,h=>by rw[A8]at h⊢;exact h
 |[],s::ss,n,q,h=>by rw[F9]at h;cases h
 |x::p,s::ss,n,q,h=>by
  obtain⟨g,i,e,f⟩:=Dp h
  cases e
  rw[RJ]
  rcases f with⟨rfl,m,rfl,b⟩|⟨k,c,rfl,d,m,rfl,b⟩
  ·rw[J2,J1 rs p _ m q b];rfl
  ·rw[Do rs s ss _ k c d,J1 rs p _ m q b];rfl
theorem Uv(rs:List bA):∀(p:List Int) (a:List Nat) (n:Nat),gc rs a p=some n->gc rs a (p.take n)=some n
 |p,[],n,h=>by rw[A8]at h⊢;exact h
 |[],s::ss,n,h=>by rw[F9]at h;cases h
 |x::p,s::ss,n,h=>by
  obtain⟨g,i,e,f⟩:=Dp h
  cases e
  rcases f with⟨rfl,m,rfl,b⟩|⟨k,c,rfl,d,m,rfl,b⟩
  ·rw[anP,J2,Uv rs p _ m b];rfl
  ·rw[anP,Do rs s ss _ k c d,Uv rs p _ m b];rfl
theorem F_{rs:List bA}{s:Nat}{ss:List Nat}{p:List Int}{n:Nat}(h:gc rs (s::ss) p=some n):0<n:=by
 obtain⟨_,_,_,a⟩:=Dp h;rcases a with⟨_,m,rfl,_⟩|⟨_,_,_,_,m,rfl,_⟩<;>omega
def tI(rs:List bA)(M:Nat->Nat)(p:List Int):Prop:=∀k,k<p.length->∃(x:Nat) (a:x<rs.length),p[k]? =some (x:Int)/\∃m,gc rs [rs[x].h] (p.drop k)=some m/\m<=M rs[x].h
theorem tI.nil(rs:List bA)(M:Nat->Nat):tI rs M []:=fun k a=>by simp at a
theorem tI.FM{rs:List bA}{M:Nat->Nat}{p q:List Int}(ag:tI rs M p)(d:tI rs M q):tI rs M (p++q):=fun k c=>by
 by_cases h:k<p.length
 ·obtain⟨x,a,H,m,I,b⟩:=ag k h
  refine⟨x,a,by rw[w0 h];exact H,m,?_,b⟩
  rw[List.drop_append_of_le_length z]
  exact J1 rs _ _ _ _ I
 ·obtain⟨x,a,H,m,I,b⟩:=d (k-p.length) (by simp at c;omega)
  refine⟨x,a,by rw[yM z];exact H,m,?_,b⟩
  rw[List.drop_append,MR (z:p.length<=k),vF]
  exact I
theorem tI.cons{rs:List bA}{M:Nat->Nat}{k:Nat}{q:List Int}{n:Nat}(a:k<rs.length)(g:tI rs M q)(c:gc rs rs[k].args q=some n)(f:n+1<=M rs[k].h):tI rs M ((k:Int)::q):=fun j d=>by
 cases j with
 |zero=>exact⟨k,a,rfl,n+1,by rw[HP,Do rs _ _ q k a rfl,qK,c];rfl,f⟩
 |succ j=>
  obtain⟨x,b,H,m,I,e⟩:=g j (by simp at d;omega)
  exact⟨x,b,by simpa using H,m,by simpa using I,e⟩
structure o1 (rs:List bA) (M:Nat->Nat) (s n:Nat) (p:List Int):Prop where
 len:p.length=n
 gc:gc rs [s] p=some n
 sub:tI rs M p
 le:n<=M s
theorem o1.pos{rs:List bA}{M:Nat->Nat}{s n:Nat}{p:List Int}(h:o1 rs M s n p):0<n:=F_ h.gc
theorem o1.Ab{rs:List bA}{M:Nat->Nat}{s n:Nat}{p:List Int}(h:o1 rs M s n p):∀x∈p,0<=x/\x<rs.length:=fun x b=>by
 obtain⟨k,a⟩:=HW.1 b
 obtain⟨aq,_⟩:=j2.1 a
 obtain⟨y,c,H,_⟩:=h.sub k aq
 rw[a]at H
 cases H
 omega
theorem o1.head{rs:List bA}{M:Nat->Nat}{s n:Nat}{p:List Int}(h:o1 rs M s n p):∃(k:Nat) (a:k<rs.length) (q:List Int),p=(k:Int)::q/\rs[k].h=s:=by
 obtain⟨x,q,rfl,c⟩:=Dp h.gc;rcases c with⟨rfl,_⟩|⟨k,a,rfl,b,_⟩
 ·have:=(h.Ab (-1) (mQ ..)).1;omega
 ·exact⟨k,a,q,rfl,b⟩
end Go.bj
namespace Go.bj
open Go Go.Proofs Go.RowKit Go.Shelf Go.c0
attribute [local go_sem] Oper.semAt_some
def AS(p q:Nat)(aD a:World):Prop:=(∀o,aD.heap[p]? =some o->a.heap[p]? =some o)/\(∀o,aD.heap[q]? =some o->a.heap[q]? =some o)
theorem AS.refl(p q:Nat)(aD:World):AS p q aD aD:=⟨fun _ h=>h,fun _ h=>h⟩
theorem AS.trans{p q:Nat}{aD b Z:World}(h:AS p q aD b)(k:AS p q b Z):AS p q aD Z:=⟨fun o a=>k.1 o (h.1 o a),fun o a=>k.2 o (h.2 o a)⟩
theorem AS.put{p q:Nat}{W:World}{l:Nat}(b:Obj)(H:p≠l)(I:q≠l):AS p q W (W.putObj l b):=
 ⟨fun o a=>by rw[(aaN W l b).block p (cX a) (by simpa using H)];exact a,fun o a=>by rw[(aaN W l b).block q (cX a) (by simpa using I)];exact a⟩
end Go.bj
namespace Go.bj
open Go Go.Proofs.Tryz Go.Proofs Go.RowKit Go.Shelf Go.c0
attribute [local go_sem] Oper.semAt_some
def xj(B:Nat)(w:World):List Deferred->Prop
 |[]=>True
 |d::ds=>(∃D,d={target:=.collected D,args:=#[]}/\B<=D/\w.heap[D]? =some (.deferred (some []))/\∀e∈ds,e.target≠ .collected D)/\xj B w ds
theorem xj.put{B D:Nat}{w:World}:∀{ds:List Deferred},xj B w ds->(∀e∈ds,e.target≠ .collected D)->∀o,xj B (w.putObj D o) ds
 |[],_,_,_=>h5
 |d::ds,⟨⟨D',ak,c,b,i⟩,h⟩,a,o=>by
  refine⟨⟨D',ak,c,?_,i⟩,h.put (fun e f=>a e (i6 _ f)) o⟩
  have g:D'≠D:=fun e=>a d (mQ ..) (by rw[ak,e])
  rw[(aaN w D o).block D' (cX b) (by simpa using g)]
  exact b
def k5(w:World)(aF:Option Addr)(p:List Int):Prop:=0<p.length->∃b o,aF=some ⟨b,o,none⟩/\b<w.heap.size/\∀i (hi:i<p.length),w.cell? ⟨b,o+i,none⟩=some (.int .i64 p[i])
theorem k5.U{w w':World}{aF:Option Addr}{p:List Int}(h:k5 w aF p)(A:Below w.heap.size w w'):k5 w' aF p:=fun ab=>by
 obtain⟨b,o,e,a,c⟩:=h ab
 exact⟨b,o,e,cE A a,fun i hi=>by rw[A.cell a];exact c i hi⟩
def apC(C:Nat)(ds:List Deferred):Prop:=∀d∈ds,∀D,d.target=.collected D->D<C
theorem xj.lt{B:Nat}{w:World}:∀{ds:List Deferred},xj B w ds->apC w.heap.size ds
 |[],_=>fun d hd=>by cases hd
 |d::ds,⟨⟨D,ak,f,c,g⟩,h⟩=>fun e b D' a=>by
  rcases gl.1 b with rfl|b
  ·rw[ak]at a;cases a;exact cX c
  ·exact h.lt e b D' a
theorem xj.kept{B:Nat}{W W':World}{e2:Option Nat}(f:W.grownBy W' e2):∀{ds:List Deferred},xj B W ds->(∀k,e2=some k->(∃cs t fr,W.heap[k]? =some (.cells cs t fr))∨ ∀d∈ds,d.target≠ .collected k)->xj B W' ds
 |[],_,_=>h5
 |d::ds,⟨⟨D,ak,i,a,m⟩,h⟩,c=>by
  refine⟨⟨D,ak,i,?_,m⟩,h.kept f fun k g=>(c k g).elim .inl fun ae=>.inr fun e j=>ae e (i6 _ j)⟩
  rw[f.block D (cX a) (fun e=>?_)]
  ·exact a
  ·rcases c D e.symm with⟨cs,n,fr,b⟩|l
   ·rw[a]at b;cases b
   ·exact l d (mQ ..) (by rw[ak])
def aEL(b:List Nat):List Value:=b.map fun a=>.int .i64 ((a:Nat):Int)
structure AC (w:World) (aG:Array Value) (ds:List Deferred) (v:Value) (e6:List Nat) (W:World):Prop where
 g:hw w aG W
 m:xj w.heap.size W ds
 b:Boxed W (w.heap.size+1+1) 22 v
 r:W.ownsRow w.heap.size 3 1 v e6.length (aEL e6)
theorem AC.kept{w W W':World}{i:Array Value}{ds:List Deferred}{v:Value}{l:List Nat}{e2:Option Nat}(h:AC w i ds v l W)(b:W.grownBy W' e2)(c:∀k,e2=some k->w.heap.size<=k/\(∃o,W.heap[k]? =some o/\o.isCells=false)/\∀d∈ds,d.target≠ .collected k):AC w i ds v l W':=by
 have f:∀k cs t fr,W.heap[k]? =some (.cells cs t fr)->some k≠e2:=fun k cs t fr a e=>by obtain⟨_,⟨o,j,m⟩,_⟩:=c k e.symm;rw[a]at j;cases j;cases m
 refine⟨⟨h.g.b.grown b h.g.b.size (fun k a=>(c k a).1),?_⟩,h.m.kept b fun k a=>.inr (c k a).2.2,h.b.kept b (f _ _ _ _ h.b),h.r.kept b ?_⟩
 ·unfold kd;rw[b.block _ (cX h.g.g) (f _ _ _ _ h.g.g)];exact h.g.g
 ·rcases h.r.2 with⟨e,_⟩|⟨g,cap,q,e,_,p,_⟩
  ·exact .inl (by rw[e];rfl)
  ·refine .inr (fun n=>f _ _ _ _ p ?_);rw[←n,e];rfl
theorem AC.alloc{w W:World}{a:Array Value}{ds:List Deferred}{v:Value}{b:List Nat}(h:AC w a ds v b W)(o:Obj):AC w a ds v b (W.alloc o):=h.kept (World.grownBy_alloc W o none) am
theorem wV{w:World}{base:Nat}{e:TypeId}{size:Nat}{v:Value}{n:Nat}{aK:List Value}(h:w.ownsRow base e size v n aK){q:Nat}(b:q<base):some q≠v.ownBlock:=by
 rcases h.2 with⟨ak,_⟩|⟨g,cap,c,ak,a,_⟩
 ·subst ak;simp[Value.ownBlock]
 ·subst ak;simp[Value.ownBlock];omega
theorem BG:(prog.info? 3).map (fun i=>(i.zero,i.size,i.bytes))=some (some (.int .i64 0),1,8):=au
theorem AC.slice{w W:World}{b:Array Value}{ds:List Deferred}{v:Value}{a:List Nat}(h:AC w b ds v a W):∃va c,v=.slice va a.length c:=by
 rcases h.r.2 with⟨e,ab⟩|⟨g,cap,d,e,_⟩
 ·exact⟨_,_,by rw[e,ab]⟩
 ·exact⟨_,_,e⟩
end Go.bj
namespace Go.bj
open Go Go.Proofs Go.RowKit Go.c0
structure oX (S:cO) (M:Nat->Nat) (rs:List bA) (ca bd:Option Addr) (cc aV rb aC rc:Nat) (w:World):Prop where
 ok:qb S
 Qd:C0 S
 oG:∀i,1<=M i/\M i<=5
 sub:rs.Sublist S.c8
 c:iM w ca S.bs
 y:rT w bd S.aB M
 r:uK w (some ⟨rb,aC,none⟩) rs
 ce:S.bs.length<=cc
 eb:S.aB.length<=aV
 eV:rs.length<=rc
abbrev eh(S:cO)(rs:List bA)(ca bd:Option Addr)(cc aV rb aC rc:Nat):Array Value:=#[.string S.bo,.int .i64 S.cZ,.slice ca S.bs.length cc,.slice bd S.aB.length aV,.slice (some ⟨rb,aC,none⟩) rs.length rc,.int .i64 S.aj]
section
variable {S:cO} {M:Nat->Nat} {rs:List bA} {ca bd:Option Addr} {cc aV rb aC rc:Nat} {w:World}
theorem oX.U{w':World}(h:oX S M rs ca bd cc aV rb aC rc w)(A:Below w.heap.size w w'):oX S M rs ca bd cc aV rb aC rc w':=
 ⟨h.ok,h.Qd,h.oG,h.sub,h.c.U A,h.y.U A,h.r.U A,h.ce,h.eb,h.eV⟩
theorem oX.qA(h:oX S M rs ca bd cc aV rb aC rc w):rs.length<=40:=db h.sub.length_le h.ok.c8
theorem oX.h7(h:oX S M rs ca bd cc aV rb aC rc w):∀r∈rs,r.args.length<=3:=fun r a=>(h.Qd.c8 r (h.sub.subset a)).h7
end
theorem hw.F7{w wr:World}{a:Array Value}(h:hw w a wr):hw w a wr.drew:=h.U ((bi _ _).drew)
theorem B9{P:Program}{ops:Array Oper}{ea:Exit->Act->World->Prop}{e:Region.Mode}{S:World->Prop}{i:Nat}{oi:Oper}{d:Option Tmp}{v:Value}{f:Nat}{b:Array Bool}{a:Act}{w:World}(hi:ops[i]? =some oi)(hd:oi.dst=d) (g:Region.noSelect ops=true)(m:Region.free e ops b i=true)(j:(Region.ready e ops b).contains i=true) (n:∀c a w,ea (.panic c) (a.put d v) w->ea (.panic c) a w)(k:YieldsIf P ops S oi v a)(l:S w) (h:wpAnyH P e ops ea S f (b.setIfInBounds i true) (a.put d v) w):wpAnyH P e ops ea S (f+1) b a w:=by
 subst hd;exact pj hi g m j n k l h
theorem b8{P:Program}{ops:Array Oper}{ea:Exit->Act->World->Prop}{pS:Region.Mode}{S:World->Prop}(i d:Nat){oi:Oper}{v:Value}{q7:Nat}{lk sl:Array Bool}{a dI:Act}{w:World}(h:wpAnyH P pS ops ea S q7 sl dI w)(hi:ops[i]? =some oi:=by rfl)(hd:oi.dst=some d:=by rfl) (V:Region.noSelect ops=true:=by kernel_rfl)(cI:Region.free pS ops lk i=true:=by kernel_rfl)(Y:(Region.ready pS ops lk).contains i=true:=by kernel_rfl) (e4:Region.wanted oi (yielded ops a.tmps)=true:=by rfl) (aR:∀w,S w->(execOp a.eval oi).run P w=.ok (.value v) w:=by intro w Vu;(try dsimp only at Vu);(go_simp<;>with_reducible rfl))(bx:S w:=by assumption) (jN:∀c a w,ea (.panic c) (a.put (some d) v) w->ea (.panic c) a w:=by exact fun _ _ _ h=>h) (O:lk.setIfInBounds i true=sl:=by(try simp only[List.setIfInBounds_toArray,List.set_cons_zero,List.set_cons_succ]);rfl)(aH:a.put (some d) v=dI:=by(try simp only[Act.put,List.setIfInBounds_toArray,List.set_cons_zero,List.set_cons_succ]);rfl):wpAnyH P pS ops ea S (q7+1) lk a w:=by
 subst O aH;exact B9 hi hd V cI Y jN (.inl ⟨e4,aR⟩) bx h
theorem lO{P:Program}{ops:Array Oper}{ea:Exit->Act->World->Prop}{pS:Region.Mode}{S:World->Prop}(i d:Nat){oi:Oper}{q7:Nat}{lk sl:Array Bool}{a dI:Act}{w:World}(h:wpAnyH P pS ops ea S q7 sl dI w)(hi:ops[i]? =some oi:=by rfl)(hd:oi.dst=some d:=by rfl) (V:Region.noSelect ops=true:=by kernel_rfl)(cI:Region.free pS ops lk i=true:=by kernel_rfl)(Y:(Region.ready pS ops lk).contains i=true:=by kernel_rfl) (e4:Region.wanted oi (yielded ops a.tmps)=false:=by rfl)(bx:S w:=by assumption) (jN:∀c a w,ea (.panic c) (a.put (some d) undef) w->ea (.panic c) a w:=by exact fun _ _ _ h=>h) (O:lk.setIfInBounds i true=sl:=by(try simp only[List.setIfInBounds_toArray,List.set_cons_zero,List.set_cons_succ]);rfl)(aH:a.put (some d) undef=dI:=by(try simp only[Act.put,List.setIfInBounds_toArray,List.set_cons_zero,List.set_cons_succ]);rfl):wpAnyH P pS ops ea S (q7+1) lk a w:=by
 subst O aH;exact B9 hi hd V cI Y jN (.inr ⟨e4,rfl⟩) bx h
end Go.bj
namespace Go.bj
open Go Go.Proofs.Tryz Go.Proofs Go.RowKit Go.c0
structure FE (w:World) (aG:Array Value) (tf:Value) (A0 A1 b A2 m n:Nat) (W:World):Prop where
 o:Below w.heap.size w W
 g:kd W A0 29 aG
 p:kd W A1 22 #[tf]
 f:kd W A2 59 #[.func (.func 322) #[] #[.pointer (some ⟨A1,0,none⟩),.pointer (some ⟨b,0,none⟩),.pointer (some ⟨A0,0,none⟩),.pointer (some ⟨A2,0,none⟩)]]
 jI:uB W b b m n
 b2:w.heap.size<=b
 cL:A0<b
 hp:A1<b
 G2:A2≠b
section
variable {w W W':World} {aG:Array Value} {tf:Value} {A0 A1 b A2 m n un n':Nat}
theorem FE.U(h:FE w aG tf A0 A1 b A2 m n W)(A:Below W.heap.size W W'):FE w aG tf A0 A1 b A2 m n W':=
 ⟨b_ h.o A,h.g.U A,h.p.U A,h.f.U A,h.jI.U A,h.b2,h.cL,h.hp,h.G2⟩
theorem FE.wY(h:FE w aG tf A0 A1 b A2 m n W)(a:un<=m)(c:n<=n'):FE w aG tf A0 A1 b A2 un n' W:=⟨h.o,h.g,h.p,h.f,h.jI.wY a c,h.b2,h.cL,h.hp,h.G2⟩
end
theorem as0{rs:List bA}{s:Nat}{ss:List Nat}{p:List Int}{d:Nat}(h:gc rs (s::ss) p=some d):∃ce c,gc rs [s] p=some ce/\gc rs ss (p.drop ce)=some c/\d=ce+c:=by
 have a:gc rs ([s]++ss) p=some d:=h;rw[J0]at a;cases H:gc rs [s] p with
 |none=>rw[H]at a;cases a
 |some ce=>rw[H]at a;obtain⟨c,hd,rfl⟩:=ig.1 a;exact⟨ce,c,rfl,hd,rfl⟩
attribute [local irreducible] wpStill in
theorem aac(br c1 c2 c3 c5:Value)(rs:List bA)(rb aC rc:Nat)(aF:Option Addr)(bP:Nat)(p:List Int)(w:World)(O:uK w (some ⟨rb,aC,none⟩) rs)(ag:k5 w aF p)(nT:∀r∈rs,r.args.length<=3)(ug:rs.length<=40)(zE:p.length<=100):∀(N a s k:Nat) (W:World),p.length-a<=N->gc rs [s] (p.drop a)=some k->Below w.heap.size w W-> Calls prog 94 #[.agg #[br,c1,c2,c3,.slice (some ⟨rb,aC,none⟩) rs.length rc,c5],.slice aF p.length bP,.int .i64 a,.int .i64 s] W fun e W'=>e=.returned (.tuple #[.int .i64 ((a+k:Nat):Int),.bool true])/\Below W.heap.size W W':=by
 intro N;induction N with
 |zero=>intro a s k W dG c;rw[MR z,F9]at c;cases c
 |succ N X=>
  intro a s k W dG c ar;obtain⟨x,q,m,ax⟩:=Dp c;clear c;have aH:a<p.length:=by
   rcases vI a p.length with h|h
   ·exact h
   ·rw[MR h]at m;cases m
  have mH:=EY aH;rw[mH]at m;injection m with m az
  subst az;obtain⟨pb,po,rfl,ky,nA⟩:=ag z;have S:=G (nA a aH);rw[m]at S;have g4:(0:Int)<=(a:Int):=z;have gx:(a:Int)<p.length:=z;have i3:(a:Int)<=100:=z;have si:decide ((p.length:Int)<=(a:Int))=false:=bu;have f:=hw.eI W #[br,c1,c2,c3,.slice (some ⟨rb,aC,none⟩) rs.length rc,c5];have C:=b_ ar f.b;have jJ:=(C.cell ky).trans S.out;have zU:=cX f.g;clear mH nA m;rcases ax with⟨rfl,hR,rfl,uc⟩|⟨r,ab,rfl,al,P,rfl,c⟩
  ·rw[A8]at uc;cases uc;clear ag O X dG S;go_enter func94,ntmps94
   go_wp2;go_ret2
   exact⟨am,f.b⟩
  ·rw[qK]at c;have DF:=O;obtain⟨tg,Hp,cw,h0,kj⟩:=O;cases cw;obtain⟨y,ac,g⟩:=kj r ab;have aA:=g;have g:=g.U h0 C;have ij:=G g.args;have fV:=g.br;have b6:=g.c1;have cf:=g.c2;have ep:=g.c3;rw[al]at fV;have O0:=nT _ (fM ab);have u:=G c;have mI:(0:Int)<=(r:Int):=z;have ul:(r:Int)<rs.length:=z;have ak:((r:Int)== -1)=false:=by simp<;>omega
   have aJ:decide ((r:Int)<0)=false:=am;have bv:decide ((rs.length:Int)<=(r:Int))=false:=bu;have ae:=G X;have E:=aS 4 f.g;clear kj g ag c X;go_enter func94,ntmps94
   go_wp2;have R:=f.U ((bi _ _).drew);have o:Below (W.alloc (Obj.cells #[br,c1,c2,c3,.slice (some ⟨rb,aC,none⟩) rs.length rc,c5] 29)).heap.size (W.alloc (Obj.cells #[br,c1,c2,c3,.slice (some ⟨rb,aC,none⟩) rs.length rc,c5] 29)) (W.alloc (Obj.cells #[br,c1,c2,c3,.slice (some ⟨rb,aC,none⟩) rs.length rc,c5] 29)).drew:=(bi _ _).drew;have gY:pb<(W.alloc (Obj.cells #[br,c1,c2,c3,.slice (some ⟨rb,aC,none⟩) rs.length rc,c5] 29)).heap.size:=cE C ky;have b2:rb<(W.alloc (Obj.cells #[br,c1,c2,c3,.slice (some ⟨rb,aC,none⟩) rs.length rc,c5] 29)).heap.size:=cE C h0;have Z:(W.alloc (Obj.cells #[br,c1,c2,c3,.slice (some ⟨rb,aC,none⟩) rs.length rc,c5] 29)).drew.cell? ⟨pb,po+a,none⟩=_:=(o.cell gY).trans jJ;have L2:(W.alloc (Obj.cells #[br,c1,c2,c3,.slice (some ⟨rb,aC,none⟩) rs.length rc,c5] 29)).drew.cell? ⟨rb,aC+r*4,none⟩=_:=(o.cell b2).trans fV;have af:(W.alloc (Obj.cells #[br,c1,c2,c3,.slice (some ⟨rb,aC,none⟩) rs.length rc,c5] 29)).drew.cell? ⟨rb,aC+r*4+1,none⟩=_:=(o.cell b2).trans b6;have ai:(W.alloc (Obj.cells #[br,c1,c2,c3,.slice (some ⟨rb,aC,none⟩) rs.length rc,c5] 29)).drew.cell? ⟨rb,aC+r*4+2,none⟩=_:=(o.cell b2).trans cf;have aj:(W.alloc (Obj.cells #[br,c1,c2,c3,.slice (some ⟨rb,aC,none⟩) rs.length rc,c5] 29)).drew.cell? ⟨rb,aC+r*4+3,none⟩=_:=(o.cell b2).trans ep;have av:=G (ij.out.U o);have aB:W.heap.size<(W.alloc (Obj.cells #[br,c1,c2,c3,.slice (some ⟨rb,aC,none⟩) rs.length rc,c5] 29)).drew.heap.size:=zU;refine tq au au ?_;change wpStill _ _ (W.alloc (Obj.cells #[br,c1,c2,c3,.slice (some ⟨rb,aC,none⟩) rs.length rc,c5] 29)).drew (fun dI=>Exit.then _ _ Exit.normal dI (W.alloc (Obj.cells #[br,c1,c2,c3,.slice (some ⟨rb,aC,none⟩) rs.length rc,c5] 29)).drew) _ _;clear f jJ fV b6 cf ep ij E zU o gY b2;generalize (W.alloc (Obj.cells #[br,c1,c2,c3,.slice (some ⟨rb,aC,none⟩) rs.length rc,c5] 29)).drew=n at*;have E:=aS 4 R.g;repeat still_step
   refine qJ ?_
   go_wp2
   go_region_held3 (fun aD=>aD.cell? ⟨W.heap.size,4,none⟩=some (.slice (some ⟨rb,aC,none⟩) rs.length rc)/\aD.cell? ⟨pb,po+a,none⟩=some (.int .i64 r)/\aD.cell? ⟨rb,aC+r*4,none⟩=some (.int .i64 s)/\aD.cell? ⟨rb,aC+r*4+1,none⟩=some (.string rs[r].op)/\aD.cell? ⟨rb,aC+r*4+2,none⟩=some (.string rs[r].aF)/\aD.cell? ⟨rb,aC+r*4+3,none⟩=some (.slice y rs[r].args.length ac)) (first|exact⟨E,Z,L2,af,ai,aj⟩|go_keep) (fail);have H:hw W #[br,c1,c2,c3,.slice (some ⟨rb,aC,none⟩) rs.length rc,c5] (n.alloc (.cells #[.int .i64 s,.string rs[r].op,.string rs[r].aF,.slice y rs[r].args.length ac] 86)).drew:=R.U ((fH n _).drew);have sD:kd (n.alloc (.cells #[.int .i64 s,.string rs[r].op,.string rs[r].aF,.slice y rs[r].args.length ac] 86)).drew n.heap.size 86 #[.int .i64 s,.string rs[r].op,.string rs[r].aF,.slice y rs[r].args.length ac]:=(kd.eI n _ _).U ((bi _ _).drew);clear R E Z L2 af ai aj aB av;generalize (n.alloc (.cells #[.int .i64 s,.string rs[r].op,.string rs[r].aF,.slice y rs[r].args.length ac] 86)).drew=ao at*;generalize n.heap.size=Y at*;have aw:=G ar;have Sl:=G (fun aD (K:Below w.heap.size w aD)=>aA.args.U K);have an:=G H;clear g
   go_wp2;go_loopw [2,11,12,13] (fun v i _ _ wr=>∃j t d:Nat,j<=rs[r].args.length/\i=.int .i64 j/\v=.int .i64 t/\a+1<=t/\t+d=a+1+P/\t<=101/\Hid (gc rs (rs[r].args.drop j) (p.drop t)=some d)/\hw W #[br,c1,c2,c3,.slice (some ⟨rb,aC,none⟩) rs.length rc,c5] wr/\kd wr Y 86 #[.int .i64 s,.string rs[r].op,.string rs[r].aF,.slice y rs[r].args.length ac]) (fun _ i _ _ _=>rs[r].args.length-(RowKit.intOf i).toNat);case atStart=>exact⟨0,a+1,P,dq _,rfl,bM,aZ _,rfl,z,u,H,sD⟩
   case round=>
    clear H an sD u;obtain⟨j,t,d,aa,rfl,rfl,fB,aE,h',u,D,f⟩:=hrel;have dj:=aS 3 f;have aG:=cX f;by_cases aq:j<rs[r].args.length
    ·have mj:(0:Int)<=(j:Int):=z;have lj:(j:Int)<(rs[r].args.length:Int):=z;have c:=u.out;rw[EY aq]at c;obtain⟨ce,et,F,U,hd⟩:=as0 c;rw[List.drop_drop]at U;have ad:=G U;have ay:=J3 rs _ _ _ F;rw[pp]at ay;have ir:0<ce:=F_ F;have T:=b_ aw.out D.b;obtain⟨M,Q,rfl,ja,nU⟩:=Sl.out wr T z;have hy:=nU j aq;have hn:Hid (∀aD,Below w.heap.size w aD->Calls prog 94 #[.agg #[br,c1,c2,c3,.slice (some ⟨rb,aC,none⟩) rs.length rc,c5],.slice (some ⟨pb,po,none⟩) p.length bP,.int .i64 t,.int .i64 rs[r].args[j]] aD fun e w'=>∃B:Nat,e=.returned (.tuple #[.int .i64 B,.bool true])/\Hid (B=t+ce)/\Below aD.heap.size aD w'):=by refine G fun aD K=>?_;refine(ae.out t rs[r].args[j] ce aD z F K).mono ?_;rintro e w' ⟨aL,A⟩;exact⟨t+ce,aL,G rfl,A⟩
     obtain⟨el,dk,dB,cN,ko,kp⟩:=fZ D.g;clear c F U u ae nU
     go_wp2
     go_region_held3 (fun aD=>aD.cell? ⟨W.heap.size,0,none⟩=some br/\aD.cell? ⟨W.heap.size,1,none⟩=some c1/\aD.cell? ⟨W.heap.size,2,none⟩=some c2/\aD.cell? ⟨W.heap.size,3,none⟩=some c3/\aD.cell? ⟨W.heap.size,4,none⟩=some (.slice (some ⟨rb,aC,none⟩) rs.length rc)/\aD.cell? ⟨W.heap.size,5,none⟩=some c5/\aD.cell? ⟨Y,3,none⟩=some (.slice (some ⟨M,Q,none⟩) rs[r].args.length ac)/\aD.cell? ⟨M,Q+j,none⟩=some (.int .i64 rs[r].args[j])) (first|exact⟨el,dk,dB,cN,ko,kp,dj,hy⟩|exact⟨u0,u1,u2,u3,u4,u5,u6,u7⟩|go_keep) (first|(go_at_call 94;refine(hn.out _ (by first|exact T.drew|exact T)).mono ?_;rintro e bh ⟨B,rfl,l,bt⟩;have L:=(lK wr).trans bt;have I:=D.U L;have V:=f.U L;obtain⟨u0,u1,u2,u3,u4,u5⟩:=fZ I.g;have u6:=aS 3 V;have u7:bh.cell? ⟨M,Q+j,none⟩=some (.int .i64 rs[r].args[j]):=(by rw[L.cell ja];exact hy)))
     go_wp2;go_roundw;case rel=>first|exact⟨j+1,B,et,z,bM,rfl,by have:=l.out;omega,by have:=l.out;omega,by have:=l.out;omega,by rw[l.out];exact ad,I,V⟩|((repeat apply Exists.intro);refine⟨?_,rfl⟩;exact⟨j+1,B,et,z,bM,rfl,by have:=l.out;omega,by have:=l.out;omega,by have:=l.out;omega,by rw[l.out];exact ad,I,V⟩)
     case measure=>simp[RowKit.intOf];omega
    ·have lj:¬(j:Int)<(rs[r].args.length:Int):=z;have c:=u.out;rw[MR z,A8]at c;have O7:d<=0:=by cases c;exact aZ _
     clear c u
     go_wp2;go_ret2
     exact⟨by
       have ah:t=a+(P+1):=z
       rw[ah];rfl,D.b⟩
def e0(l:List Int):List Value:=l.map fun x=>.int .i64 x
theorem ER(l:List Int):(e0 l).length=l.length:=by simp[e0]
theorem ES(l:List Int):∀u∈e0 l,u.oneCell'=true:=fun u hu=>by
 obtain⟨x,_,rfl⟩:=yQ.1 hu;rfl
theorem aEK(a b:List Int):e0 (a++b)=e0 a++e0 b:=by simp[e0]
theorem Ik(w:World)(base:Nat)(e:TypeId)(size:Nat)(A:base<=w.heap.size):(w.alloc (.cells #[] e)).ownsRow base e size (.slice (some ⟨w.heap.size,0,none⟩) 0 0) 0 []:=
 ⟨am,.inr ⟨w.heap.size,0,#[],rfl,A,da _ _,aZ _,dq _,am,am⟩⟩
theorem alQ{w:World}{base:Nat}{v:Value}{n:Nat}{l:List Int}(h:w.ownsRow base 3 1 v n (e0 l))(b:l.length=n)(ab:v≠ .slice none 0 0):∃g cap,v=.slice (some ⟨g,0,none⟩) l.length cap/\k5 w (some ⟨g,0,none⟩) l/\l.length<=cap/\base<=g:=by
 obtain⟨g,cap,f,ak,c,a,d,j,e⟩:=tb h ab;subst b;refine⟨g,cap,ak,fun _=>⟨g,0,rfl,cX a,fun i hi=>?_⟩,d,c⟩;have:=e i z;rw[e0,pn,ln hi]at this;simp only[gm];exact lb a this
theorem Qz{w:World}{pb po:Nat}{p:List Int}(h:∀i (hi:i<p.length),w.cell? ⟨pb,po+i,none⟩=some (.int .i64 p[i]))(k n:Nat):∀(j:Nat) u,(e0 ((p.drop k).take n))[j]? =some u->w.cell? (Addr.add ⟨pb,po+k,none⟩ j)=some u:=fun j u hu=>by
 rw[e0,pn]at hu
 obtain⟨x,a,rfl⟩:=ig.1 hu
 rw[oS]at a
 split at a
 ·rw[HR]at a
  obtain⟨hi,rfl⟩:=j2.1 a
  have:=h (k+j) hi
  rw[←kr]at this
  unfold Addr.add
  split
  ·rename_i ab;subst ab;rw[hG]at this;exact this
  ·exact this
 ·cases a
section
variable {S:cO} {M:Nat->Nat} {rs:List bA} {ca bd:Option Addr} {cc aV rb aC rc:Nat} {w:World}
def ap0(base:Nat)(rs:List bA)(p:List Int)(e:Ending)(w':World):Prop:=∃(k x m:Nat) (b:x<rs.length),p[k]? =some (x:Int)/\gc rs [rs[x].h] (p.drop k)=some m/\∃va a,e=.returned (.slice va (p.take k++ -1::p.drop (k+m)).length a)/\k5 w' va (p.take k++ -1::p.drop (k+m))/\∀x,va=some x->base<=x.block
theorem akN(h:oX S M rs ca bd cc aV rb aC rc w)(aF:Option Addr)(a n:Nat)(p:List Int)(ag:k5 w aF p)(l:o1 rs M S.aj n p)(jc:p.length<=a)(az:a<=9223372036854775807)(fj:Int): Calls prog 45 #[.agg (eh S rs ca bd cc aV rb aC rc),.slice aF p.length a,.int .i64 fj] w fun e w'=>ap0 w.heap.size rs p e w'/\Below w.heap.size w w':=by
 have dx:p.length<=5:=by rw[l.len];exact db l.le (h.oG _).2
 have T:0<p.length:=by rw[l.len];exact l.pos
 have k3:=G (fun W=>XJ fj p.length W T z);have ez:=G (aac (.string S.bo) (.int .i64 S.cZ) (.slice ca S.bs.length cc) (.slice bd S.aB.length aV) (.int .i64 S.aj) rs rb aC rc aF a p w h.r ag h.h7 h.qA (db dx ai));have c:=hw.eI w (eh S rs ca bd cc aV rb aC rc);have hI:=G l.sub;have H:=G (fun W (q:Below w.heap.size w W)=>ag.U q);have mS:=G (fun W (q:Below w.heap.size w W)=>h.r.U q);have z0:((p.length:Int)==0)=false:=by rw[l8];omega
 clear h ag l;go_enter func45,ntmps45;go_upto_region 4 with(go_at_call 93;refine(k3.out _).mono ?_;rintro e ap ⟨⟨k,aa,rfl⟩,rfl⟩)
 obtain⟨x,y,Pu,m,d,ax⟩:=hI.out k aa;have D1:=J3 rs _ _ _ d;rw[pp]at D1;obtain⟨pb,po,rfl,ky,nA⟩:=H.out _ c.b T;have E:=nA k aa;rw[(j2.1 Pu).2]at E;obtain⟨tg,Hp,I,h0,kj⟩:=mS.out _ c.b;cases I;obtain⟨aP,ac,ab⟩:=kj x y;have fV:=ab.br;have mj:(0:Int)<=(k:Int):=z;have lj:(k:Int)<p.length:=z;have n0:(0:Int)<=(x:Int):=z;have zR:(x:Int)<rs.length:=z;have X:=G (fun W (q:Below w.heap.size w W)=>ez.out p.length k rs[x].h m W (abg _ _) d q);obtain⟨cp,aW,bb,bR,dF,C⟩:=fZ c.g;have aq:=G d;clear nA kj ez k3 d;have av:=H.out;clear H mS
 go_region_held3 (fun aD=>aD.cell? ⟨w.heap.size,0,none⟩=some (.string S.bo)/\aD.cell? ⟨w.heap.size,1,none⟩=some (.int .i64 S.cZ)/\aD.cell? ⟨w.heap.size,2,none⟩=some (.slice ca S.bs.length cc)/\aD.cell? ⟨w.heap.size,3,none⟩=some (.slice bd S.aB.length aV)/\aD.cell? ⟨w.heap.size,4,none⟩=some (.slice (some ⟨rb,aC,none⟩) rs.length rc)/\aD.cell? ⟨w.heap.size,5,none⟩=some (.int .i64 S.aj)/\aD.cell? ⟨pb,po+k,none⟩=some (.int .i64 x)/\aD.cell? ⟨rb,aC+x*4,none⟩=some (.int .i64 rs[x].h)) (first|exact⟨cp,aW,bb,bR,dF,C,E,fV⟩|exact⟨u0,u1,u2,u3,u4,u5,u6,u7⟩|go_keep) (first|(go_at_call 94;refine(X.out _ (by first|exact c.b.drew|exact c.b)).mono ?_;rintro e B ⟨rfl,bt⟩;have A:=((bi (w.alloc (.cells (eh S rs ca bd cc aV rb aC rc) 29)).heap.size (w.alloc (.cells (eh S rs ca bd cc aV rb aC rc) 29))).drew).trans bt;have R:=c.U A;obtain⟨u0,u1,u2,u3,u4,u5⟩:=fZ R.g;have u6:B.cell? ⟨pb,po+k,none⟩=some (.int .i64 x):=(by rw[A.cell ky];exact E);have u7:B.cell? ⟨rb,aC+x*4,none⟩=some (.int .i64 rs[x].h):=(by rw[A.cell h0];exact fV)));clear cp aW bb bR dF C u0 u1 u2 u3 u4 u5 u6 u7 fV E X ab c bt A;have r:=R.b;have d:=aq.out;clear R;obtain⟨Q,P,K,L,N⟩:=jt BG;have fg:(0:Int)<=(k:Int)+(m:Int):=z;have ce:(k:Int)+(m:Int)<=(p.length:Int):=z;have eb:(p.length:Int)<=(a:Int):=z;have eV:(k:Int)<=(a:Int):=z;have r7:∀aD,Below w.heap.size w aD->∀i (hi:i<p.length),aD.cell? ⟨pb,po+i,none⟩=some (.int .i64 p[i]):=fun aD f=>by obtain⟨df,kW,I,_,ak⟩:=av aD f T;cases I;exact ak
 have hn:=G r7;have Iq:Hid (∀aD,Below w.heap.size w aD->∀(j:Nat) u,(e0 (p.take k))[j]? =some u->aD.cell? (Addr.add ⟨pb,po,none⟩ j)=some u):=G fun aD f j u hu=>by
  have:=Qz (hn.out aD f) 0 k j u (by rw[HP];exact hu)
  rwa [hG]at this
 have ae:Hid (∀aD,Below w.heap.size w aD->∀(j:Nat) u,(e0 (p.drop (k+m)))[j]? =some u->aD.cell? (Addr.add ⟨pb,po+(k+m),none⟩ j)=some u):=G fun aD f j u hu=>Qz (hn.out aD f) (k+m) (p.length-(k+m)) j u (by rw[tt (by rw[pp];omega)];exact hu);have b2:(e0 (p.take k)).length=k*1:=by rw[ER,n_];omega
 have hp:(e0 (p.drop (k+m))).length=(p.length-(k+m))*1:=by rw[ER,pp];omega
 have vM:=Ik B w.heap.size 3 1 r.size;have o:=r.alloc r.size (.cells #[] 3);go_upto_region 6 with(at_builtin;refine lP _ rfl _ _ 22 rfl w.heap.size 3 Q _ 1 8 underlying22 P K L N rfl ai (.slice (some ⟨B.heap.size,0,none⟩) 0 0) 0 [] rfl vM ⟨pb,po,none⟩ k a (e0 (p.take k)) rfl b2 (Iq.out _ o) (ES _) (by unfold maxLen;omega) z o.size ?_;intro v5 a' F U Y;rw[gm,vF]at F)
 have J:=o.grown U o.size (fun g b=>by simp[Value.ownBlock]at b;subst b;exact r.size);have zH:v5≠ .slice none 0 0:=fun e=>by have:=(Y.1 e).1;simp at this
 obtain⟨C,Dc,ay,rfl,ao,_⟩:=tb F zH;have ah:=F.alloc (.cells #[.int .i64 (-1)] 3);have s:=J.alloc J.size (.cells #[.int .i64 (-1)] 3);have af:=sy (cs:=#[.int .i64 (-1)]) (t:=3) (fr:=(0,0)) (p1 a' (.cells #[.int .i64 (-1)] 3));clear F U Y zH vM o r;go_upto_region 7 with(at_builtin;refine lP _ rfl _ _ 22 rfl w.heap.size 3 Q _ 1 8 underlying22 P K L N rfl ai (.slice (some ⟨C,0,none⟩) k Dc) k _ rfl ah ⟨a'.heap.size,0,none⟩ 1 1 [.int .i64 (-1)] rfl rfl af (by simp[Value.oneCell']) (by unfold maxLen;omega) z s.size ?_;intro h4 bq f' fD aj)
 have D:=s.grown fD s.size (fun g b=>by simp[Value.ownBlock]at b;subst b;exact ao);have La:h4≠ .slice none 0 0:=fun e=>by have:=(aj.1 e).1;simp at this
 obtain⟨ho,xv,aw,rfl,KK,_⟩:=tb f' La;have oF:((k:Int)+(m:Int)).toNat=k+m:=z;clear fD aj La ah s af J;obtain⟨ad,aA,Z⟩:∃ad:Addr,(if a=k+m then some (⟨pb,po,none⟩:Addr)else some ⟨pb,po+(k+m),none⟩)=some ad/\∀aD,Below w.heap.size w aD->∀(j:Nat) u,(e0 (p.drop (k+m)))[j]? =some u->aD.cell? (Addr.add ad j)=some u:=by
  by_cases V:a=k+m
  ·refine⟨_,cv V,fun aD f j u hu=>?_⟩;rw[MR z]at hu;simp[e0]at hu
  ·exact⟨_,bn V,ae.out⟩
 have au:=G Z;clear Z ae
 go_wp2_with (at_builtin;refine lP _ rfl _ _ 22 rfl w.heap.size 3 Q _ 1 8 underlying22 P K L N rfl ai (.slice (some ⟨ho,0,none⟩) (k+1) xv) (k+1) _ rfl f' ad (p.length-(k+m)) (a-(k+m)) (e0 (p.drop (k+m))) rfl hp (au.out _ D) (ES _) (by unfold maxLen;omega) z D.size ?_;intro tl w7 O nW GD);go_ret;have gb:=D.grown nW D.size (fun g b=>by simp[Value.ownBlock]at b;subst b;exact KK);have D9:tl≠ .slice none 0 0:=fun e=>by have:=(GD.1 e).1;simp at this
 have am:(p.take k++ -1::p.drop (k+m)).length=k+1+(p.length-(k+m)):=by rw[ie,mP,n_,pp];omega
 have O:w7.ownsRow w.heap.size 3 1 tl (k+1+(p.length-(k+m))) (e0 (p.take k++ -1::p.drop (k+m))):=by
  have e:e0 (p.take k++ -1::p.drop (k+m))=e0 (p.take k)++[.int .i64 (-1)]++e0 (p.drop (k+m)):=by simp[e0]
  rw[e];exact O
 obtain⟨jL,rX,rfl,dd,_,jR⟩:=alQ O am D9;exact⟨⟨k,x,m,y,Pu,d,_,_,rfl,dd,fun x y=>by cases y;exact jR⟩,gb⟩
end
end Go.bj
namespace Go.b3
open Go Go.Proofs.Tryz Go.Proofs Go.RowKit Go.Lib Go.aI
open Go.bj (e0)
theorem Sd:(prog.info? 3).map (fun i=>(i.zero,i.size,i.bytes))=some (some (.int .i64 0),1,8):=au
def uE(B:Nat->Prop)(w:World)(a:Option Addr)(l:List Int):Prop:=l.length<=40/\(0<l.length->∃b o,a=some ⟨b,o,none⟩/\B b/\b<w.heap.size/\∀i (hi:i<l.length),w.cell? ⟨b,o+i,none⟩=some (.int .i64 l[i]))
theorem uE.gf{B:Nat->Prop}{w w':World}{a:Option Addr}{l:List Int}(h:uE B w a l)(A:fw B w w'):uE B w' a l:=
 ⟨h.1,fun ab=>by
  obtain⟨b,o,e,d,c,f⟩:=h.2 ab
  exact⟨b,o,e,d,iz c A.1,fun i hi=>(A.cell d c).trans (f i hi)⟩⟩
theorem uE.low{B c:Nat->Prop}(d:∀b,B b->c b){w:World}{a:Option Addr}{l:List Int}(h:uE B w a l):uE c w a l:=
 ⟨h.1,fun ab=>by
  obtain⟨b,o,e,H,I⟩:=h.2 ab
  exact⟨b,o,e,d _ H,I⟩⟩
theorem uE.lt{B:Nat->Prop}{w:World}{a:Option Addr}{l:List Int}(h:uE B w a l):uE (fun b=>B b/\b<w.heap.size) w a l:=
 ⟨h.1,fun ab=>by
  obtain⟨b,o,e,H,I,c⟩:=h.2 ab
  exact⟨b,o,e,⟨H,I⟩,I,c⟩⟩
def EI(zs:List Int):List Int:=zs.mergeSort fun x y=>decide (x<=y)
theorem aCI(w:World)(base:Nat)(a:Option Addr)(c:Nat)(zs:List Int)(h:w.ownsRow base 3 1 (.slice a zs.length c) zs.length (e0 zs))(k:zs.length<=100): Calls prog 22 #[.slice a zs.length c] w fun e w'=>e=.returned (.tuple #[])/\w'.ownsRow base 3 1 (.slice a zs.length c) zs.length (e0 (EI zs))/\w.grownBy w' (Value.slice a zs.length c).ownBlock:=by
 rcases h.2 with⟨e,ab⟩|⟨g,cap,j,e,d,A,H,I,b,ah⟩
 ·have f:zs=[]:=yK ab;subst f;cases e;refine(AnyM.slices_Sort_int_none sortA none 0 w).mono ?_;rintro e w' ⟨rfl,rfl⟩;exact⟨rfl,by simpa[EI]using h,⟨rfl,rfl,rfl,aZ _,fun _ _ _=>rfl⟩⟩
 ·cases e;have i:=holds_of_blockI (ss:=zs) A (by rw[tv]at ah;exact ah);refine(AnyM.slices_Sort_int sortA g 0 c zs w i (b1 A) z).mono ?_;rintro e w' ⟨rfl,n,os,rfl⟩;exact⟨rfl,ownsRow_sortedI (ss:=zs) (anK zs) d A H I b,grownBy_sortedI _⟩
theorem aeh(zs:List Int):(Lib.compact zs).length<=zs.length:=by
 unfold Lib.compact Lib.compactUpTo;rw[HT];exact db (anJ _ _) am
theorem atX(w:World):Go.Sort.grow w #[]=w:=by simp[Go.Sort.grow]
theorem arV(w:World)(base:Nat)(a:Option Addr)(c:Nat)(zs:List Int)(h:w.ownsRow base 3 1 (.slice a zs.length c) zs.length (e0 zs))(x:zs.length<=100): Calls prog 23 #[.slice a zs.length c] w fun e w'=>e=.returned (.slice a (Lib.compact zs).length c)/\w'.ownsRow base 3 1 (.slice a (Lib.compact zs).length c) (Lib.compact zs).length (e0 (Lib.compact zs))/\w.grownBy w' (Value.slice a zs.length c).ownBlock:=by
 rcases h.2 with⟨e,ab⟩|⟨g,cap,u,e,l,A,H,I,k,ah⟩
 ·have m:zs=[]:=yK ab;subst m;cases e;refine(Any.slices_Compact_int_empty compA none 0 w).mono ?_;rintro e w' ⟨rfl,rfl⟩;exact⟨rfl,h,⟨rfl,rfl,rfl,aZ _,fun _ _ _=>rfl⟩⟩
 ·cases e;have o:=holds_of_blockI (ss:=zs) A (by rw[tv]at ah;exact ah);refine(Any.slices_Compact_int compA g 0 c zs w o z H).mono ?_;rintro e w' ⟨rfl,q,rfl⟩;have j:=aeh zs;have i:(Lib.compact zs++List.replicate (zs.length-(Lib.compact zs).length) 0).length=zs.length:=by rw[ie,List.length_replicate];omega
  have b:=ownsRow_sortedI (n:=q) (os:=#[]) (ss:=zs) i l A H I k;have d:=grownBy_sortedI (w:=w) (g:=g) (n:=q) (os:=#[]) (Lib.compact zs++List.replicate (zs.length-(Lib.compact zs).length) 0).toArray;rw[atX]at b d;refine⟨rfl,⟨by simp[e0],.inr ?_⟩,d⟩;rcases b.2 with⟨e,_⟩|⟨y,B,f,e,ce,eb,eV,r,s,t⟩
  ·cases e
  ·cases e;refine⟨g,c,f,rfl,ce,eb,z,r,s,?_⟩;have:=ih (List.take (Lib.compact zs).length) t;rw[List.take_take,tv,M1 j,←MT,List.take_left]at this;rw[tv];exact this
end Go.b3
namespace Go.b3
open Go
structure l9 (cH:List Int) (l:List (Int×Int)) (R:List Int):Prop where
 BF:R.Pairwise (· < ·)
 oI:∀x,x∈R↔ ∃p∈l,p.2=x/\p.1∈cH
theorem ah1:∀{R S:List Int},R.Pairwise (· < ·)->S.Pairwise (· < ·)->(∀x,x∈R↔x∈S)->R=S
 |[],[],_,_,_=>rfl
 |[],s::S,_,_,h=>absurd ((h s).2 (mQ ..)) am
 |r::R,[],_,_,h=>absurd ((h r).1 (mQ ..)) am
 |r::R,s::S,f,d,h=>by
  have c:=MX.1 f
  have b:=MX.1 d
  have e:r=s:=by
   rcases gl.1 ((h r).1 (mQ ..))with e|H
   ·exact e
   ·rcases gl.1 ((h s).2 (mQ ..))with e|I
    ·exact e.symm
    ·have:=b.1 r H
     have:=c.1 s I
     omega
  subst e
  rw[ah1 c.2 b.2 fun x=>?_]
  constructor
  ·intro a
   rcases gl.1 ((h x).1 (i6 _ a))with e|H
   ·have:=c.1 x a;omega
   ·exact H
  ·intro a
   rcases gl.1 ((h x).2 (i6 _ a))with e|H
   ·have:=b.1 x a;omega
   ·exact H
section
variable {cH:List Int} {l:List (Int×Int)} {R S:List Int} {p:Int×Int}
theorem l9.nil(cH:List Int):l9 cH [] []:=⟨.nil,fun x=>am⟩
theorem l9.as8(h:l9 cH l R)(k:l9 cH l S):R=S:=ah1 h.BF k.BF fun x=>(h.oI x).trans (k.oI x).symm
theorem l9.none(h:l9 [] l R):R=[]:=by
 cases R with
 |nil=>rfl
 |cons x R=>obtain⟨p,_,_,H⟩:=(h.oI x).1 (mQ ..);cases H
theorem l9.skip(h:l9 cH l R)(ag:p.1∉cH):l9 cH (l++[p]) R:=⟨h.BF,fun x=>by
 rw[h.oI]
 constructor
 ·rintro⟨q,H,I⟩;exact⟨q,RO _ H,I⟩
 ·rintro⟨q,H,I,a⟩
  rcases nJ.1 H with H|H
  ·exact⟨q,H,I,a⟩
  ·obtain rfl:q=p:=by simpa using H
   exact absurd a ag⟩
theorem l9.HA(h:l9 cH l R)(ag:p.2∈R):l9 cH (l++[p]) R:=⟨h.BF,fun x=>by
 rw[h.oI]
 constructor
 ·rintro⟨q,H,I⟩;exact⟨q,RO _ H,I⟩
 ·rintro⟨q,H,I,a⟩
  rcases nJ.1 H with H|H
  ·exact⟨q,H,I,a⟩
  ·obtain rfl:q=p:=by simpa using H
   rw[←I]
   exact(h.oI _).1 ag⟩
theorem l9.WW(h:l9 cH l R)(ag:p.1∈cH)(n:Nat)(o:n<=R.length)(aq:∀j (c:j<R.length),j<n->R[j]<p.2)(g:∀c:n<R.length,p.2<R[n]): l9 cH (l++[p]) (R.take n++p.2::R.drop n):=by
 have ah:∀x∈R.take n,x<p.2:=fun x d=>by obtain⟨j,c,rfl⟩:=Cr.1 d;rw[List.getElem_take];exact aq j (by simp at c;omega) (by simp at c;omega)
 have hd:∀x∈R.drop n,p.2<x:=fun x d=>by
  obtain⟨j,c,rfl⟩:=Cr.1 d;rw[anF];have m:n+j<R.length:=by simp at c;omega
  by_cases e:j=0
  ·subst e;exact g z
  ·exact Int.lt_trans (g z) (RQ.1 h.BF n (n+j) z m z)
 refine⟨?_,fun x=>?_⟩
 ·rw[List.pairwise_append];refine⟨h.BF.sublist (anO ..),MX.2 ⟨hd,h.BF.sublist (List.drop_sublist ..)⟩,fun a f b A=>?_⟩;rcases gl.1 A with rfl|A
  ·exact ah a f
  ·exact Int.lt_trans (ah a f) (hd b A)
 ·have d:x∈R.take n++p.2::R.drop n↔x∈R∨x=p.2:=by
   have k:x∈R↔x∈R.take n∨x∈R.drop n:=by rw[←nJ,yR]
   rw[nJ,gl,k];constructor
   ·rintro(h|h|h)
    ·exact .inl (.inl h)
    ·exact .inr h
    ·exact .inl (.inr h)
   ·rintro((h|h)|h)
    ·exact .inl h
    ·exact .inr (.inr h)
    ·exact .inr (.inl h)
  rw[d,h.oI];constructor
  ·rintro(⟨q,H,I⟩|rfl)
   ·exact⟨q,RO _ H,I⟩
   ·exact⟨p,am,rfl,ag⟩
  ·rintro⟨q,H,I,i⟩;rcases nJ.1 H with H|H
   ·exact .inl ⟨q,H,I,i⟩
   ·obtain rfl:q=p:=by simpa using H
    exact .inr I.symm
end
theorem arU{Z:List Int}(h:Z.Pairwise (· <= ·)):(Lib.compact Z).Pairwise (· < ·)/\∀x,x∈Lib.compact Z↔x∈Z:=by
 have le:∀i j,i<=j->j<Z.length->Z[i]! <=Z[j]! :=fun i j d a=>by
  rw[H3 Z i z,H3 Z j a];by_cases e:i=j
  ·subst e;exact Int.le_refl _
  ·exact RQ.1 h i j z a z
 have c:∀i,Z.toArray[i]! =Z[i]! :=fun i=>by
  by_cases hi:i<Z.length
  ·rw[H3 Z i hi,H3 Z.toArray i (by simpa using hi),anH]
  ·rw[getElem!_neg Z i hi,getElem!_neg Z.toArray i (by simpa using hi)]
 constructor
 ·unfold Lib.compact Lib.compactUpTo;rw[List.pairwise_map];have g:((List.range Z.length).filter (Lib.keeps Z.toArray)).Pairwise (fun i j=>i<j):=List.pairwise_lt_range.sublist List.filter_sublist;refine g.imp_of_mem fun {i j} hi a d=>?_;simp only[yP,ts,Lib.keeps,R0]at hi a;simp only[c]at hi a⊢;rcases a.2 with e|e
  ·omega
  ·have H:=le i (j-1) z z;have I:=le (j-1) j z a.1;omega
 ·intro x;unfold Lib.compact Lib.compactUpTo;simp only[yQ,yP,ts,Lib.keeps,R0,c];constructor
  ·rintro⟨i,⟨hi,_⟩,rfl⟩;rw[H3 Z i hi];exact fM hi
  ·intro f;obtain⟨j,a,m⟩:=Cr.1 f;have first:∀(n j:Nat),j<=n->j<Z.length->Z[j]! =x->∃i,i<Z.length/\(i=0∨Z[i]! ≠Z[i-1]!)/\Z[i]! =x:=by
    intro n;induction n with
    |zero=>intro j a b e;exact⟨j,b,.inl z,e⟩
    |succ n o=>
     intro j a b e;by_cases ab:j=0
     ·exact⟨j,b,.inl ab,e⟩
     ·by_cases H:Z[j]! =Z[j-1]!
      ·exact o (j-1) z z (by rw[←H];exact e)
      ·exact⟨j,b,.inr H,e⟩
   obtain⟨i,H,I,k⟩:=first j j (aZ _) a (by rw[H3 Z j a];exact m)
   exact⟨i,⟨H,I⟩,k⟩
theorem l9.EI{cH c Z:List Int}{l:List (Int×Int)}(e:c=(l.filter fun p=>decide (p.1∈cH)).map (·.2))(ag:Z.Perm c)(d:Z.Pairwise (· <= ·)):l9 cH l (Lib.compact Z):=by
 obtain⟨H,I⟩:=arU d;refine⟨H,fun x=>?_⟩;rw[I,ag.mem_iff,e];simp only[yQ,yP,R0];constructor
 ·rintro⟨p,⟨b,a⟩,rfl⟩;exact⟨p,b,rfl,a⟩
 ·rintro⟨p,b,rfl,a⟩;exact⟨p,⟨b,a⟩,rfl⟩
end Go.b3
