/- ConflictAuthors. -/
import Derived.Test.YtfgcglgpfgifkaaGreatDoorP03
import Derived.Test.YtfgcglgpfgifkaaGreatDoorP07
set_option linter.all false
set_option maxRecDepth 100000
set_option maxHeartbeats 16000000
namespace Go.b3
open Go Go.Proofs.Tryz Go.Proofs Go.RowKit Go.Lib Go.aI
theorem Qg(N S:Int)(w:World):Calls prog 369 #[.agg #[.int .i64 N,.int .i64 S]] w fun e w'=>e=.returned (.agg (bY 2 bL N S 0 none 0 0 none 0 0))/\Below w.heap.size w w':=by
 go_enter func369,ntmps369
 go_wp2;refine fL (by simp[results,results369,go_sem];rfl) rfl ?_;exact⟨rfl,((bi _ _).alloc (aZ _) _).alloc am _⟩
theorem Re(s:ByteArray)(w:World):Calls prog 368 #[.string s] w fun e w'=>e=.returned (.agg (bY 1 s 0 0 0 none 0 0 none 0 0))/\Below w.heap.size w w':=by
 go_enter func368,ntmps368
 go_wp2;refine fL (by simp[results,results368,go_sem];rfl) rfl ?_;exact LF
theorem asm(n:Int)(w:World):Calls prog 370 #[.int .i64 n] w fun e w'=>e=.returned (.agg (bY 3 bL 0 0 n none 0 0 none 0 0))/\Below w.heap.size w w':=by
 go_enter func370,ntmps370
 go_wp2;refine fL (by simp[results,results370,go_sem];rfl) rfl ?_;exact LF
def ap'(e:Ending):Prop:=∃n:Int,(n=0∨n=1)/\e=.returned (.agg (bY 4 bL 0 0 n none 0 0 none 0 0))
theorem amV(b:Bool)(w:World):Calls prog 371 #[.bool b] w fun e w'=>ap' e/\Below w.heap.size w w':=by
 cases b<;>
 ·go_enter func371,ntmps371
  go_wp2;refine fL (by simp[results,results371,go_sem];rfl) rfl ?_;exact⟨⟨_,am,rfl⟩,(bi _ _).alloc (aZ _) _⟩
theorem Ye(N S:Int)(w:World):Calls prog 500 #[.agg #[.int .i64 N,.int .i64 S],.bool true] w fun e w'=>e=.returned (.tuple #[.agg (bY 2 bL N S 0 none 0 0 none 0 0),.int .i64 0])/\Below w.heap.size w w':=by
 have c:=G fun w=>Qg N S w;have T:=kZ w (.cells #[.int .i64 N,.int .i64 S] 40 (0,0)) (.cells (bY 0 bL 0 0 0 none 0 0 none 0 0) 44 (0,0));go_enter func500,ntmps500
 go_wp2_with (go_at_call 369;(with_reducible refine(c.out _).mono ?_);rintro e d ⟨rfl,b⟩;have a:=T.U b;obtain⟨l,g,k,m,n,o,q⟩:=eU a.q;obtain⟨z0,f,i,z3,z4,z5,j⟩:=gI a.q);refine fL (jp (fn:=f500) rfl _ _ (w.heap.size+1) 44 _ (0,0) _ _ rfl rfl (h3 a.q _ _ _ _ _ _ _) underlying44 rfl iJ) rfl ?_;exact⟨rfl,ib a.h z _ _ _ _ _ _ _⟩
def acY(l:List ByteArray)(s:ByteArray)(e:Ending):Prop:=∃r:Int,e=.returned (.int .i64 r)/\((∃(k:Nat) (a:k<l.length),r=k/\l[k]=s)∨(r= -1/\s∉l))
theorem arT(w:World)(a:Option Addr)(c:Nat)(l:List ByteArray)(s:ByteArray)(h:he be w a l): Calls prog 170 #[.slice a l.length c,.string s] w fun e w'=>acY l s e/\w=w':=by
 have d:=h.1;have ay:=G h.2;clear h;go_enter func170,ntmps170;exact ai9
theorem Jd(w:World)(a:Option Addr)(c:Nat)(l:List ByteArray)(s:ByteArray)(h:he be w a l)(r:Bool)(d:r=true↔s∈l): Calls prog 372 #[.string s,.slice a l.length c] w fun e w'=>e=.returned (.bool r)/\w=w':=by
 have C:=G (arT w a c l s h);go_enter func372,ntmps372
 go_wp2_with (go_at_call 170;(with_reducible refine(C.out).mono ?_);rintro e g ⟨⟨x,rfl,b⟩,rfl⟩);go_ret;refine⟨?_,rfl⟩;rcases b with⟨k,f,rfl,b⟩|⟨rfl,b⟩
 ·have:s∈l:=b▸fM f;rw[d.2 this];simp
 ·have:r=false:=by
   cases r with
   |false=>rfl
   |true=>exact absurd (d.1 rfl) b
  rw[this];simp
def an7(l:List (ByteArray×Nat))(s:ByteArray)(e:Ending):Prop:=∃(k:Nat) (a:k<l.length),e=.returned (.int .i64 k)/\l[k].1=s
theorem arO(w:World)(a:Option Addr)(c:Nat)(l:List (ByteArray×Nat))(s:ByteArray)(h:Go.c0.iM w a l)(B:l.length<=8)(n:∃x∈l,x.1=s): Calls prog 168 #[.slice a l.length c,.string s] w fun e w'=>an7 l s e/\w=w':=by
 obtain⟨b,o,arr,bg,rfl,A,m⟩:=h;have y:Hid (∀k (g:k<l.length),w.cell? ⟨b,o+k*2,none⟩=some (.string l[k].1)):=G fun k g=>by simp[World.cell?,A,(m k g).1]
 have E:b<w.heap.size:=(hl.1 A).1;have u:=G n;clear A m n;go_enter func168,ntmps168
 go_wp2;go_loop [5] (fun i=>∃k:Nat,k<=l.length/\i=.int .i64 k/\Hid (∀j (f:j<l.length),j<k->l[j].1≠s)) (fun i=>l.length-(RowKit.intOf i).toNat);case atStart=>exact⟨0,dq _,rfl,G fun j _ f=>z⟩
 case round=>
  obtain⟨k,g,rfl,q⟩:=hrel;by_cases aq:k<l.length
  ·have br:=y.out k aq;have C:(0:Int)<=(k:Int):=z;have D:(k:Int)<l.length:=z;by_cases d:l[k].1=s
   ·rw[d]at br;have ak:=qc s
    go_wp2;go_ret;exact⟨⟨k,aq,rfl,d⟩,rfl⟩
   ·have ak:=fy d;have r:Hid (∀j (f:j<l.length),j<k+1->l[j].1≠s):=G fun j f F=>by
     by_cases e:j=k
     ·subst e;exact d
     ·exact q.out j f z
    generalize l[k].1=x at*
    go_wp2;go_round;case rel=>exact⟨k+1,z,bM,r⟩
    case measure=>simp[RowKit.intOf];omega
  ·exfalso;obtain⟨x,d,e⟩:=u.out;obtain⟨j,f,t⟩:=Cr.1 d;exact q.out j f z (by rw[t];exact e)
def y9(n s:Nat)(e:Ending):Prop:=∃(N:Int) (S:Nat),e=.returned (.tuple #[.agg #[.int .i64 N,.int .i64 S],.bool true])/\g1 N S/\S<=3/\N.natAbs<=n/\S<=s
theorem an9(a:ByteArray)(n s:Nat)(w:World)(A:dm a n)(B:n<=1000000000000000)(y:s<=3):Calls prog 285 #[.agg #[.bool true,.string a,.int .i64 s]] w fun e w'=>y9 n s e/\Below w.heap.size w w':=by
 have r:Hid (∀w,Calls prog 86 #[.int .i64 10] w fun e w'=>hc 10 e/\Below w.heap.size w w'):=fun w=>pe 10 w z;have T:=kZ w (.cells #[.bool true,.string a,.int .i64 s] 244 (0,0)) (.cells #[.int .i64 0,.int .i64 0] 40 (0,0));have D:Hid (p7 w ((w.alloc (.cells #[.bool true,.string a,.int .i64 s] 244 (0,0))).alloc (.cells #[.int .i64 0,.int .i64 0] 40 (0,0))) w.heap.size (w.heap.size+1) true n s a):=⟨⟨T.p⟩,T.q,A,B,y,T.h,z,z,z⟩;clear T A B y;go_enter func285,ntmps285
 go_wp2;generalize (w.alloc (.cells #[.bool true,.string a,.int .i64 s] 244 (0,0))).alloc (.cells #[.int .i64 0,.int .i64 0] 40 (0,0))=R at*;obtain⟨bF,j⟩:∃bF,bF=w.heap.size+1:=⟨_,rfl⟩;obtain⟨c,o⟩:∃c,c=w.heap.size:=⟨_,rfl⟩;rw[←j,←o]at D;rw[←j,←o];clear o j;go_loopw [4,5,6] (fun _ _ _ wr=>∃(m k:Nat) (t:ByteArray),p7 w wr c bF true m k t/\k<=s/\m<=n) (fun _ _ _ wr=>match wr.cell? ⟨c,2,none⟩with|some (.int _ k)=>k.toNat|_=>0);case atStart=>exact⟨n,s,a,D.out,aZ _,aZ _⟩
 case round=>
  obtain⟨m,k,t,d,j9,S⟩:=hrel;have l:=G d;have c1:=d.x.c1;have c2:=d.x.c2;have q:Hid (∀f w,dm f 10->Calls prog 189 #[.string t,.string f] w fun e w'=>I3 m 10 e/\Below w.heap.size w w'):=fun f w I=>yj t f m 10 w d.t I (by have:=d.n;omega) z z;have X:=d.n;clear d;by_cases P:0<k
  ·have J:0<(k:Int):=z;obtain⟨e5,mD⟩:∃e5,e5+1=k:=⟨k-1,z⟩;have V:(k:Int)-1=(e5:Int):=z
   go_wp2
   go_region_held3 (fun W=>W.cell? ⟨c,1,none⟩=some (.string t)) (first|exact c1|exact ak|exact L|go_keep) (first|(have _:=C;go_at_call 189;(with_reducible refine(q.out f _ C).mono ?_);rintro e U ⟨⟨ep,eq,rfl,uf,jl⟩,E⟩;have ct:=G (u.out.U E);have L:=ct.out.x.c1)|(go_at_call 86;(with_reducible refine(r.out _).mono ?_);rintro e Q ⟨⟨f,rfl,C⟩,j⟩;have u:=G (l.out.drew.U j);have ak:=u.out.x.c1));by_cases ax:m%10=0
   ·exact ajG
   ·have nB:=GX jl z;have j_:0<(eq.size:Int):=z;have vS:Hid (k=0∨m%10≠0):=.inr ax;obtain⟨fu,b'⟩:=jK ct.out.r;obtain⟨z0,cy⟩:=nR ct.out.r;have N:=ct.out.x.br;have H:=ct.out.x.c1;have K:=ct.out.x.c2;have eV:(k:Int)<=6:=(by have:=ct.out.k;omega);have O:(m:Int)<=1000000000000000:=(by have:=ct.out.n;omega);have F:c≠bF:=(by have:=ct.out.g;omega);have M:bF≠c:=(by have:=ct.out.g;omega);clear r q l u;exact aj5
  ·have J:¬0<(k:Int):=z;have vS:Hid (k=0∨m%10≠0):=.inl z;have ct:=l;obtain⟨fu,b'⟩:=jK ct.out.r;obtain⟨z0,cy⟩:=nR ct.out.r;have N:=ct.out.x.br;have H:=ct.out.x.c1;have K:=ct.out.x.c2;have eV:(k:Int)<=6:=(by have:=ct.out.k;omega);have O:(m:Int)<=1000000000000000:=(by have:=ct.out.n;omega);have F:c≠bF:=(by have:=ct.out.g;omega);have M:bF≠c:=(by have:=ct.out.g;omega);clear r q l;exact aj5
theorem an8(a:ByteArray)(n s:Nat)(w:World)(A:dm a n)(B:n<=1000000000000000)(y:s<=3):Calls prog 285 #[.agg #[.bool false,.string a,.int .i64 s]] w fun e w'=>y9 n s e/\Below w.heap.size w w':=by
 have r:Hid (∀w,Calls prog 86 #[.int .i64 10] w fun e w'=>hc 10 e/\Below w.heap.size w w'):=fun w=>pe 10 w z;have T:=kZ w (.cells #[.bool false,.string a,.int .i64 s] 244 (0,0)) (.cells #[.int .i64 0,.int .i64 0] 40 (0,0));have D:Hid (p7 w ((w.alloc (.cells #[.bool false,.string a,.int .i64 s] 244 (0,0))).alloc (.cells #[.int .i64 0,.int .i64 0] 40 (0,0))) w.heap.size (w.heap.size+1) false n s a):=⟨⟨T.p⟩,T.q,A,B,y,T.h,z,z,z⟩;clear T A B y;go_enter func285,ntmps285
 go_wp2;generalize (w.alloc (.cells #[.bool false,.string a,.int .i64 s] 244 (0,0))).alloc (.cells #[.int .i64 0,.int .i64 0] 40 (0,0))=R at*;obtain⟨bF,j⟩:∃bF,bF=w.heap.size+1:=⟨_,rfl⟩;obtain⟨c,o⟩:∃c,c=w.heap.size:=⟨_,rfl⟩;rw[←j,←o]at D;rw[←j,←o];clear o j;go_loopw [4,5,6] (fun _ _ _ wr=>∃(m k:Nat) (t:ByteArray),p7 w wr c bF false m k t/\k<=s/\m<=n) (fun _ _ _ wr=>match wr.cell? ⟨c,2,none⟩with|some (.int _ k)=>k.toNat|_=>0);case atStart=>exact⟨n,s,a,D.out,aZ _,aZ _⟩
 case round=>
  obtain⟨m,k,t,d,j9,S⟩:=hrel;have l:=G d;have c1:=d.x.c1;have c2:=d.x.c2;have q:Hid (∀f w,dm f 10->Calls prog 189 #[.string t,.string f] w fun e w'=>I3 m 10 e/\Below w.heap.size w w'):=fun f w I=>yj t f m 10 w d.t I (by have:=d.n;omega) z z;have X:=d.n;clear d;by_cases P:0<k
  ·have J:0<(k:Int):=z;obtain⟨e5,mD⟩:∃e5,e5+1=k:=⟨k-1,z⟩;have V:(k:Int)-1=(e5:Int):=z
   go_wp2
   go_region_held3 (fun W=>W.cell? ⟨c,1,none⟩=some (.string t)) (first|exact c1|exact ak|exact L|go_keep) (first|(have _:=C;go_at_call 189;(with_reducible refine(q.out f _ C).mono ?_);rintro e U ⟨⟨ep,eq,rfl,uf,jl⟩,E⟩;have ct:=G (u.out.U E);have L:=ct.out.x.c1)|(go_at_call 86;(with_reducible refine(r.out _).mono ?_);rintro e Q ⟨⟨f,rfl,C⟩,j⟩;have u:=G (l.out.drew.U j);have ak:=u.out.x.c1));by_cases ax:m%10=0
   ·exact ajG
   ·have nB:=GX jl z;have j_:0<(eq.size:Int):=z;have vS:Hid (k=0∨m%10≠0):=.inr ax;obtain⟨fu,b'⟩:=jK ct.out.r;obtain⟨z0,cy⟩:=nR ct.out.r;have N:=ct.out.x.br;have H:=ct.out.x.c1;have K:=ct.out.x.c2;have eV:(k:Int)<=6:=(by have:=ct.out.k;omega);have O:(m:Int)<=1000000000000000:=(by have:=ct.out.n;omega);have F:c≠bF:=(by have:=ct.out.g;omega);have M:bF≠c:=(by have:=ct.out.g;omega);clear r q l u;exact aj9
  ·have J:¬0<(k:Int):=z;have vS:Hid (k=0∨m%10≠0):=.inl z;have ct:=l;obtain⟨fu,b'⟩:=jK ct.out.r;obtain⟨z0,cy⟩:=nR ct.out.r;have N:=ct.out.x.br;have H:=ct.out.x.c1;have K:=ct.out.x.c2;have eV:(k:Int)<=6:=(by have:=ct.out.k;omega);have O:(m:Int)<=1000000000000000:=(by have:=ct.out.n;omega);have F:c≠bF:=(by have:=ct.out.g;omega);have M:bF≠c:=(by have:=ct.out.g;omega);clear r q l;exact aj9
theorem Gc(neg:Bool)(a:ByteArray)(n s:Nat)(w:World)(c:dm a n)(d:n<=1000000000000000)(b:s<=3):Calls prog 285 #[.agg #[.bool neg,.string a,.int .i64 s]] w fun e w'=>y9 n s e/\Below w.heap.size w w':=by
 cases neg
 ·exact an8 a n s w c d b
 ·exact an9 a n s w c d b
theorem cX{w:World}{b:Nat}{o:Obj}(h:w.heap[b]? =some o):b<w.heap.size:=(hl.1 h).1
def ap2(n M:Nat)(e:Ending):Prop:=∃(neg:Bool) (k:Nat),mX neg k M e/\k<=n
theorem aAz(p q:Bool)(a b:ByteArray)(m n s u M:Nat)(w:World)(j:dm a m)(A:dm b n)(d:m<=1000000000000000)(f:n<=1000000000000000)(k:M=max s u)(l:M<=3)(aD c:Nat)(g:aD=m*10^(M-s))(i:c=n*10^(M-u)): Calls prog 577 #[.agg #[.bool p,.string a,.int .i64 s],.agg #[.bool q,.string b,.int .i64 u]] w fun e w'=>ap2 (aD+c) M e/\Below w.heap.size w w':=by
 have y:10^(M-s)<=10^3:=ks z z;have x:10^(M-u)<=10^3:=ks z z;have o:aD<=1000000000000000000:=by rw[g];exact w3 d y
 have r:c<=1000000000000000000:=by rw[i];exact w3 f x
 by_cases t:p=q
 ·subst t;exact(X_ p a b m n s u M w j A d f k l aD c g i o r).mono fun e w' ⟨h,A⟩=>⟨⟨_,_,h,aZ _⟩,A⟩
 ·cases p
  ·obtain rfl:q=true:=by cases q<;>simp_all
   by_cases aq:aD<c
   ·exact(ak_ a b m n s u M w j A d f k l aD c g i o r aq).mono fun e w' ⟨h,A⟩=>⟨⟨_,_,h,z⟩,A⟩
   ·exact(ala a b m n s u M w j A d f k l aD c g i o r z).mono fun e w' ⟨h,A⟩=>⟨⟨_,_,h,z⟩,A⟩
  ·obtain rfl:q=false:=by cases q<;>simp_all
   by_cases aq:aD<c
   ·exact(ak' a b m n s u M w j A d f k l aD c g i o r aq).mono fun e w' ⟨h,A⟩=>⟨⟨_,_,h,z⟩,A⟩
   ·exact(alb a b m n s u M w j A d f k l aD c g i o r z).mono fun e w' ⟨h,A⟩=>⟨⟨_,_,h,z⟩,A⟩
theorem q0{w:World}{b c i j k:Nat}{u v:Value}(h:c≠b):((w.setCell ⟨c,j,none⟩ u).setCell ⟨c,k,none⟩ v).cell? ⟨b,i,none⟩=w.cell? ⟨b,i,none⟩:=by
 rw[tp _ _ _ _ h,tp _ _ _ _ h]
theorem Mt(w:World)(a b c:Obj):Below w.heap.size w (((w.alloc a).alloc b).alloc c)/\(((w.alloc a).alloc b).alloc c).heap[w.heap.size]? =some a/\(((w.alloc a).alloc b).alloc c).heap[w.heap.size+1]? =some b/\(((w.alloc a).alloc b).alloc c).heap[w.heap.size+1+1]? =some c:=by
 have cy:=jC w a;have dv:=jC (w.alloc a) b;exact Xx
theorem adA(i j:Int)(m o M:Nat)(w:World)(H:g1 i m)(I:g1 j o)(fp:M=max m o)(hO:M<=3)(aD D:Nat)(U:aD=i.natAbs*10^(M-m))(fF:D=j.natAbs*10^(M-o))(Bk:aD+D<=1000000000000000): Calls prog 501 #[.agg #[.int .i64 i,.int .i64 m],.agg #[.int .i64 j,.int .i64 o]] w fun e w'=>y9 (aD+D) M e/\Below w.heap.size w w':=by
 have X:=G fun W=>wf i m W H;have V:=G fun W=>wf j o W I;have h6:=G fun a b W (F:dm a i.natAbs) (A:dm b j.natAbs)=>aAz (decide (i<0)) (decide (j<0)) a b i.natAbs j.natAbs m o M W F A (by have:=H.2.2;omega) (by have:=I.2.2;omega) fp hO aD D U fF;have k1:=G fun neg a n W (F:dm a n) (aw:n<=aD+D)=>Gc neg a n M W F z hO;obtain⟨W,K⟩:∃W,W=((w.alloc (.cells #[.int .i64 i,.int .i64 m] 40)).alloc (.cells #[.int .i64 j,.int .i64 o] 40)).alloc (.cells #[.int .i64 0,.int .i64 0] 40):=⟨_,rfl⟩;have ay:=Mt w (.cells #[.int .i64 i,.int .i64 m] 40) (.cells #[.int .i64 j,.int .i64 o] 40) (.cells #[.int .i64 0,.int .i64 0] 40);rw[←K]at ay;obtain⟨E,L,J,C⟩:=ay;clear H I fp U fF Bk;go_enter func501,ntmps501
 go_wp2;rw[←K];clear K;obtain⟨fj,dy⟩:=jK L;obtain⟨Y,Z⟩:=jK J;obtain⟨fu,b'⟩:=jK C;obtain⟨z0,cy⟩:=nR C;have O:=(hl.1 L).1;have b2:=(hl.1 J).1;have cL:=(hl.1 C).1;have R:w.heap.size+1+1≠w.heap.size:=z;have T:w.heap.size+1+1≠w.heap.size+1:=z;have cd:=G C;have P:=G E;clear L J C E
 go_region_held3 (fun aT=>aT.cell? ⟨w.heap.size,0,none⟩=some (.int .i64 i)/\aT.cell? ⟨w.heap.size,1,none⟩=some (.int .i64 m)/\aT.cell? ⟨w.heap.size+1,0,none⟩=some (.int .i64 j)/\aT.cell? ⟨w.heap.size+1,1,none⟩=some (.int .i64 o)) (first|exact⟨fj,dy,Y,Z⟩|exact⟨u,t,s,r⟩|exact⟨(q0 R).trans u,(q0 R).trans t,(q0 T).trans s,(q0 T).trans r⟩|go_keep) (first
  |(go_at_call 285;(with_reducible refine(k1.out _ _ _ _ pO Q).mono ?_);rintro e bq ⟨⟨N,S,rfl,jQ,s1,s2,vh⟩,q⟩;have u:=aA q l u;have t:=aA q l t;have s:=aA q k s;have r:=aA q k r;have fV:=aA q c fV;have x:=aA q c x;have B:=s_ q c B;have y:=s_ q c y)
  |(go_at_call 577;(with_reducible refine(h6.out _ _ _ qr nZ).mono ?_);rintro e a' ⟨⟨ab,n5,⟨t5,rfl,pO⟩,Q⟩,d⟩;have u:=aA d l u;have t:=aA d l t;have s:=aA d k s;have r:=aA d k r;have fV:=aA d c fV;have x:=aA d c x;have B:=s_ d c B;have y:=s_ d c y;have l:=cE d l;have k:=cE d k;have c:=cE d c)
  |(have aa:=qr;go_at_call 187;(with_reducible refine(V.out _).mono ?_);rintro e bh ⟨⟨t4,rfl,nZ⟩,g⟩;have u:=aA g l u;have t:=aA g l t;have s:=aA g k s;have r:=aA g k r;have fV:=aA g c fV;have x:=aA g c x;have B:=s_ g c B;have y:=s_ g c y;have l:=cE g l;have k:=cE g k;have c:=cE g c)
  |(go_at_call 187;(with_reducible refine(X.out _).mono ?_);rintro e bz ⟨⟨t3,rfl,qr⟩,f⟩;have u:=aA f O fj;have t:=aA f O dy;have s:=aA f b2 Y;have r:=aA f b2 Z;have fV:=aA f cL fu;have x:=aA f cL b';have B:=s_ f cL z0;have y:=s_ f cL cy;have l:=cE f O;have k:=cE f b2;have c:=cE f cL))
 have ii:=P.out.drew.trans (f.mono P.out.size);have iL:=b_ ii g;have hT:=b_ iL d;have hv:=b_ hT q;have E:=G ((hv.setCell (p:=⟨w.heap.size+1+1,0,none⟩) (show w.heap.size<=w.heap.size+1+1 by omega) (.int .i64 N)).setCell (p:=⟨w.heap.size+1+1,1,none⟩) (show w.heap.size<=w.heap.size+1+1 by omega) (.int .i64 S));clear ii iL hT hv P X V h6 k1 cd
 go_wp2;refine fL (by simp[results,results501,go_sem,fV,x];rfl) rfl ?_;exact⟨⟨N,S,rfl,jQ,s1,db s2 Q,vh⟩,E.out⟩
theorem ayS(f g:Int)(c d M:Nat)(w:World)(fp:M=c+d)(H:g1 f c)(I:g1 g d)(hO:c+d<=3)(an:f.natAbs<16777216)(aw:g.natAbs<2147483648)(Bk:f.natAbs*g.natAbs<=1000000000000000): Calls prog 503 #[.agg #[.int .i64 f,.int .i64 c],.agg #[.int .i64 g,.int .i64 d]] w fun e w'=>y9 (f.natAbs*g.natAbs) M e/\Below w.heap.size w w':=by
 have bk:=G fun W=>wf f c W H;have bK:=G fun W=>wf g d W I;have h6:=G fun a b W (V:dm a f.natAbs) (A:dm b g.natAbs)=>ake a b _ _ W V A an aw;have k1:Hid (∀(neg:Bool) (a:ByteArray) (W:World),dm a (f.natAbs*g.natAbs)->Calls prog 285 #[.agg #[.bool neg,.string a,.int .i64 ((c:Int)+(d:Int))]] W fun e w'=>y9 (f.natAbs*g.natAbs) M e/\Below W.heap.size W w'):=G fun neg a W V=>by rw[show(c:Int)+(d:Int)=M by omega];exact Gc neg a _ M W V Bk z
 obtain⟨W,Y⟩:∃W,W=((w.alloc (.cells #[.int .i64 f,.int .i64 c] 40)).alloc (.cells #[.int .i64 g,.int .i64 d] 40)).alloc (.cells #[.int .i64 0,.int .i64 0] 40):=⟨_,rfl⟩;have ay:=Mt w (.cells #[.int .i64 f,.int .i64 c] 40) (.cells #[.int .i64 g,.int .i64 d] 40) (.cells #[.int .i64 0,.int .i64 0] 40);rw[←Y]at ay;obtain⟨q,cp,X,k⟩:=ay;have mj:IntKind.i64.wrap ((c:Int)+(d:Int))=(c:Int)+(d:Int):=oQ _ ⟨z,z⟩;have lj:(c:Int)<=3:=z;have n0:(d:Int)<=3:=z;clear H I Bk an aw;go_enter func503,ntmps503;go_upto_region 1 with fail
 rw[←Y];clear Y;obtain⟨E,C⟩:=jK cp;go_upto_region 2 with(go_at_call 187;(with_reducible refine(bk.out _).mono ?_);rintro e o ⟨⟨t3,rfl,qr⟩,l⟩)
 have ii:=(b_ q l).alloc (b_ q l).size (.cells #[.bool (decide (f<0)),.string t3,.int .i64 c] 244);have P:Below W.heap.size W (o.alloc (.cells #[.bool (decide (f<0)),.string t3,.int .i64 c] 244)):=l.alloc l.size _;have Dv:=(P.block _ (cX X)).trans X;have Q:=(P.block _ (cX k)).trans k;have O:=da o (.cells #[.bool (decide (f<0)),.string t3,.int .i64 c] 244);have zU:w.heap.size+1+1<o.heap.size:=iz (cX k) l.size;clear E C cp X k q l P;generalize o.heap.size=r at*;generalize (o.alloc (.cells #[.bool (decide (f<0)),.string t3,.int .i64 c] 244))=Tc at*;obtain⟨u,y⟩:=jK Dv;go_upto_region 3 with(go_at_call 187;(with_reducible refine(bK.out _).mono ?_);rintro e n ⟨⟨t4,rfl,nZ⟩,m⟩)
 have iL:=(b_ ii m).alloc (b_ ii m).size (.cells #[.bool (decide (g<0)),.string t4,.int .i64 d] 244);have U:Below Tc.heap.size Tc (n.alloc (.cells #[.bool (decide (g<0)),.string t4,.int .i64 d] 244)):=m.alloc m.size _;have k:=(U.block _ (cX Q)).trans Q;have R:=(U.block _ (cX O)).trans O;have T:=da n (.cells #[.bool (decide (g<0)),.string t4,.int .i64 d] 244);have Xj:r<n.heap.size:=iz (cX O) m.size;clear u y Dv Q O ii m U;generalize n.heap.size=s at*;generalize (n.alloc (.cells #[.bool (decide (g<0)),.string t4,.int .i64 d] 244))=aa at*;obtain⟨E,C,u⟩:=wj R;obtain⟨y,oP,yD⟩:=wj T;obtain⟨fu,b'⟩:=jK k;obtain⟨z0,cy⟩:=nR k;have F:=cX R;have b2:=cX T;have cL:=cX k;have cz:w.heap.size+1+1≠r:=z;have gs:w.heap.size+1+1≠s:=z;have p9:=G iL;clear R T k iL
 go_region_held3 (fun aT=>aT.cell? ⟨r,0,none⟩=some (.bool (decide (f<0)))/\aT.cell? ⟨r,1,none⟩=some (.string t3)/\aT.cell? ⟨r,2,none⟩=some (.int .i64 c)/\aT.cell? ⟨s,0,none⟩=some (.bool (decide (g<0)))/\aT.cell? ⟨s,1,none⟩=some (.string t4)/\aT.cell? ⟨s,2,none⟩=some (.int .i64 d)) (first|exact⟨E,C,u,y,oP,yD⟩|exact⟨D,B,x,t,K,L⟩|exact⟨(q0 cz).trans D,(q0 cz).trans B,(q0 cz).trans x,(q0 gs).trans t,(q0 gs).trans K,(q0 gs).trans L⟩|go_keep) (first
  |(go_at_call 285;(with_reducible refine(k1.out _ _ _ pO).mono ?_);rintro e bq ⟨⟨N,S,rfl,jQ,s1,s2,vh⟩,j⟩;have D:=aA j hR D;have B:=aA j hR B;have x:=aA j hR x;have t:=aA j gh t;have K:=aA j gh K;have L:=aA j gh L;have fV:=aA j J fV;have Z:=aA j J Z;have ft:=s_ j J ft;have dS:=s_ j J dS)
  |(go_at_call 173;(with_reducible refine(h6.out _ _ _ qr nZ).mono ?_);rintro e a' ⟨⟨t5,rfl,pO⟩,i⟩;have D:=aA i F E;have B:=aA i F C;have x:=aA i F u;have t:=aA i b2 y;have K:=aA i b2 oP;have L:=aA i b2 yD;have fV:=aA i cL fu;have Z:=aA i cL b';have ft:=s_ i cL z0;have dS:=s_ i cL cy;have hR:=cE i F;have gh:=cE i b2;have J:=cE i cL))
 have hT:=p9.out.drew.trans (i.mono p9.out.size);have hv:=b_ hT j;have q:=G ((hv.setCell (p:=⟨w.heap.size+1+1,0,none⟩) (show w.heap.size<=w.heap.size+1+1 by omega) (.int .i64 N)).setCell (p:=⟨w.heap.size+1+1,1,none⟩) (show w.heap.size<=w.heap.size+1+1 by omega) (.int .i64 S));clear hT hv p9 bk bK h6 k1
 go_wp2;refine fL (by simp[results,results503,go_sem,fV,Z];rfl) rfl ?_;exact⟨⟨N,S,rfl,jQ,s1,s2,vh⟩,q.out⟩
theorem alL(n p:Nat)(ag:0<p):(n*2+p)/(p*2)<=n:=by
 have h:n*2+p<p*2*(n+1):=by
  have I:n<=n*p:=anS n ag;have a:p*2*(n+1)=2*(n*p)+2*p:=by rw[Cw,tv,E3 p 2,Cx,E3 p n]
  omega
 have:=(Nat.div_lt_iff_lt_mul (z:0<p*2)).2 (by rw[E3 (n+1)];exact h);omega
theorem aBs(N:Int)(S:Nat)(w:World)(H:g1 N S)(bx:S<=3)(dG:N.natAbs<=1000000000000): Calls prog 504 #[.agg #[.int .i64 N,.int .i64 S],.int .i64 1] w fun e w'=>y9 N.natAbs 1 e/\Below w.heap.size w w':=by
 have bk:=G fun W=>wf N S W H;have T:=kZ w (.cells #[.int .i64 N,.int .i64 S] 40 (0,0)) (.cells #[.int .i64 0,.int .i64 0] 40 (0,0));have P:=T.p;have m:=T.q;have y:=T.h;obtain⟨r,q⟩:=jK P;clear T;obtain⟨W,K⟩:∃W,W=(w.alloc (.cells #[.int .i64 N,.int .i64 S] 40 (0,0))).alloc (.cells #[.int .i64 0,.int .i64 0] 40 (0,0)):=⟨_,rfl⟩;rw[←K]at P m y r q;go_enter func504,ntmps504;go_upto_region 3 with fail
 rw[←K];clear K;go_upto_region 4 with(go_at_call 187;(with_reducible refine(bk.out _).mono ?_);rintro e n ⟨⟨t3,rfl,qr⟩,k⟩)
 have ii:=(b_ y k).alloc (b_ y k).size (.cells #[.bool (decide (N<0)),.string t3,.int .i64 S] 244);have Gr:Below W.heap.size W (n.alloc (.cells #[.bool (decide (N<0)),.string t3,.int .i64 S] 244)):=k.alloc k.size _;have x:=(Gr.block _ (cX m)).trans m;have C:=da n (.cells #[.bool (decide (N<0)),.string t3,.int .i64 S] 244);have zU:w.heap.size+1<n.heap.size:=iz (cX m) k.size;clear r q P m y k Gr;generalize n.heap.size=e3 at*;generalize (n.alloc (.cells #[.bool (decide (N<0)),.string t3,.int .i64 S] 244))=Tc at*;obtain⟨r,q,cW⟩:=wj C;have U:=G ii;have O:=G x;have B:=cX C;have b2:=cX x;by_cases ax:S<=1
 ·have ex:(S:Int)<=1:=z;have R:=G fun W=>Gc (decide (N<0)) t3 N.natAbs S W qr z z;clear H x C ii
  go_wp2_with (go_at_call 285;(with_reducible refine(R.out _).mono ?_);rintro e bq ⟨⟨M,Z,rfl,Q,V,X,vh⟩,d⟩;have ab:=(d.block _ b2).trans O.out;obtain⟨fu,L⟩:=jK ab;obtain⟨z0,cy⟩:=nR ab);have s:=b_ U.out d;refine fL (by simp[results,results504,go_sem,fu,L];rfl) rfl ?_;exact⟨⟨M,Z,rfl,Q,V,X,z⟩,(s.setCell (p:=⟨w.heap.size+1,0,none⟩) (show w.heap.size<=w.heap.size+1 by omega) _).setCell (p:=⟨w.heap.size+1,1,none⟩) (show w.heap.size<=w.heap.size+1 by omega) _⟩
 ·have ex:¬(S:Int)<=1:=z;have ag:0<10^(S-1):=E5 z;have i0:10^(S-1)<=100:=by have:10^(S-1)<=10^2:=ks z z;omega
  have bK:Hid (∀W,Calls prog 188 #[.int .i64 ((S:Int)-1)] W fun e w'=>hc (10^(S-1)) e/\Below W.heap.size W w'):=G fun W=>by rw[show(S:Int)-1=((S-1:Nat):Int) by omega];exact Hj (S-1) W z
  have ae:Hid (∀W,Calls prog 86 #[.int .i64 2] W fun e w'=>hc 2 e/\Below W.heap.size W w'):=G fun W=>pe 2 W z;generalize 10^(S-1)=p at*;have M9:=G fun b W (A:dm b 2)=>P_ t3 b N.natAbs 2 W qr A z z z;have Az:=G fun a b W (g:dm a p) (A:dm b 2)=>P_ a b p 2 W g A z z z;have oW:=G fun a b W (g:dm a (N.natAbs*2)) (A:dm b p)=>C6 a b _ p W g A z z;have M_:=G fun a b W (g:dm a (N.natAbs*2+p)) (A:dm b (p*2))=>yj a b _ _ W g A z z z;have R:Hid (∀(a:ByteArray) (W:World),dm a ((N.natAbs*2+p)/(p*2))->Calls prog 285 #[.agg #[.bool (decide (N<0)),.string a,.int .i64 1]] W fun e w'=>y9 ((N.natAbs*2+p)/(p*2)) 1 e/\Below W.heap.size W w'):=G fun a W g=>Gc (decide (N<0)) a _ 1 W g (db (alL _ p ag) z) z;have dx:=alL N.natAbs p ag;clear H x C ii;go_upto_region 7 with(go_at_call 188;(with_reducible refine(bK.out _).mono ?_);rintro e I ⟨⟨t5,rfl,pO⟩,i⟩)
  have J:=aA i B q;have ai:=aA i B r;have E:=cE i B;have aa:=G ((i.block _ b2).trans O.out);have F:=cE i b2;have s:=G (b_ U.out i);clear r q cW B b2 O U i
  go_region_held3 (fun aT=>aT.cell? ⟨e3,1,none⟩=some (.string t3)) (first|exact J|exact o|go_keep) (first
   |(go_at_call 41;(with_reducible refine(oW.out _ _ _ aj pO).mono ?_);rintro e di ⟨⟨ay,rfl,ap⟩,l⟩;have f:=aA l c f;have o:=aA l c o;have c:=cE l c)
   |(go_at_call 173;(with_reducible refine(M9.out _ _ wH).mono ?_);rintro e w7 ⟨⟨ZP,rfl,aj⟩,j⟩;have f:=aA j c f;have o:=aA j c o;have c:=cE j c)
   |(go_at_call 86;(with_reducible refine(ae.out _).mono ?_);rintro e bq ⟨⟨n8,rfl,wH⟩,d⟩;have f:=aA d E ai;have o:=aA d E J;have c:=cE d E))
  have hv:=s.out.drew.trans (d.mono s.out.size);have gb:=b_ hv j;have CB:=b_ gb l;have ni:=G (l.block _ (iz (iz (show w.heap.size+1<I.heap.size from F) d.size) j.size));have og:=j.block _ (iz (show w.heap.size+1<I.heap.size from F) d.size);have vQ:=d.block _ (show w.heap.size+1<I.heap.size from F);have Y:=G ((((ni.out.trans og).trans vQ).trans aa.out));have ao:=G CB;have Xj:w.heap.size+1<di.heap.size:=cX Y.out;clear s hv gb CB ni og vQ aa d j l ai J oW M9
  go_wp2_with (first
   |(go_at_call 285;(with_reducible refine(R.out _ _ au).mono ?_);rintro e yz ⟨⟨M,Z,rfl,Q,V,X,vh⟩,nu⟩;have ad:=(nu.block _ aw).trans an;obtain⟨fu,L⟩:=jK ad;obtain⟨z0,cy⟩:=nR ad)
   |(go_at_call 189;(with_reducible refine(M_.out _ _ _ ap av).mono ?_);rintro e aB ⟨⟨aC,tr,rfl,au,az⟩,D⟩;have an:=(D.block _ af).trans am;have br:=aA D c f;have aw:=cE D af)
   |(go_at_call 173;(with_reducible refine(Az.out _ _ _ pO aq).mono ?_);rintro e yy ⟨⟨aD,rfl,av⟩,u⟩;have am:=(u.block _ ah).trans Ns;have af:=cE u ah;have f:=aA u c f;have c:=cE u c)
   |(go_at_call 86;(with_reducible refine(ae.out _).mono ?_);rintro e gD ⟨⟨t9,rfl,aq⟩,t⟩;have Ns:=(t.block _ Xj).trans Y.out;have ah:=cE t Xj;have f:=aA t c f;have c:=cE t c))
  have R2:=b_ ao.out t;have ak:=b_ R2 u;have H6:=b_ ak D;have al:=b_ H6 nu;refine fL (by simp[results,results504,go_sem,fu,L];rfl) rfl ?_;exact⟨⟨M,Z,rfl,Q,V,db X dx,vh⟩,(al.setCell (p:=⟨w.heap.size+1,0,none⟩) (show w.heap.size<=w.heap.size+1 by omega) _).setCell (p:=⟨w.heap.size+1,1,none⟩) (show w.heap.size<=w.heap.size+1 by omega) _⟩
theorem aBj(n:Int)(w:World):Calls prog 295 #[.int .i64 n] w fun e w'=>e=.returned (.bool (decide (0<=n)&&decide (n<=3652058)))/\w=w':=by
 by_cases ab:0<=n
 ·go_enter func295,ntmps295
  go_wp2;go_ret;exact⟨by simp[ab],rfl⟩
 ·go_enter func295,ntmps295
  go_wp2;go_ret;exact⟨bu,rfl⟩
def apP(e:Ending):Prop:=∃(n:Int) (ok:Bool),e=.returned (.tuple #[.int .i64 n,.bool ok])/\(ok=true->0<=n/\n<=3652058)
theorem aqF(n d:Int)(ab:0<=n)(H:n<=3652058)(hd: -1000000000000000<=d)(g:d<=1000000000000000)(w:World):Calls prog 506 #[.int .i64 n,.int .i64 d] w fun e w'=>apP e/\w=w':=by
 have bk:=G fun n w=>aBj n w;have ak:(decide (0<=n)&&decide (n<=3652058))=true:=by simp[ab,H]
 have j:IntKind.i64.wrap (n+d)=n+d:=oQ _ ⟨z,z⟩;by_cases I:d< -3652058
 ·exact ajl
 ·by_cases i:3652058<d
  ·exact ajl
  ·by_cases b:0<=n+d/\n+d<=3652058
   ·have a:(decide (0<=n+d)&&decide (n+d<=3652058))=true:=by simp[b.1,b.2]
    go_enter func506,ntmps506
    go_wp2_with (first
     |(have f:=c;go_at_call 295;(with_reducible refine(bk.out _ _).mono ?_);rintro e ap ⟨rfl,rfl⟩;rw[a])
     |(go_at_call 295;(with_reducible refine(bk.out _ _).mono ?_);rintro e ap ⟨rfl,rfl⟩;rw[ak];have c:True:=h5))
    go_ret2
    exact⟨⟨_,true,rfl,fun _=>b⟩,rfl⟩
   ·have a:(decide (0<=n+d)&&decide (n+d<=3652058))=false:=bu;go_enter func506,ntmps506
    go_wp2_with (first
     |(have f:=c;go_at_call 295;(with_reducible refine(bk.out _ _).mono ?_);rintro e ap ⟨rfl,rfl⟩;rw[a])
     |(go_at_call 295;(with_reducible refine(bk.out _ _).mono ?_);rintro e ap ⟨rfl,rfl⟩;rw[ak];have c:True:=h5))
    go_ret2
    exact⟨⟨0,false,rfl,fun h=>by simp at h⟩,rfl⟩
theorem WR(w:World)(a:Option Addr)(c:Nat)(l:List ByteArray)(s:ByteArray)(h:he be w a l): Calls prog 573 #[.slice a l.length c,.string s] w fun e w'=>acY l s e/\w=w':=by
 have d:=h.1;have ay:=G h.2;clear h;go_enter func573,ntmps573;exact ai9
def apJ(e:Ending):Prop:=∃r:Bool,e=.returned (.bool r)
theorem WY(d g:Nat)(w:World)(F a:Array Value)(v u:bH)(h:aY be d w F v)(c:aY be g w a u): Calls prog 574 #[.agg F,.agg a] w fun e w'=>apJ e/\Below w.heap.size w w':=by
 obtain⟨k,s,N,S,n,cs,a_⟩:=v;obtain⟨j,l,z,B,n',m,A⟩:=u;have jF:Below w.heap.size w ((w.alloc (.cells F 44 (0,0))).alloc (.cells a 44 (0,0))):=
  ((bi _ _).alloc (aZ _) _).alloc am _
 have bk:=G (UE d g _ F a _ _ (h.U jF) (c.U jF));obtain⟨ca,cc,ra,rc,rfl,_⟩:=h.hz;obtain⟨o,r,x,y,rfl,_⟩:=c.hz;have T:=kZ w (.cells (bY k s N S n ca cs.length cc ra a_.length rc) 44 (0,0)) (.cells (bY j l z B n' o m.length r x A.length y) 44 (0,0));clear h c;by_cases f:k=0
 ·subst f;exact ajW
 ·have q:(k==0)=false:=by simpa using f
  exact ajW
theorem aib{n:Nat}(a_:List (List bH))(J:eR n (iw a_))(w:World)(F:Array Value)(h:aY be 1 w F (iw a_)): Calls prog 575 #[.agg F] w fun e w'=>py e/\Below w.heap.size w w':=by
 have c:Below w.heap.size w (w.alloc (.cells F 44 (0,0))):=(bi _ _).alloc (aZ _) _;have d:=G (Yp J _ F (h.U c));obtain⟨ca,cc,ra,rc,rfl,_⟩:=h.hz;have f:∀o,(w.alloc o).heap[w.heap.size]? =some o:=fun o=>da w o;have aq:∀o,w.heap.size<(w.alloc o).heap.size:=fun o=>am;clear h J;go_enter func575,ntmps575
 go_wp2_with (go_at_call 101;refine(d.out).mono ?_;rintro e g ⟨rfl,a⟩;have j:=aS 0 ((a.block _ (aq _)).trans (f _)));go_ret;exact⟨rfl,b_ c a⟩
theorem aip:kV≠kH:=ai
theorem arN{x:Int}(h:(∃(k:Nat) (b:k<[kV,kH].length),x=k/\[kV,kH][k]=kH)∨(x= -1/\kH∉[kV,kH])):x=1:=by
 rcases h with⟨k,b,rfl,a⟩|⟨_,a⟩
 ·match k,b with
  |0,_=>exact absurd a aip
  |1,_=>rfl
 ·exact absurd am a
theorem arQ{x:Int}(h:(∃(k:Nat) (b:k<[kV,kH].length),x=k/\[kV,kH][k]=kV)∨(x= -1/\kV∉[kV,kH])):x=0:=by
 rcases h with⟨k,b,rfl,a⟩|⟨_,a⟩
 ·match k,b with
  |0,_=>rfl
  |1,_=>exact absurd a.symm aip
 ·exact absurd am a
def eS(base n:Nat)(e:Ending)(w':World):Prop:=∃k s N S n' ca cl cc ra rl rc err,e=.returned (.tuple #[.agg (bY k s N S n' ca cl cc ra rl rc),.int .i64 err])/\0<=err/\err<=99/\(err=0->∃v,aY (gR base) 1 w' (bY k s N S n' ca cl cc ra rl rc) v/\eR n v)
theorem eS.none(base n:Nat)(w':World)(err:Int)(ab:1<=err)(H:err<=99){k N S n':Int}{s:ByteArray}{ca ra:Option Addr}{cl cc rl rc:Nat}:eS base n (.returned (.tuple #[.agg (bY k s N S n' ca cl cc ra rl rc),.int .i64 err])) w':=⟨_,_,_,_,_,_,_,_,_,_,_,_,rfl,z,H,fun h=>z⟩
theorem eS.some(base n:Nat)(w':World){v:bH}{k N S n':Int}{s:ByteArray}{ca ra:Option Addr}{cl cc rl rc:Nat}(J:aY (gR base) 1 w' (bY k s N S n' ca cl cc ra rl rc) v)(a:eR n v):eS base n (.returned (.tuple #[.agg (bY k s N S n' ca cl cc ra rl rc),.int .i64 0])) w':=⟨_,_,_,_,_,_,_,_,_,_,_,_,rfl,z,z,fun _=>⟨v,J,a⟩⟩
theorem alP{w:World}{c:Option Addr}{r:List bH}(h:cU be (aY be 0) w c r)(q:sC r):∃s N a b f g j e l o m n,r=[g8 s,gi N 0]/\j5 s/\ -10<=N/\N<=10/\c=some ⟨a,b,none⟩/\a<w.heap.size/\tH w a b (.int .i64 1) (.string s) (.int .i64 0) (.int .i64 0) (.int .i64 0) (.slice f 0 g) (.slice j 0 e)/\tH w a (b+7) (.int .i64 2) (.string bL) (.int .i64 N) (.int .i64 0) (.int .i64 0) (.slice l 0 o) (.slice m 0 n):=by
 obtain⟨s,N,rfl,t,H,I⟩:=q;obtain⟨a,b,rfl,_,u,k⟩:=h.2 am;obtain⟨Q,bX,S,T,R,f,A,g,j,E,e,y,i⟩:=k 0 am;obtain⟨ce,M,O,L,P,l,U,o,m,V,n,x,d⟩:=k 1 am;obtain⟨_,B,z,C,D,eg,_⟩:=y;obtain⟨_,F,G,J,K,ak,_⟩:=x;injection eg with eg
 injection ak with ak
 simp only[pk,EW,EX,Cl,Cz,yS]at eg ak;obtain⟨rfl,rfl,rfl,rfl,rfl,⟨rfl,rfl,rfl⟩,rfl,rfl,rfl⟩:=eg;obtain⟨rfl,rfl,rfl,rfl,rfl,⟨rfl,rfl,rfl⟩,rfl,rfl,rfl⟩:=ak;simp only[tw,hG,M2,yO]at i d;exact⟨_,_,a,b,_,_,_,_,_,_,_,_,rfl,t,H,I,rfl,u,i,d⟩
structure xm (w:World) (F:Array Value) (wr:World):Prop where
 b:Below w.heap.size w wr
 g:wr.heap[w.heap.size]? =some (.cells F 44 (0,0))
 l:wr.heap[w.heap.size+1]? =some (.cells #[.int .i64 0,.int .i64 0] 40 (0,0))
 o:wr.heap[w.heap.size+1+1]? =some (.cells fi 44 (0,0))
theorem xm.U{w wr w':World}{F:Array Value}(h:xm w F wr)(A:Below wr.heap.size wr w'):xm w F w':=
 ⟨b_ h.b A,by rw[A.block _ (b1 h.g)];exact h.g,by rw[A.block _ (b1 h.l)];exact h.l,by rw[A.block _ (b1 h.o)];exact h.o⟩
theorem xm.set{w wr:World}{F:Array Value}(h:xm w F wr)(b:Nat)(A:w.heap.size+3<=b)(i:Nat)(u:Value):xm w F (wr.setCell ⟨b,i,none⟩ u):=
 ⟨h.b.setCell (p:=⟨b,i,none⟩) (show w.heap.size<=b by omega) _,by rw[hm _ _ _ _ (by show w.heap.size≠b;omega)];exact h.g,by rw[hm _ _ _ _ (by show w.heap.size+1≠b;omega)];exact h.l,by rw[hm _ _ _ _ (by show w.heap.size+1+1≠b;omega)];exact h.o⟩
theorem xm.g7(w:World)(F:Array Value):xm w F (((w.alloc (.cells F 44)).alloc (.cells #[.int .i64 0,.int .i64 0] 40)).alloc (.cells fi 44)):=by
 obtain⟨H,I,b,a⟩:=Mt w (.cells F 44) (.cells #[.int .i64 0,.int .i64 0] 40) (.cells fi 44);exact⟨H,I,b,a⟩
theorem aqG(N M:Int)(w:World)(H:N.natAbs<=100)(I:M.natAbs<=100):Calls prog 501 #[.agg #[.int .i64 N,.int .i64 0],.agg #[.int .i64 M,.int .i64 0]] w fun e w'=>y9 (N.natAbs+M.natAbs) 0 e/\Below w.heap.size w w':=
 adA N M 0 0 0 w ⟨am,am,z,z,.inl rfl⟩ ⟨am,am,z,z,.inl rfl⟩ rfl z N.natAbs M.natAbs am am z
theorem ad'(N:Int)(w:World)(H:N.natAbs<=100):Calls prog 507 #[.agg #[.int .i64 N,.int .i64 0],.agg #[.int .i64 0,.int .i64 0]] w fun e w'=>(∃c,CZ c e)/\Below w.heap.size w w':=
 (ad_ N 0 0 0 0 w ⟨am,am,z,z,.inl rfl⟩ ⟨am,am,z,z,.inl rfl⟩ rfl z _ rfl).mono fun e w' ⟨h,A⟩=>⟨⟨_,h⟩,A⟩
theorem aDh{m n:Nat}(an:1<=m)(a_:List (List bH))(J:eR n (iw a_))(w:World)(F:Array Value)(h:aY be 1 w F (iw a_)): Calls prog 499 #[.agg F,.string kH,.agg #[.int .i64 0,.int .i64 0]] w fun e w'=>eS w.heap.size m e w'/\Below w.heap.size w w':=by
 have vi:a_.length<=3/\∀r∈a_,sC r:=by cases J with|iw _ af h=>exact⟨af,h⟩
 have bk:=G fun W (L:Below w.heap.size w W)=>aib a_ J W F (h.U L);obtain⟨ca,cc,ra,rc,rfl,hP,s7⟩:=h;have X:=G (xm.g7 w (bY 5 bL 0 0 0 ca 2 cc ra a_.length rc));have bK:=G fun W (L:Below w.heap.size w W)=>WR W ca cc [kV,kH] kH (hP.U L);have iO:=G (fun W (L:Below w.heap.size w W)=>(hW.U (aY.mono be 0) s7 L).2);have cd:=G (fun i (hi:i<a_.length)=>vi.2 _ (fM hi));have af:=vi.1;clear J hP s7 vi;go_enter func499,ntmps499;go_upto_region 1 with fail
 generalize (((w.alloc (.cells (bY 5 bL 0 0 0 ca 2 cc ra a_.length rc) 44)).alloc (.cells #[.int .i64 0,.int .i64 0] 40)).alloc (.cells fi 44))=ap at X⊢;have d:=X.out;obtain⟨ft,dS,eo,hj,jW,kb,ll⟩:=eU d.g;have gY:=b1 d.g;have aO:=d.b;clear d;go_upto_region 4 with(go_at_call 575;refine(bk.out _ aO).mono ?_;rintro e K ⟨rfl,bm⟩)
 have C:=G (X.out.U bm);have ro:=aS 5 C.out.g;have b2:=b1 C.out.g;have ba:=C.out.b;clear ft dS eo hj jW kb ll gY X aO bm;go_upto_region 7 with(go_at_call 573;refine(bK.out _ ba).mono ?_;rintro e bz ⟨⟨x,rfl,ab⟩,rfl⟩;obtain rfl:=arN ab)
 have lv:=G (C.out.U (fH K (.cells #[.int .i64 0,.int .i64 0] 40)));have ui:=da K (.cells #[.int .i64 0,.int .i64 0] 40);have Z:w.heap.size+3<=K.heap.size:=b1 C.out.o
 go_wp2;clear ro b2 bk bK C ba;generalize qi:K.heap.size=bJ at*;generalize (K.alloc (.cells #[.int .i64 0,.int .i64 0] 40))=bh at*;go_loopw [11] (fun i wr=>∃(k:Nat) (N:Int),k<=a_.length/\i=.int .i64 k/\xm w (bY 5 bL 0 0 0 ca 2 cc ra a_.length rc) wr/\wr.heap[bJ]? =some (.cells #[.int .i64 N,.int .i64 0] 40 (0,0))/\N.natAbs<=10*k) (fun i _=>a_.length-(RowKit.intOf i).toNat);case atStart=>exact⟨0,0,dq _,rfl,lv.out,ui,am⟩
 case round=>
  clear lv ui;obtain⟨k,N,ae,rfl,d,M,dG⟩:=hrel;have S:=aS 6 d.g;have b2:=b1 d.g;obtain⟨bX,A⟩:=jK M;have l:=b1 M;by_cases aq:k<a_.length
  ·obtain⟨cJ,lU,rfl,_,Y,lc⟩:=iO.out _ d.b z;obtain⟨dp,ei,y,aa⟩:=lc k aq;obtain⟨gO,qQ,iD,fE,iT,iV,iv,i4,k',la,kB,kC,kT,dC,ag,zu,rfl,D,o,V⟩:=alP aa (cd.out k aq);rw[kT]at y;simp only[mP,yO,Nat.reduceAdd,gm]at y;have el:=V.br;have P:=V.c2;have O:=V.c3;have g4:(0:Int)<=(k:Int):=z;have gx:(k:Int)<a_.length:=z;have T:=G d;have vO:=G M;have ld:=d.b.size;clear aa o V lc d M dC kT;go_upto_region 13 with fail
   have oW:=G fun W=>aqG N qQ W z z
   go_region_held3 (fun aT=>aT.cell? ⟨bJ,0,none⟩=some (.int .i64 N)/\aT.cell? ⟨bJ,1,none⟩=some (.int .i64 0)/\aT.cell? ⟨w.heap.size,6,none⟩=some (.slice (some ⟨cJ,lU,none⟩) a_.length rc)/\aT.cell? ⟨cJ,lU+k,none⟩=some (.slice (some ⟨iD,fE,none⟩) 2 ei)/\aT.cell? ⟨iD,fE+7+2,none⟩=some (.int .i64 qQ)/\aT.cell? ⟨iD,fE+7+3,none⟩=some (.int .i64 0)) (first|exact⟨bX,A,S,y,P,O⟩|exact⟨v0,Q,R,v3,v4,v5⟩|exact⟨(q0 z).trans v0,(q0 z).trans Q,(q0 z).trans R,(q0 z).trans v3,(q0 z).trans v4,(q0 z).trans v5⟩|go_keep) (first
    |(go_at_call 501;refine(oW.out _).mono ?_;rintro e f ⟨⟨hb,S7,rfl,jQ,s1,s2,vh⟩,j⟩;obtain rfl:S7=0:=z;have a:Below wr.heap.size wr f:=((fH wr _).drew).trans (j.mono am);have gL:f.cell? ⟨wr.heap.size,0,none⟩=some (.int .i64 0):=aA j am (lb (da wr _) rfl);have cz:f.cell? ⟨wr.heap.size,1,none⟩=some (.int .i64 0):=aA j am (lb (da wr _) rfl);have gs:f.frozen? ⟨wr.heap.size,0,none⟩=false:=s_ j am (cB (da wr _));have gt:f.frozen? ⟨wr.heap.size,1,none⟩=false:=s_ j am (cB (da wr _));have v0:=aA a l bX;have Q:=aA a l A;have R:=aA a b2 S;have v3:=aA a Y y;have v4:=aA a D P;have v5:=aA a D O)
    |(go_at_call 501;refine(oW.out _).mono ?_;rintro e f ⟨⟨hb,S7,rfl,jQ,s1,s2,vh⟩,j⟩;obtain rfl:S7=0:=z;have a:Below wr.heap.size wr f:=(lK wr).trans j;have v0:=aA a l bX;have Q:=aA a l A;have R:=aA a b2 S;have v3:=aA a Y y;have v4:=aA a D P;have v5:=aA a D O))
   all_goals first
    |(
     have o:=da f (.cells #[.int .i64 hb,.int .i64 0] 40)
     have s:Below wr.heap.size wr (f.alloc (.cells #[.int .i64 hb,.int .i64 0] 40)):=a.alloc a.size _
     have hA:wr.heap.size<=f.heap.size:=a.size
     generalize f.alloc (.cells #[.int .i64 hb,.int .i64 0] 40)=w7 at*
     generalize f.heap.size=eA at*
     have ad:=aA s l bX
     have Mg:=aA s l A
     have B:=G (T.out.U s)
     have H:=G ((s.block _ l).trans vO.out)
     have CK:=G o
     obtain⟨br,c1⟩:=jK o
     obtain⟨hX,et⟩:=jK B.out.l
     have g6:=b1 o
     have Lu:=b1 B.out.l
     have WJ:hb.natAbs<=100:=z
     have nL:=G fun W=>ad' hb W WJ
     clear bX A S y el P O b2 Y D v0 Q R v3 v4 v5 a j oW
     go_wp2_with (go_at_call 507;refine(nL.out _).mono ?_;rintro e di ⟨⟨c,rfl⟩,q⟩;have g:=G (B.out.U q);have u:=(q.block _ (b1 H.out)).trans H.out;have U:=(q.block _ g6).trans CK.out;obtain⟨eg,ak⟩:=jK U;obtain⟨t0,ek⟩:=jK u;obtain⟨cM,t3⟩:=nR u;have S6:=G u;obtain⟨gC,c_,dL,fU,gE,gM,gT⟩:=eU g.out.o;obtain⟨z0,cy,dv,z3,z4,z5,eP⟩:=gI g.out.o;clear q u U)
     ·refine fL (jp (fn:=f499) rfl _ _ (w.heap.size+1+1) 44 _ (0,0) _ _ rfl rfl (h3 g.out.o _ _ _ _ _ _ _) underlying44 rfl iJ) rfl ?_
      exact⟨eS.none _ _ _ 20 ai ai,ib g.out.b z _ _ _ _ _ _ _⟩
     ·have I:=hS (i:=1) (hS (i:=0) S6.out (.int .i64 hb)) (.int .i64 0)
      have E:=(g.out.set bJ Z 0 (.int .i64 hb)).set bJ Z 1 (.int .i64 0)
      go_roundw
      case rel=>first|exact⟨k+1,hb,z,bM,E,I,z⟩|((repeat apply Exists.intro);refine⟨?_,rfl⟩;exact⟨k+1,hb,z,bM,E,I,z⟩)
      case measure=>simp[RowKit.intOf];omega)
    |(
     have o:((f.setCell ⟨wr.heap.size,0,none⟩ (.int .i64 hb)).setCell ⟨wr.heap.size,1,none⟩ (.int .i64 0)).heap[wr.heap.size]? =some (.cells #[.int .i64 hb,.int .i64 0] 40 (0,0)):=(by simpa using hS (i:=1) (hS (i:=0) ((j.block wr.heap.size am).trans (da wr (.cells #[.int .i64 0,.int .i64 0] 40))) (.int .i64 hb)) (.int .i64 0))
     have s:Below wr.heap.size wr ((f.setCell ⟨wr.heap.size,0,none⟩ (.int .i64 hb)).setCell ⟨wr.heap.size,1,none⟩ (.int .i64 0)):=(a.setCell (p:=⟨wr.heap.size,0,none⟩) (aZ _) _).setCell (p:=⟨wr.heap.size,1,none⟩) (aZ _) _
     generalize (f.setCell ⟨wr.heap.size,0,none⟩ (.int .i64 hb)).setCell ⟨wr.heap.size,1,none⟩ (.int .i64 0)=w7 at*
     have ad:=aA s l bX
     have Mg:=aA s l A
     have B:=G (T.out.U s)
     have H:=G ((s.block _ l).trans vO.out)
     have CK:=G o
     obtain⟨br,c1⟩:=jK o
     obtain⟨hX,et⟩:=jK B.out.l
     have g6:=b1 o
     have Lu:=b1 B.out.l
     have WJ:hb.natAbs<=100:=z
     have nL:=G fun W=>ad' hb W WJ
     clear bX A S y el P O b2 Y D v0 Q R v3 v4 v5 a j oW
     go_wp2_with (go_at_call 507;refine(nL.out _).mono ?_;rintro e di ⟨⟨c,rfl⟩,q⟩;have g:=G (B.out.U q);have u:=(q.block _ (b1 H.out)).trans H.out;have U:=(q.block _ g6).trans CK.out;obtain⟨eg,ak⟩:=jK U;obtain⟨t0,ek⟩:=jK u;obtain⟨cM,t3⟩:=nR u;have S6:=G u;obtain⟨gC,c_,dL,fU,gE,gM,gT⟩:=eU g.out.o;obtain⟨z0,cy,dv,z3,z4,z5,eP⟩:=gI g.out.o;clear q u U)
     ·refine fL (jp (fn:=f499) rfl _ _ (w.heap.size+1+1) 44 _ (0,0) _ _ rfl rfl (h3 g.out.o _ _ _ _ _ _ _) underlying44 rfl iJ) rfl ?_
      exact⟨eS.none _ _ _ 20 ai ai,ib g.out.b z _ _ _ _ _ _ _⟩
     ·have I:=hS (i:=1) (hS (i:=0) S6.out (.int .i64 hb)) (.int .i64 0)
      have E:=(g.out.set bJ Z 0 (.int .i64 hb)).set bJ Z 1 (.int .i64 0)
      go_roundw
      case rel=>first|exact⟨k+1,hb,z,bM,E,I,z⟩|((repeat apply Exists.intro);refine⟨?_,rfl⟩;exact⟨k+1,hb,z,bM,E,I,z⟩)
      case measure=>simp[RowKit.intOf];omega)
  ·obtain rfl:k=a_.length:=z;have T:=G d;obtain⟨gC,c_,dL,fU,gE,gM,gT⟩:=eU d.o;obtain⟨z0,cy,dv,z3,z4,z5,eP⟩:=gI d.o;have s4:eR m (gi N ((0:Nat):Int)):=.gi N 0 ⟨am,am,z,z,.inl rfl⟩ (by
    have:10^3<=10^(2*m+1):=ks z z
    omega) z
   have Sr:=G s4;clear d M cd iO s4
   go_wp2;refine fL (jp (fn:=f499) rfl _ _ (w.heap.size+1+1) 44 _ (0,0) _ _ rfl rfl (h3 T.out.o _ _ _ _ _ _ _) underlying44 rfl iJ) rfl ?_;exact⟨eS.some _ _ _ (aY.iE _ 1 _ 2 bL N 0 0 none 0 none 0) Sr.out,ib T.out.b z _ _ _ _ _ _ _⟩
structure rC (base:Nat) (w wr:World) (v:Value) (l:List (List bH)):Prop where
 o:∃ss:List Value,ss.length=l.length/\wr.ownsRow base 45 1 v l.length ss/\∀j (H:j<ss.length) (I:j<l.length),∃a c,ss[j]=.slice a l[j].length c/\cU be (aY be 0) w a l[j]
theorem rC.nil(base:Nat)(w wr:World):rC base w wr (.slice none 0 0) []:=⟨[],rfl,mo _ _ _ _,fun j H=>by cases H⟩
theorem rC.gf{base:Nat}{w wr w':World}{v:Value}{l:List (List bH)}(h:rC base w wr v l)(a:fw (gR base) wr w'):rC base w w' v l:=by
 obtain⟨c,H,I,b⟩:=h.o;exact⟨c,H,n2 I a,b⟩
theorem rC.lt{base:Nat}{w wr:World}{v:Value}{l:List (List bH)}(h:rC base w wr v l):∀g,v.ownBlock=some g->base<=g:=by
 obtain⟨j,H,I,d⟩:=h.o;exact fun g a=>by
  rcases I.2 with⟨c,_⟩|⟨k,cap,i,ak,b,e,f⟩
  ·subst c;simp[Value.ownBlock]at a
  ·subst ak;simp[Value.ownBlock]at a;subst a;exact b
theorem rC.a_{base:Nat}{w wr:World}{v:Value}{l:List (List bH)}(h:rC base w wr v l)(A:Below w.heap.size w wr)(k:l.length<=100):∃a c,v=.slice a l.length c/\hW be (aY be 0) wr a l:=by
 obtain⟨ss,H,I,d⟩:=h.o;have i:∃a c,v=.slice a l.length c:=by exact P2
 obtain⟨a,c,rfl⟩:=i;refine⟨a,c,rfl,k,fun ab=>?_⟩;have qh:=I;rcases I.2 with⟨aM,bZ⟩|⟨g,cap,cj,ak,aJ,f,m,n,o,r⟩
 ·exact absurd bZ z
 ·injection ak with mf _ _
  refine⟨g,0,mf,h5,b1 f,fun j b=>?_⟩;obtain⟨p,q,e,ag⟩:=d j z b;refine⟨p,q,?_,cU.U (aY.mono be 0) ag A⟩;exact ajD
theorem rC.push{base:Nat}{w w7:World}{l:List (List bH)}{ss:List Value}(k:ss.length=l.length)(e:∀j (H:j<ss.length) (I:j<l.length),∃a c,ss[j]=.slice a l[j].length c/\cU be (aY be 0) w a l[j]){a:Option Addr}{u:List bH}{c:Nat}(f:cU be (aY be 0) w a u){g cap:Nat} (i:w7.ownsRow base 45 1 (.slice (some ⟨g,0,none⟩) (l.length+1) cap) (l.length+1) (ss++[.slice a u.length c])):rC base w w7 (.slice (some ⟨g,0,none⟩) (l.length+1) cap) (l++[u]):=by
 refine⟨ss++[.slice a u.length c],by simp[k],by simpa using i,fun j m n=>?_⟩;by_cases d:j<ss.length
 ·have b:j<l.length:=z;rw[Au d,Au b];exact e j d b
 ·have b:¬j<l.length:=z;rw[Av z,Av z];simp only[RN];exact⟨a,c,rfl,f⟩
structure xq (w:World) (F aG:Array Value) (wr:World):Prop where
 b:Below w.heap.size w wr
 g:wr.heap[w.heap.size]? =some (.cells F 44 (0,0))
 l:wr.heap[w.heap.size+1]? =some (.cells aG 44 (0,0))
 o:wr.heap[w.heap.size+1+1]? =some (.cells fi 44 (0,0))
theorem xq.U{w wr w':World}{F a:Array Value}(h:xq w F a wr)(A:Below wr.heap.size wr w'):xq w F a w':=
 ⟨b_ h.b A,by rw[A.block _ (b1 h.g)];exact h.g,by rw[A.block _ (b1 h.l)];exact h.l,by rw[A.block _ (b1 h.o)];exact h.o⟩
theorem xq.hC{w wr w':World}{F a:Array Value}(h:xq w F a wr)(A:Below (w.heap.size+3) wr w'):xq w F a w':=
 ⟨h.b.trans (A.mono z),by rw[A.block _ z];exact h.g,by rw[A.block _ z];exact h.l,by rw[A.block _ z];exact h.o⟩
theorem xq.g7(w:World)(F a:Array Value):xq w F a (((w.alloc (.cells F 44)).alloc (.cells a 44)).alloc (.cells fi 44)):=by
 obtain⟨H,I,c,b⟩:=Mt w (.cells F 44) (.cells a 44) (.cells fi 44);exact⟨H,I,c,b⟩
theorem aET{m n:Nat}(a_:List (List bH))(J:eR n (iw a_))(w:World)(F:Array Value)(h:aY be 1 w F (iw a_))(aG:Array Value)(u:bH)(hu:aY be 1 w aG u): Calls prog 496 #[.agg F,.string kV,.agg aG] w fun e w'=>eS w.heap.size m e w'/\Below w.heap.size w w':=by
 have vi:a_.length<=3/\∀r∈a_,sC r:=by cases J with|iw _ af h=>exact⟨af,h⟩
 have bk:=G fun W (K:Below w.heap.size w W)=>aib a_ J W F (h.U K);obtain⟨ca,cc,ra,rc,rfl,hP,s7⟩:=h;have Iz:=G hu;obtain⟨T,yw,Q,R,Aj,S,U⟩:=u;obtain⟨qD,qF,qE,qG,rfl,_⟩:=hu.hz;have Z:=G (xq.g7 w (bY 5 bL 0 0 0 ca 2 cc ra a_.length rc) (bY T yw Q R Aj qD S.length qF qE U.length qG));have bK:=G fun W (K:Below w.heap.size w W)=>WR W ca cc [kV,kH] kV (hP.U K);have ab:=G hP;have iO:=G s7.2;have cd:=G (fun i (hi:i<a_.length)=>vi.2 _ (fM hi));have af:=vi.1;clear J hP s7 vi hu;obtain⟨WO,V2,nB,j_,pa⟩:=jt WU;go_enter func496,ntmps496;go_upto_region 1 with fail
 generalize (((w.alloc (.cells (bY 5 bL 0 0 0 ca 2 cc ra a_.length rc) 44)).alloc (.cells (bY T yw Q R Aj qD S.length qF qE U.length qG) 44)).alloc (.cells fi 44))=ap at Z⊢;have d:=Z.out;obtain⟨ft,dS,eo,hj,jW,kb,ll⟩:=eU d.g;have gY:=b1 d.g;have aO:=d.b;clear d;go_upto_region 4 with(go_at_call 575;refine(bk.out _ aO).mono ?_;rintro e D ⟨rfl,bm⟩)
 have E:=G (Z.out.U bm);have ro:=aS 5 E.out.g;have b2:=b1 E.out.g;have ba:=E.out.b;clear ft dS eo hj jW kb ll gY Z aO bm;go_upto_region 7 with(go_at_call 573;refine(bK.out _ ba).mono ?_;rintro e bz ⟨⟨x,rfl,al⟩,rfl⟩;obtain rfl:=arQ al)
 have lv:=G (E.out.U (fH D (.cells (bY 5 bL 0 0 0 ca 2 cc none 0 0) 44)));have ui:=da D (.cells (bY 5 bL 0 0 0 ca 2 cc none 0 0) 44);have m4:w.heap.size+3<=D.heap.size:=b1 E.out.o;have rf:=jC D (.cells (bY 5 bL 0 0 0 ca 2 cc none 0 0) 44)
 go_wp2;clear ro b2 bk bK E ba;generalize qi:D.heap.size=bJ at*;generalize (D.alloc (.cells (bY 5 bL 0 0 0 ca 2 cc none 0 0) 44))=bh at*;go_loopw [11] (fun i wr=>∃(k:Nat) (l:List (List bH)) (c3:Option Addr) (c4:Nat),k<=a_.length/\i=.int .i64 k/\xq w (bY 5 bL 0 0 0 ca 2 cc ra a_.length rc) (bY T yw Q R Aj qD S.length qF qE U.length qG) wr/\wr.heap[bJ]? =some (.cells (bY 5 bL 0 0 0 ca 2 cc c3 l.length c4) 44 (0,0))/\rC (bJ+1) w wr (.slice c3 l.length c4) l/\l.length<=k/\(∀r∈l,sC r)/\bJ+1<=wr.heap.size) (fun i _=>a_.length-(RowKit.intOf i).toNat);case atStart=>exact⟨0,[],none,0,dq _,rfl,lv.out,ui,rC.nil _ _ _,am,am,z⟩
 case round=>
  clear lv ui;obtain⟨k,l,c3,c4,aI,rfl,d,L,V,aH,M,dN⟩:=hrel;have n3:=aS 6 d.g;have b2:=b1 d.g;by_cases aq:k<a_.length
  ·obtain⟨cJ,lU,rfl,_,iY,lc⟩:=iO.out z;obtain⟨dp,X,sd,aa⟩:=lc k aq;obtain⟨gO,qQ,iD,Y,iT,iV,iv,i4,k',la,kB,kC,kT,dC,aM,zu,rfl,o,q,Gh⟩:=alP aa (cd.out k aq);have ax:=G aa;have aw:=G (cd.out k aq);have xX:(a_[k]).length=2:=by rw[kT];rfl
   rw[xX]at sd;have f:=d.b;have az:=aA f iY sd;have el:=aA f o q.br;have dk:=aA f o q.c1;have dB:=aA f o q.c2;have cN:=aA f o q.c3;have ko:=aA f o q.c4;have kp:=aA f o q.c5;have nI:=aA f o q.fk;have ag:=cE f iY;have ay:=cE f o;obtain⟨u0,u1,u2,u3,u4,u5,u6⟩:=eU d.l;have cL:=b1 d.l;have g4:(0:Int)<=(k:Int):=z;have gx:(k:Int)<a_.length:=z;have N:=G d;have vO:=G L;have yZ:=G V;have H':=G fun W (K:Below w.heap.size w W)=>WY 0 1 W (bY 1 gO 0 0 0 iT 0 iV iv 0 i4) (bY T yw Q R Aj qD S.length qF qE U.length qG) (g8 gO) _ (aY.iE be 0 W 1 gO 0 0 0 iT iV iv i4) (Iz.out.U K);clear aa q Gh lc d L V dC;generalize a_[k]=e2 at*
   go_wp2;go_still_tail 9,au;change wpList _ _ _ _ _ wr.drew;have s0:Below w.heap.size w wr.drew:=f.drew;have VG:Below wr.heap.size wr wr.drew:=(bi _ _).drew;have B:=G (N.out.U VG);have wu:Hid (wr.drew.heap[bJ]? =some (.cells (bY 5 bL 0 0 0 ca 2 cc c3 l.length c4) 44 (0,0))):=G vO.out;have ae:=G (yZ.out.gf (w':=wr.drew) (.g0 VG));have ah:bJ+1<=wr.drew.heap.size:=dN;have wG:wr.drew.cell? ⟨cJ,lU+k,none⟩=some (.slice (some ⟨iD,Y,none⟩) 2 X):=az;have VE:cJ<wr.drew.heap.size:=ag;clear az sd ag n3 b2 dN N vO yZ VG;generalize wr.drew=a' at*
   go_wp2_with (go_at_call 574;refine(H'.out _ s0).mono ?_;rintro e j ⟨⟨yk,rfl⟩,s⟩;have I:=G (B.out.U s);have y:=G ((s.block _ (b1 wu.out)).trans wu.out);have C:=G (ae.out.gf (.g0 s));have P:bJ+1<=j.heap.size:=db ah s.size;have Pv:=aA s VE wG;have aC:=cE s VE;clear s;cases yk)
   ·go_roundw;case rel=>first|exact⟨k+1,l,c3,c4,z,bM,I.out,y.out,C.out,z,M,P⟩|((repeat apply Exists.intro);refine⟨?_,rfl⟩;exact⟨k+1,l,c3,c4,z,bM,I.out,y.out,C.out,z,M,P⟩)
    case measure=>simp[RowKit.intOf];omega
   ·obtain⟨ss,K9,GO,PA⟩:=C.out.o;have n3:=aS 6 I.out.g;have b2:=b1 I.out.g;have uy:=aS 6 y.out;have ho:=Ln 6 y.out;have h_:=b1 y.out;have y0:Hid (some bJ≠(Value.slice c3 l.length c4).ownBlock):=G fun e=>by have:=C.out.lt _ e.symm;omega
    have fX:=G GO;clear el dk dB cN ko kp nI u0 u1 u2 u3 u4 u5 u6 cL o ay B wu ae ah wG VE f s0 GO;try go_wp2
    go_region_law (first
     |(refine HL _ (by rfl) _ _ _ (by rfl) (bJ+1) 45 WO _ 1 24 underlying42 V2 nB j_ pa rfl ai (.slice c3 l.length c4) l.length ss (by rfl) ((n2 fX.out (.g0 (lK j))).alloc _) ⟨j.heap.size,0,none⟩ 1 1 [.slice (some ⟨iD,Y,none⟩) 2 X] (by rfl) (by rfl) (sy (cs:=#[.slice (some ⟨iD,Y,none⟩) 2 X]) (t:=45) (fr:=(0,0)) (p1 j.drew _)) (by simp[Value.oneCell']) ai (by unfold maxLen;omega) z bu (j.heap.size+1) am ?_;intro g cap w7 cQ m5 fB V_;have Ed:w7.cell? ⟨bJ,6,none⟩=some (.slice c3 l.length c4):=(m5.cell_far ⟨bJ,6,none⟩ bu y0.out).trans ((((fH j _).drew).cell (p:=⟨bJ,6,none⟩) h_).trans uy);have f7:w7.frozen? ⟨bJ,6,none⟩=false:=(m5.frozen_far ⟨bJ,6,none⟩ bu y0.out).trans ((((fH j _).drew).frozen (p:=⟨bJ,6,none⟩) h_).trans ho);have O:Below (bJ+1) j w7:=((((bi (bJ+1) j).alloc P _).drew).grown m5 bu (fun b A=>C.out.lt b A))))
    all_goals(
     have Vz:=G (I.out.hC (O.mono z))
     have Vt:Hid (w7.heap[bJ]? =some (.cells (bY 5 bL 0 0 0 ca 2 cc c3 l.length c4) 44 (0,0))):=G ((O.block bJ z).trans y.out)
     have aD:=G (rC.push (base:=bJ+1) (w:=w) (w7:=w7) K9 PA (a:=some ⟨iD,Y,none⟩) (u:=e2) (c:=X) ax.out (g:=g) (cap:=cap) (by rw[xX];exact cQ))
     have WL:bJ+1<=w7.heap.size:=db P O.size
     clear cQ m5 fB uy ho n3 b2 Pv aC C y I fX y0 H' O
     go_wp2
     have zv:(w7.setCell ⟨bJ,6,none⟩ (.slice (some ⟨g,0,none⟩) (l.length+1) cap)).heap[bJ]? =some (.cells (bY 5 bL 0 0 0 ca 2 cc (some ⟨g,0,none⟩) (l++[e2]).length cap) 44 (0,0)):=by
      have:=hS (i:=6) Vt.out (.slice (some ⟨g,0,none⟩) (l.length+1) cap)
      simpa using this
     have Bj:=Vz.out.hC ((bi (w.heap.size+3) w7).setCell (p:=⟨bJ,6,none⟩) m4 (.slice (some ⟨g,0,none⟩) (l.length+1) cap))
     have aE:rC (bJ+1) w (w7.setCell ⟨bJ,6,none⟩ (.slice (some ⟨g,0,none⟩) (l.length+1) cap)) (.slice (some ⟨g,0,none⟩) (l++[e2]).length cap) (l++[e2]):=by
      have:=aD.out.gf ((fw.refl _ w7).set (r:=bJ) (fun(A:bJ+1<=bJ)=>z) 6 (.slice (some ⟨g,0,none⟩) (l.length+1) cap))
      simpa using this
     have av:∀r∈l++[e2],sC r:=fun r an=>by
      rcases nJ.1 an with H|H
      ·exact M r H
      ·rw[Cs.1 H];exact aw.out
     have PI:bJ+1<=(w7.setCell ⟨bJ,6,none⟩ (.slice (some ⟨g,0,none⟩) (l.length+1) cap)).heap.size:=by simpa using WL
     exact⟨⟨k+1,l++[e2],some ⟨g,0,none⟩,cap,z,bM,Bj,zv,aE,bu,av,PI⟩,by simp[RowKit.intOf];omega⟩)
  ·obtain rfl:k=a_.length:=z;have A:=d.b;obtain⟨dI,gq,cw,dV⟩:=V.a_ A z;injection cw with ak aJ bv
   subst ak;subst bv;have fl:aY be 1 wr (bY 5 bL 0 0 0 ca 2 cc c3 l.length c4) (iw l):=⟨_,_,_,_,rfl,ab.out.U A,dV⟩;have nL:=G (JK 0 wr _ _ fl);have Sr:Hid (eR m (iw l)):=G (.iw l z M);obtain⟨fj,dy,cW,dj,oP,yD,uy⟩:=eU L;have h1:=b1 L;have N:=G d;clear d L V dV fl M iO cd ab Iz
   go_wp2_with (go_at_call 365;refine(nL.out).mono ?_;rintro e a' ⟨⟨aK,rfl,zH⟩,bC⟩;obtain⟨aF,bP,pb,aj,rfl,La,D9⟩:=zH;have ad:=G (And.intro La D9);clear La D9;have B:=N.out.U bC;obtain⟨gC,c_,dL,fU,gE,gM,gT⟩:=eU B.o;obtain⟨z0,cy,dv,z3,z4,z5,eP⟩:=gI B.o);refine fL (jp (fn:=f496) rfl _ _ (w.heap.size+1+1) 44 _ (0,0) _ _ rfl rfl (h3 B.o _ _ _ _ _ _ _) underlying44 rfl iJ) rfl ?_;refine⟨eS.some _ _ _ (v:=iw l) ?_ Sr.out,ib B.b z _ _ _ _ _ _ _⟩;have aL:=A.size;have aB:aY (gR wr.heap.size) 1 a' (bY 5 bL 0 0 0 aF 2 bP pb l.length aj) (iw l):=⟨aF,bP,pb,aj,rfl,ad.out.1,ad.out.2⟩;have:=b1 N.out.o;exact(aB.gf (QG (fw.refl _ a') (fun(A:wr.heap.size<=w.heap.size+1+1)=>z) _ _ _ _ _ _ _)).low fun b (A:wr.heap.size<=b)=>(show w.heap.size<=b by omega)
abbrev eM(b:Option Addr)(e c:Nat)(k n dn ds:Int)(aF:Option Addr)(d a:Nat):Array Value:=#[.slice b e c,.int .i64 k,.int .i64 n,.int .i64 dn,.int .i64 ds,.slice aF d a]
theorem FO{w:World}{a:Option Addr}{g l n i ce e c f:Int}{bX d:ByteArray}(h:cU be (aY be 1) w a [.mk g bX l n i [] [],.mk ce d e c f [] []]):∃b o,a=some ⟨b,o,none⟩/\b<w.heap.size/\(∃ca cc ra rc,tH w b o (.int .i64 g) (.string bX) (.int .i64 l) (.int .i64 n) (.int .i64 i) (.slice ca 0 cc) (.slice ra 0 rc))/\∃ca cc ra rc,tH w b (o+7) (.int .i64 ce) (.string d) (.int .i64 e) (.int .i64 c) (.int .i64 f) (.slice ca 0 cc) (.slice ra 0 rc):=by
 obtain⟨r,q,rfl,_,s,m⟩:=h.2 am;obtain⟨O,M,I,K,Y,Q,y,R,S,C,P,u,k⟩:=m 0 am;obtain⟨N,L,J,H,W,T,Z,X,U,ut,V,t,j⟩:=m 1 am;obtain⟨z,x,A,B,eg,_⟩:=u;obtain⟨D,E,F,G,ak,_⟩:=t;injection eg with eg
 injection ak with ak
 simp only[pk,EW,EX,Cl,Cz,yS]at eg ak;obtain⟨rfl,rfl,rfl,rfl,rfl,⟨rfl,rfl,rfl⟩,rfl,rfl,rfl⟩:=eg;obtain⟨rfl,rfl,rfl,rfl,rfl,⟨rfl,rfl,rfl⟩,rfl,rfl,rfl⟩:=ak;simp only[tw,hG,M2,yO]at k j;exact⟨r,q,rfl,s,⟨_,_,_,_,k⟩,_,_,_,_,j⟩
theorem Je{w:World}{a:Option Addr}{c f g d:Int}{bX:ByteArray}(h:cU be (aY be 1) w a [.mk c bX f g d [] []]):∃b o,a=some ⟨b,o,none⟩/\b<w.heap.size/\∃ca cc ra rc,tH w b o (.int .i64 c) (.string bX) (.int .i64 f) (.int .i64 g) (.int .i64 d) (.slice ca 0 cc) (.slice ra 0 rc):=by
 obtain⟨j,i,rfl,_,k,l⟩:=h.2 am;obtain⟨A,z,x,y,F,C,q,D,E,u,B,m,e⟩:=l 0 am;obtain⟨r,n,s,t,eg,_⟩:=m;injection eg with eg
 simp only[pk,EW,EX,Cl,Cz,yS]at eg;obtain⟨rfl,rfl,rfl,rfl,rfl,⟨rfl,rfl,rfl⟩,rfl,rfl,rfl⟩:=eg;simp only[tw,hG,yO]at e;exact⟨j,i,rfl,k,_,_,_,_,e⟩
theorem eW{w:World}{b c i:Nat}{u0 u1 u2 u3 u4 u5 u6:Value}(h:c≠b):(yh w c u0 u1 u2 u3 u4 u5 u6).cell? ⟨b,i,none⟩=w.cell? ⟨b,i,none⟩:=by
 rw[tp _ _ _ _ h,tp _ _ _ _ h,tp _ _ _ _ h,tp _ _ _ _ h,tp _ _ _ _ h,tp _ _ _ _ h,tp _ _ _ _ h]
structure o0 (w:World) (F:Array Value) (t:Nat) (wr:World):Prop where
 b:Below w.heap.size w wr
 g:wr.heap[w.heap.size]? =some (.cells F t (0,0))
 o:wr.heap[w.heap.size+1]? =some (.cells fi 44 (0,0))
theorem o0.U{w wr w':World}{F:Array Value}{t:Nat}(h:o0 w F t wr)(A:Below wr.heap.size wr w'):o0 w F t w':=
 ⟨b_ h.b A,by rw[A.block _ (b1 h.g)];exact h.g,by rw[A.block _ (b1 h.o)];exact h.o⟩
theorem o0.g7(w:World)(F:Array Value)(t:Nat):o0 w F t ((w.alloc (.cells F t)).alloc (.cells fi 44)):=by
 have T:=kZ w (.cells F t) (.cells fi 44);exact⟨T.h,T.p,T.q⟩
theorem azc(B:Option Addr)(L C:Nat)(J fn dn ds:Int)(E:Option Addr)(fR F:Nat)(aF:ByteArray)(m:Nat)(j k:Int)(d f:Nat)(w:World)(O:Option Addr)(ac:Nat)(h:cU be (aY be 1) w O [gi j d,gi k f])(M aD r:Nat)(H:g1 j d)(I:g1 k f)(Z:M=max d f)(hO:M<=3)(U:aD=j.natAbs*10^(M-d))(Y:r=k.natAbs*10^(M-f))(R:aD+r<=1000000000000000)(P:∀(N:Int) (S:Nat),g1 N S->N.natAbs<=aD+r->S<=M->eR m (gi N S)): Calls prog 375 #[.string ⟨#[97,100,100]⟩,.string aF,.agg (eM B L C J fn dn ds E fR F),.slice O 2 ac] w fun e w'=>eS w.heap.size m e w'/\Below w.heap.size w w':=by
 have JZ:((⟨#[97,100,100]⟩:ByteArray).toList==(⟨#[112,114,105,110,116]⟩:ByteArray).toList)=false:=fy ai;have uY:((⟨#[97,100,100]⟩:ByteArray).toList==(⟨#[97,100,100]⟩:ByteArray).toList)=true:=qc _;have X:=G fun W=>adA j k d f M W H I Z hO aD r U Y R;have V:=G fun N S W=>Ye N S W;have cd:=G P;obtain⟨b,o,rfl,A,⟨ca,cc,ra,rc,ab⟩,iB,iU,kY,kn,H⟩:=FO h;have y:=G (o0.g7 w (eM B L C J fn dn ds E fR F) 222);clear h P;go_enter func375,ntmps375
 go_wp2;generalize ((w.alloc (.cells (eM B L C J fn dn ds E fR F) 222)).alloc (.cells fi 44))=g at y⊢;have c:=y.out.b;have iq:=cE c A;have c2:=aA c A ab.c2;have c3:=aA c A ab.c3;have D:=aA c A H.c2;have K:=aA c A H.c3;clear ab H;have u:w.heap.size+1≠b:=z;have rW:g.drew.cell? ⟨b,o+2,none⟩=_:=c2;have uQ:g.drew.cell? ⟨b,o+3,none⟩=_:=c3;have Q:g.drew.cell? ⟨b,o+7+2,none⟩=_:=D;have T:g.drew.cell? ⟨b,o+7+3,none⟩=_:=K;have l:=G iq;have rI:=G (y.out.U (lK g));clear c A
 go_region_held3 (fun aT=>aT.cell? ⟨b,o+2,none⟩=some (.int .i64 j)/\aT.cell? ⟨b,o+3,none⟩=some (.int .i64 d)/\aT.cell? ⟨b,o+7+2,none⟩=some (.int .i64 k)/\aT.cell? ⟨b,o+7+3,none⟩=some (.int .i64 f)) (first|with_reducible exact⟨c2,c3,D,K⟩|with_reducible exact⟨rW,uQ,Q,T⟩|with_reducible exact⟨t,s,q,n⟩|with_reducible exact⟨(eW u).trans t,(eW u).trans s,(eW u).trans q,(eW u).trans n⟩|go_keep) (first
  |(go_at_call 501;refine(X.out _).mono ?_;rintro e bz ⟨⟨N,S,rfl,jQ,s1,s2,vh⟩,a⟩;have iR:=G (rI.out.U a);have t:=aA a l.out c2;have s:=aA a l.out c3;have q:=aA a l.out D;have n:=aA a l.out K;have x:=cE a l.out;clear a)
  |(go_at_call 500;refine(V.out _ _ _).mono ?_;rintro e bh ⟨rfl,i⟩;have dP:=iR.out.U i;have t:=aA i x t;have s:=aA i x s;have q:=aA i x q;have n:=aA i x n;obtain⟨gC,c_,dL,fU,gE,gM,gT⟩:=eU dP.o;obtain⟨z0,cy,dv,z3,z4,z5,eP⟩:=gI dP.o))
 exact Xu
theorem azg(y:Option Addr)(K B:Nat)(F fn dn ds:Int)(D:Option Addr)(fR E:Nat)(aF:ByteArray)(m:Nat)(c d:Int)(g i:Nat)(w:World)(L:Option Addr)(ac:Nat)(h:cU be (aY be 1) w L [gi c g,gi d i])(M:Nat)(Y:M=g+i)(H:g1 c g)(I:g1 d i)(Z:g+i<=3)(T:c.natAbs<16777216)(U:d.natAbs<2147483648)(Q:c.natAbs*d.natAbs<=1000000000000000)(O:∀(N:Int) (S:Nat),g1 N S->N.natAbs<=c.natAbs*d.natAbs->S<=M->eR m (gi N S)): Calls prog 375 #[.string ⟨#[109,117,108]⟩,.string aF,.agg (eM y K B F fn dn ds D fR E),.slice L 2 ac] w fun e w'=>eS w.heap.size m e w'/\Below w.heap.size w w':=by
 have JZ:((⟨#[109,117,108]⟩:ByteArray).toList==(⟨#[112,114,105,110,116]⟩:ByteArray).toList)=false:=fy ai;have Ow:((⟨#[109,117,108]⟩:ByteArray).toList==(⟨#[97,100,100]⟩:ByteArray).toList)=false:=fy ai;have Ox:((⟨#[109,117,108]⟩:ByteArray).toList==(⟨#[115,117,98]⟩:ByteArray).toList)=false:=fy ai;have uY:((⟨#[109,117,108]⟩:ByteArray).toList==(⟨#[109,117,108]⟩:ByteArray).toList)=true:=qc _;have X:=G fun W=>ayS c d g i M W Y H I Z T U Q;have V:=G fun N S W=>Ye N S W;have cd:=G O;obtain⟨b,o,rfl,A,⟨ca,cc,ra,rc,ab⟩,iB,iU,kY,kn,H⟩:=FO h;have x:=G (o0.g7 w (eM y K B F fn dn ds D fR E) 222);clear h O;go_enter func375,ntmps375
 go_wp2;generalize ((w.alloc (.cells (eM y K B F fn dn ds D fR E) 222)).alloc (.cells fi 44))=j at x⊢;have f:=x.out.b;have iq:=cE f A;have c2:=aA f A ab.c2;have c3:=aA f A ab.c3;have C:=aA f A H.c2;have J:=aA f A H.c3;clear ab H;have t:w.heap.size+1≠b:=z;have rW:j.drew.cell? ⟨b,o+2,none⟩=_:=c2;have uQ:j.drew.cell? ⟨b,o+3,none⟩=_:=c3;have P:j.drew.cell? ⟨b,o+7+2,none⟩=_:=C;have R:j.drew.cell? ⟨b,o+7+3,none⟩=_:=J;have l:=G iq;have rI:=G (x.out.U (lK j));clear f A
 go_region_held3 (fun aT=>aT.cell? ⟨b,o+2,none⟩=some (.int .i64 c)/\aT.cell? ⟨b,o+3,none⟩=some (.int .i64 g)/\aT.cell? ⟨b,o+7+2,none⟩=some (.int .i64 d)/\aT.cell? ⟨b,o+7+3,none⟩=some (.int .i64 i)) (first|with_reducible exact⟨c2,c3,C,J⟩|with_reducible exact⟨rW,uQ,P,R⟩|with_reducible exact⟨s,r,q,n⟩|with_reducible exact⟨(eW t).trans s,(eW t).trans r,(eW t).trans q,(eW t).trans n⟩|go_keep) (first
  |(go_at_call 503;refine(X.out _).mono ?_;rintro e bz ⟨⟨N,S,rfl,jQ,s1,s2,vh⟩,a⟩;have iR:=G (rI.out.U a);have s:=aA a l.out c2;have r:=aA a l.out c3;have q:=aA a l.out C;have n:=aA a l.out J;have u:=cE a l.out;clear a)
  |(go_at_call 500;refine(V.out _ _ _).mono ?_;rintro e bh ⟨rfl,k⟩;have dP:=iR.out.U k;have s:=aA k u s;have r:=aA k u r;have q:=aA k u q;have n:=aA k u n;obtain⟨gC,c_,dL,fU,gE,gM,gT⟩:=eU dP.o;obtain⟨z0,cy,dv,z3,z4,z5,eP⟩:=gI dP.o))
 exact Xu
theorem azh(r:Option Addr)(C s:Nat)(B fn dn ds:Int)(u:Option Addr)(fR y:Nat)(aF:ByteArray)(m:Nat)(c:Int)(g:Nat)(K:g1 c g)(P:g<=3)(Q:c.natAbs<=1000000000000)(I:∀(N:Int) (S:Nat),g1 N S->N.natAbs<=c.natAbs->S<=1->eR m (gi N S))(w:World)(D:Option Addr)(ac:Nat)(h:cU be (aY be 1) w D [gi c g]): Calls prog 375 #[.string ⟨#[114,111,117,110,100]⟩,.string aF,.agg (eM r C s B 1 dn ds u fR y),.slice D 1 ac] w fun e w'=>eS w.heap.size m e w'/\Below w.heap.size w w':=by
 have JZ:((⟨#[114,111,117,110,100]⟩:ByteArray).toList==(⟨#[112,114,105,110,116]⟩:ByteArray).toList)=false:=fy ai;have Ow:((⟨#[114,111,117,110,100]⟩:ByteArray).toList==(⟨#[97,100,100]⟩:ByteArray).toList)=false:=fy ai;have Ox:((⟨#[114,111,117,110,100]⟩:ByteArray).toList==(⟨#[115,117,98]⟩:ByteArray).toList)=false:=fy ai;have Us:((⟨#[114,111,117,110,100]⟩:ByteArray).toList==(⟨#[109,117,108]⟩:ByteArray).toList)=false:=fy ai;have uY:((⟨#[114,111,117,110,100]⟩:ByteArray).toList==(⟨#[114,111,117,110,100]⟩:ByteArray).toList)=true:=qc _;have O:=G fun W=>aBs c g W K P Q;have M:=G fun N S W=>Ye N S W;have cd:=G I;clear I;have d:=G (o0.g7 w (eM r C s B 1 dn ds u fR y) 222);obtain⟨b,o,rfl,A,ca,cc,ra,rc,ab⟩:=Je h;clear h;go_enter func375,ntmps375
 go_wp2;generalize ((w.alloc (.cells (eM r C s B 1 dn ds u fR y) 222)).alloc (.cells fi 44))=f at d⊢;have j:=d.out.b;have U:=cE j A;have T:=b1 d.out.g;have br:=aA j A ab.c2;have c1:=aA j A ab.c3;have c2:=(show f.cell? ⟨w.heap.size,2,none⟩=some (.int .i64 1)from aS 2 d.out.g);have Y:f.drew.cell? ⟨b,o+2,none⟩=_:=br;have Z:f.drew.cell? ⟨b,o+3,none⟩=_:=c1;have X:f.drew.cell? ⟨w.heap.size,2,none⟩=_:=c2;have E:w.heap.size+1≠b:=z;have wP:w.heap.size+1≠w.heap.size:=z;have x:=G U;have F:=G T;have V:=G (d.out.U (lK f));clear j A
 go_region_held3 (fun aT=>aT.cell? ⟨b,o+2,none⟩=some (.int .i64 c)/\aT.cell? ⟨b,o+3,none⟩=some (.int .i64 g)/\aT.cell? ⟨w.heap.size,2,none⟩=some (.int .i64 1)) (first|with_reducible exact⟨br,c1,c2⟩|with_reducible exact⟨Y,Z,X⟩|with_reducible exact⟨q,n,l⟩|with_reducible exact⟨(eW E).trans q,(eW E).trans n,(eW wP).trans l⟩|go_keep) (first
  |(go_at_call 504;refine(O.out _).mono ?_;rintro e bz ⟨⟨N,S,rfl,jQ,s1,s2,vh⟩,a⟩;have R:=G (V.out.U a);have q:=aA a x.out br;have n:=aA a x.out c1;have l:=aA a F.out c2;have H:=cE a x.out;have L:=cE a F.out;clear a)|(go_at_call 500;refine(M.out _ _ _).mono ?_;rintro e bh ⟨rfl,k⟩;have dP:=R.out.U k;have q:=aA k H q;have n:=aA k H n;have l:=aA k L l;obtain⟨gC,c_,dL,fU,gE,gM,gT⟩:=eU dP.o;obtain⟨z0,cy,dv,z3,z4,z5,eP⟩:=gI dP.o))
 exact Xu
theorem azd(j:Option Addr)(s l:Nat)(r fn dn ds:Int)(n:Option Addr)(fR q:Nat)(aF:ByteArray)(m:Nat)(a c:Int)(Q:0<=a/\a<=3652058)(U:0<=c/\c<=3652058)(C:eR m (gi (c-a) 0))(w:World)(t:Option Addr)(ac:Nat)(h:cU be (aY be 1) w t [ju a,ju c]): Calls prog 375 #[.string ⟨#[98,101,116,119,101,101,110]⟩,.string aF,.agg (eM j s l r fn dn ds n fR q),.slice t 2 ac] w fun e w'=>eS w.heap.size m e w'/\Below w.heap.size w w':=by
 have M:((⟨#[98,101,116,119,101,101,110]⟩:ByteArray).toList==(⟨#[112,114,105,110,116]⟩:ByteArray).toList)=false:=fy ai;have N:((⟨#[98,101,116,119,101,101,110]⟩:ByteArray).toList==(⟨#[97,100,100]⟩:ByteArray).toList)=false:=fy ai;have O:((⟨#[98,101,116,119,101,101,110]⟩:ByteArray).toList==(⟨#[115,117,98]⟩:ByteArray).toList)=false:=fy ai;have P:((⟨#[98,101,116,119,101,101,110]⟩:ByteArray).toList==(⟨#[109,117,108]⟩:ByteArray).toList)=false:=fy ai;have R:((⟨#[98,101,116,119,101,101,110]⟩:ByteArray).toList==(⟨#[114,111,117,110,100]⟩:ByteArray).toList)=false:=fy ai;have S:((⟨#[98,101,116,119,101,101,110]⟩:ByteArray).toList==(⟨#[115,104,111,119]⟩:ByteArray).toList)=false:=fy ai;have T:((⟨#[98,101,116,119,101,101,110]⟩:ByteArray).toList==(⟨#[100,97,121,115]⟩:ByteArray).toList)=false:=fy ai;have uY:((⟨#[98,101,116,119,101,101,110]⟩:ByteArray).toList==(⟨#[98,101,116,119,101,101,110]⟩:ByteArray).toList)=true:=qc _;have D:=G fun W=>Qg (c-a) 0 W;have E:=G C;have gv:IntKind.i64.wrap (c-a)=c-a:=oQ _ ⟨z,z⟩;clear C;have f:=G (o0.g7 w (eM j s l r fn dn ds n fR q) 222);obtain⟨b,o,rfl,A,⟨ca,cc,ra,rc,ab⟩,iB,iU,kY,kn,H⟩:=FO h;clear h;go_enter func375,ntmps375
 go_wp2;generalize ((w.alloc (.cells (eM j s l r fn dn ds n fR q) 222)).alloc (.cells fi 44))=i at f⊢;have d:=f.out.b;have I:=cE d A;have F:=b1 f.out.g;have br:=aA d A H.c4;have c1:=aA d A ab.c4;have K:i.drew.cell? ⟨b,o+7+4,none⟩=_:=br;have L:i.drew.cell? ⟨b,o+4,none⟩=_:=c1;have y:w.heap.size+1≠b:=z;have wP:w.heap.size+1≠w.heap.size:=z;have B:=G I;have hU:=G F;have J:=G (f.out.U (lK i));clear d A
 go_region_held3 (fun aT=>aT.cell? ⟨b,o+7+4,none⟩=some (.int .i64 c)/\aT.cell? ⟨b,o+4,none⟩=some (.int .i64 a)) (first|with_reducible exact⟨br,c1⟩|with_reducible exact⟨K,L⟩|with_reducible exact⟨x,u⟩|with_reducible exact⟨(eW y).trans x,(eW y).trans u⟩|go_keep) (first
  |(go_at_call 369;refine(D.out _).mono ?_;rintro e V ⟨rfl,k⟩;have g:=J.out.U k;have x:=aA k B.out br;have u:=aA k B.out c1;obtain⟨gC,X,Z,fU,gE,gM,gT⟩:=eU g.o;obtain⟨z0,Y,dv,z3,z4,z5,eP⟩:=gI g.o))
 go_wp2;refine fL (jp (fn:=f375) rfl _ _ (w.heap.size+1) 44 _ (0,0) _ _ rfl rfl (h3 g.o _ _ _ _ _ _ _) underlying44 rfl iJ) rfl ?_;exact⟨eS.some _ _ _ (aY.iE _ 1 _ 2 bL (c-a) 0 0 none 0 none 0) E.out,ib g.b z _ _ _ _ _ _ _⟩
theorem azf(B:Option Addr)(I C:Nat)(F fn dn ds:Int)(D:Option Addr)(fR E:Nat)(aF:ByteArray)(m:Nat)(n t:Int)(d f:Nat)(K:g1 n d)(M:g1 t f)(O:max d f<=3)(w:World)(J:Option Addr)(ac:Nat)(h:cU be (aY be 1) w J [gi n d,gi t f]): Calls prog 375 #[.string ⟨#[108,101,115,115]⟩,.string aF,.agg (eM B I C F fn dn ds D fR E),.slice J 2 ac] w fun e w'=>eS w.heap.size m e w'/\Below w.heap.size w w':=by
 have Y:((⟨#[108,101,115,115]⟩:ByteArray).toList==(⟨#[112,114,105,110,116]⟩:ByteArray).toList)=false:=fy ai;have Z:((⟨#[108,101,115,115]⟩:ByteArray).toList==(⟨#[97,100,100]⟩:ByteArray).toList)=false:=fy ai;have Ox:((⟨#[108,101,115,115]⟩:ByteArray).toList==(⟨#[115,117,98]⟩:ByteArray).toList)=false:=fy ai;have Us:((⟨#[108,101,115,115]⟩:ByteArray).toList==(⟨#[109,117,108]⟩:ByteArray).toList)=false:=fy ai;have af:((⟨#[108,101,115,115]⟩:ByteArray).toList==(⟨#[114,111,117,110,100]⟩:ByteArray).toList)=false:=fy ai;have ag:((⟨#[108,101,115,115]⟩:ByteArray).toList==(⟨#[115,104,111,119]⟩:ByteArray).toList)=false:=fy ai;have ah:((⟨#[108,101,115,115]⟩:ByteArray).toList==(⟨#[100,97,121,115]⟩:ByteArray).toList)=false:=fy ai;have ad:((⟨#[108,101,115,115]⟩:ByteArray).toList==(⟨#[98,101,116,119,101,101,110]⟩:ByteArray).toList)=false:=fy ai;have ae:((⟨#[108,101,115,115]⟩:ByteArray).toList==(⟨#[101,113,117,97,108]⟩:ByteArray).toList)=false:=fy ai;have aa:((⟨#[108,101,115,115]⟩:ByteArray).toList==(⟨#[98,101,102,111,114,101]⟩:ByteArray).toList)=false:=fy ai;have uY:((⟨#[108,101,115,115]⟩:ByteArray).toList==(⟨#[108,101,115,115]⟩:ByteArray).toList)=true:=qc _;have N:=G fun W=>ad_ n t d f (max d f) W K M rfl O _ rfl;have L:=G fun b W=>amV b W;have k:=G (o0.g7 w (eM B I C F fn dn ds D fR E) 222);obtain⟨b,o,rfl,A,⟨ca,cc,ra,rc,ab⟩,iB,iU,kY,kn,H⟩:=FO h;clear h;go_enter func375,ntmps375
 go_wp2;generalize ((w.alloc (.cells (eM B I C F fn dn ds D fR E) 222)).alloc (.cells fi 44))=g at k⊢;have c:=k.out.b;have R:=cE c A;have Q:=b1 k.out.g;have br:=aA c A ab.c2;have c1:=aA c A ab.c3;have c2:=aA c A H.c2;have c3:=aA c A H.c3;have U:g.drew.cell? ⟨b,o+2,none⟩=_:=br;have V:g.drew.cell? ⟨b,o+3,none⟩=_:=c1;have T:g.drew.cell? ⟨b,o+7+2,none⟩=_:=c2;have X:g.drew.cell? ⟨b,o+7+3,none⟩=_:=c3;have x:w.heap.size+1≠b:=z;have wP:w.heap.size+1≠w.heap.size:=z;have j:=G R;have hU:=G Q;have S:=G (k.out.U (lK g));clear c A
 go_region_held3 (fun aT=>aT.cell? ⟨b,o+2,none⟩=some (.int .i64 n)/\aT.cell? ⟨b,o+3,none⟩=some (.int .i64 d)/\aT.cell? ⟨b,o+7+2,none⟩=some (.int .i64 t)/\aT.cell? ⟨b,o+7+3,none⟩=some (.int .i64 f)) (first|with_reducible exact⟨br,c1,c2,c3⟩|with_reducible exact⟨U,V,T,X⟩|with_reducible exact⟨u,s,r,l⟩|with_reducible exact⟨(eW x).trans u,(eW x).trans s,(eW x).trans r,(eW x).trans l⟩|go_keep) (first
  |(go_at_call 507;refine(N.out _).mono ?_;rintro e bz ⟨rfl,a⟩;have P:=G (S.out.U a);have u:=aA a j.out br;have s:=aA a j.out c1;have r:=aA a j.out c2;have l:=aA a j.out c3;have y:=cE a j.out;clear a;generalize B6 _=ej)|(go_at_call 371;refine(L.out _ _).mono ?_;rintro e bh ⟨⟨q,az,rfl⟩,i⟩;have dP:=P.out.U i;have u:=aA i y u;have s:=aA i y s;have r:=aA i y r;have l:=aA i y l;obtain⟨gC,c_,dL,fU,gE,gM,gT⟩:=eU dP.o;obtain⟨z0,cy,dv,z3,z4,z5,eP⟩:=gI dP.o))
 go_wp2;refine fL (jp (fn:=f375) rfl _ _ (w.heap.size+1) 44 _ (0,0) _ _ rfl rfl (h3 dP.o _ _ _ _ _ _ _) underlying44 rfl iJ) rfl ?_;exact ajA
theorem nK.XO(w:World)(n j:Nat):nK (w.alloc (.cells ((Array.replicate n (.bool false)).setIfInBounds j (.bool true)) 4)) w.heap.size n:=
 ⟨am,fun i hi=>by
  by_cases e:i=j
  ·subst e;exact⟨true,lb (da w _) (by simp[hi])⟩
  ·exact⟨false,lb (da w _) (by rw[yG (ht e)];simp[hi])⟩,fun i=>cB (da w _)⟩
theorem ad3{w:World}{b o:Nat}{v:Value}(h:w.cell? ⟨b,o,none⟩=some v):b<w.heap.size:=by
 unfold World.cell? at h;cases A:w.heap[b]? with
 |none=>simp[A]at h
 |some x=>exact(hl.1 A).1
def acW(n:Nat)(e:Ending)(w':World):Prop:=∃g,e=.returned (.slice (some ⟨g,0,none⟩) n n)/\nK w' g n
theorem ae3(s:ByteArray)(af:s.size<=200)(aF:Option Addr)(bP:Nat)(cl:Int)(fS:cl=1∨cl=2)(fr:Nat)(kh:fr<=s.size)(w:World)(ag:rP w aF cl): Calls prog 572 #[.slice aF 1 bP,.string s,.int .i64 fr] w fun e w'=>acW (s.size+1) e w'/\Below w.heap.size w w':=by
 have sa:∀W,(Instr.makeSlice 94 (.int .i64 ((s.size:Int)+1)) (.int .i64 ((s.size:Int)+1))).run prog W=.ok (.slice (some ⟨W.heap.size,0,none⟩) (s.size+1) (s.size+1)) (W.alloc (.cells (Array.replicate (s.size+1) (.bool false)) 4)):=fun W=>by have:=ayO (s.size+1) z z W;rw[show((s.size+1:Nat):Int)=(s.size:Int)+1 by omega]at this;exact this
 have cS:=G fun c aa w=>adN c aa cl z w;have br:(cl==0)=false:=by rcases fS with rfl|rfl<;>rfl
 have gx:(s.size:Int)<=200:=z;have i3:(fr:Int)<=(s.size:Int):=z;have mI:(fr:Int)<(s.size:Int)+1:=z;have K:=nK.eI w (s.size+1);obtain⟨fj,gL⟩:=K.2.1 fr z;have z0:=K.2.2 fr;have N:=G (nK.XO w (s.size+1) fr);clear K;go_enter func572,ntmps572
 go_wp2;have u:=G (fH w (.cells ((Array.replicate (s.size+1) (.bool false)).setIfInBounds fr (.bool true)) 4));clear gL z0 i3 mI;generalize B:w.heap.size=q at*;generalize (w.alloc (.cells ((Array.replicate (s.size+1) (.bool false)).setIfInBounds fr (.bool true)) 4))=j at*;have ir:=ag.U (B▸u.out);obtain⟨pb,po,rfl,A,f,d,m,hj⟩:=ir.cells;refine Cm 2 ?_;rw[rx]
 go_wp2;have a:=nK.eI j (s.size+1);have b:=N.out.U (fH j (.cells (Array.replicate (s.size+1) (.bool false)) 4));have g:=u.out.alloc (B▸u.out.size) (.cells (Array.replicate (s.size+1) (.bool false)) 4);have b5:q≠j.heap.size:=by have:=N.out.1;omega
 have rN:=G ((fH j (.cells (Array.replicate (s.size+1) (.bool false)) 4)).cell A |>.trans f);have tF:=G ((fH j (.cells (Array.replicate (s.size+1) (.bool false)) 4)).cell A |>.trans d);have uI:=G ((fH j (.cells (Array.replicate (s.size+1) (.bool false)) 4)).cell A |>.trans m);clear N f d m hj ag;have H:pb≠j.heap.size:=z;have Pa:q<=j.heap.size:=by have:=u.out.size;omega
 clear u;generalize j.heap.size=l at*;generalize (j.alloc (.cells (Array.replicate (s.size+1) (.bool false)) 4))=ao at*;go_loopw [10] (fun i wr=>∃k:Nat,k<=s.size+1/\i=.int .i64 k/\nK wr q (s.size+1)/\nK wr l (s.size+1)/\Below q w wr/\wr.cell? ⟨pb,po,none⟩=some (.int .i64 cl)/\wr.cell? ⟨pb,po+1,none⟩=some (.int .i64 1)/\wr.cell? ⟨pb,po+2,none⟩=some (.int .i64 200)) (fun i _=>s.size+1-(RowKit.intOf i).toNat);case atStart=>exact⟨0,dq _,rfl,b,a,g,rN.out,tF.out,uI.out⟩
 case round=>
  clear b a g rN tF uI;obtain⟨k,ae,rfl,b,a,g,f,d,m⟩:=hrel;by_cases aq:k<s.size+1
  ·have mj:(0:Int)<=(k:Int):=z;have lj:(k:Int)<=(s.size:Int):=z;have n0:(k:Int)<(s.size:Int)+1:=z;obtain⟨x,ab⟩:=b.2.1 k aq;have re:=b.1;have fX:=G b;have ij:=G a;have lu:=G g;have rN:=G f;have tF:=G d;have uI:=G m;have t:pb<wr.heap.size:=ad3 f;cases x
   ·clear f d m b a g;exact XE
   ·clear d m b a g
    go_wp2;clear ab re f;go_loopw [12] (fun i r=>∃n:Nat,n<=201/\i=.int .i64 n/\nK r q (s.size+1)/\nK r l (s.size+1)/\Below q w r/\r.cell? ⟨pb,po,none⟩=some (.int .i64 cl)/\r.cell? ⟨pb,po+1,none⟩=some (.int .i64 1)/\r.cell? ⟨pb,po+2,none⟩=some (.int .i64 200)) (fun i _=>201-(RowKit.intOf i).toNat);case atStart=>exact⟨0,dq _,rfl,fX.out,ij.out,lu.out,rN.out,tF.out,uI.out⟩
    case round=>
     clear fX ij lu rN tF uI t;obtain⟨n,aw,rfl,b,a,g,f,d,m⟩:=hrel;have t:pb<wr.heap.size:=ad3 f;have fX:=G b;have ij:=G a;have lu:=G g;have rN:=G f;have tF:=G d;have uI:=G m;have gh:(0:Int)<=(n:Int):=z;have ia:(n:Int)<=201:=z;by_cases az:n<=200
     ·have na:(n:Int)<=200:=z;by_cases m7:k+n<=s.size
      ·have LC:(k:Int)+(n:Int)<=(s.size:Int):=z;rcases RR n with rfl|nz
       ·clear d b a g
        go_wp2;go_quiet (fail);have o:Below wr.heap.size wr (wr.drewN nq):=oR (bi _ _) _;have J:(wr.drewN nq).cell? ⟨pb,po+1,none⟩=some (.int .i64 1):=tF.out;have qz:pb<(wr.drewN nq).heap.size:=t
        go_wp2;go_roundw;case rel=>first|exact⟨1,z,bM,fX.out.U o,ij.out.U o,oR lu.out _,rN.out,tF.out,uI.out⟩|((repeat apply Exists.intro);refine⟨?_,rfl⟩;exact⟨1,z,bM,fX.out.U o,ij.out.U o,below_drewN lu.out _,rN.out,tF.out,uI.out⟩)
        case measure=>simp[RowKit.intOf]
       ·have ar:0<(n:Int):=z;have ai:(0:Int)<=(k:Int)+(n:Int)-1:=z;have aj:(1:Int)<=(k:Int)+(n:Int):=z;have ak:(k:Int)+(n:Int)-1<(s.size:Int):=z;have al:(1:Int)<=(n:Int):=z;have am:(k:Int)+(n:Int)<(s.size:Int)+1:=z;have an:((k:Int)+(n:Int)-1).toNat=k+n-1:=z;have Xp:((k:Int)+(n:Int)).toNat=k+n:=z;have ah:k+n-1<s.size:=z;have wI:IntKind.i64.wrap ((k:Int)+(n:Int))=(k:Int)+(n:Int):=oQ _ ⟨z,z⟩;have au:IntKind.i64.wrap ((k:Int)+(n:Int)-1)=(k:Int)+(n:Int)-1:=oQ _ ⟨z,z⟩;have lG:=(s[k+n-1]).toNat_lt;have p9:=G (cS.out _ lG);obtain⟨y,Q⟩:=a.2.1 (k+n) z;have U:=a.2.2 (k+n);have X:=G Q;have V:=G U;have Z:=a.1;clear d b a g Q U
        go_wp2;go_quiet (first|(go_at_call 479;exact Calls.quiet_of_same (p9.out _)));generalize C_ _ _=ad;have o:Below wr.heap.size wr (wr.drewN nq):=oR (bi _ _) _;have J:(wr.drewN nq).cell? ⟨pb,po+1,none⟩=some (.int .i64 1):=tF.out;have qz:pb<(wr.drewN nq).heap.size:=t;have mE:l<(wr.drewN nq).heap.size:=Z;have M:=G (fX.out.U o);have F:=G (ij.out.U o);have L:=G (oR lu.out nq);have E:Hid ((wr.drewN nq).cell? ⟨pb,po,none⟩=some (.int .i64 cl)):=G rN.out;have C:Hid ((wr.drewN nq).cell? ⟨pb,po+2,none⟩=some (.int .i64 200)):=G uI.out;have dk:(wr.drewN nq).cell? ⟨l,k+n,none⟩=some (.bool y):=X.out;have cy:(wr.drewN nq).frozen? ⟨l,k+n,none⟩=false:=V.out;clear fX ij lu rN tF uI o X V t Z;generalize wr.drewN nq=I at*;have D:=G J;cases ad
        ·go_wp2;go_roundw;case rel=>first|exact⟨k+1,z,bM,M.out,F.out,L.out,E.out,D.out,C.out⟩|((repeat apply Exists.intro);refine⟨?_,rfl⟩;exact⟨k+1,z,bM,M.out,F.out,L.out,E.out,D.out,C.out⟩)
         case measure=>simp[RowKit.intOf];omega
        ·have O:=G (M.out.aBZ l (k+n) (ht b5) (.bool true));have P:=G (F.out.set (k+n) z true);have Y:=G (L.out.setCell (p:=⟨l,k+n,none⟩) Pa (.bool true));have R:=G ((tp I ⟨l,k+n,none⟩ ⟨pb,po,none⟩ (.bool true) (ht H)).trans E.out);have S:=G ((tp I ⟨l,k+n,none⟩ ⟨pb,po+1,none⟩ (.bool true) (ht H)).trans D.out);have T:=G ((tp I ⟨l,k+n,none⟩ ⟨pb,po+2,none⟩ (.bool true) (ht H)).trans C.out)
         go_wp2;clear dk cy J;go_roundw;case rel=>first|exact⟨n+1,z,bM,O.out,P.out,Y.out,R.out,S.out,T.out⟩|((repeat apply Exists.intro);refine⟨?_,rfl⟩;exact⟨n+1,z,bM,O.out,P.out,Y.out,R.out,S.out,T.out⟩)
         case measure=>simp[RowKit.intOf];omega
      ·have LC:¬(k:Int)+(n:Int)<=(s.size:Int):=z;clear f d b a g;exact XE
     ·have na:¬(n:Int)<=200:=z;clear f d b a g;exact XE
  ·have n0:¬(k:Int)<=(s.size:Int):=z;clear f d m
   go_wp2;rw[rx]
   go_wp2;go_ret;exact⟨⟨_,rfl,a⟩,B▸g⟩
end Go.b3
namespace Go.aI
open Go Go.Proofs.Tryz Go.ch Go.Proofs
noncomputable def ey:{t:lp//t.AT prog}:=⟨.e,h5⟩
noncomputable def aX{k:FuncId}{f:Func}(h:prog.funcs[k]? =some f)(a:{t:lp//t.AT prog}:=ey)(b:{t:lp//t.AT prog}:=ey)(s:Q8 prog f=true:=by kernel_rfl):{t:lp//t.AT prog}:=⟨.n k f a.1 b.1,⟨h,s⟩,a.2,b.2⟩
noncomputable def abH:=(aX func174 (aX func88 (aX func52 (aX func25 (aX func14 (aX func10 (aX func7 (aX func4) (aX func8)) (aX func12 (aX func11) (aX func13))) (aX func22 (aX func19 (aX func15) (aX func21)) (aX func24 (aX func23)))) (aX func33 (aX func29 (aX func27 (aX func26) (aX func28)) (aX func32 (aX func31))) (aX func37 (aX func35 (aX func34) (aX func36)) (aX func42 (aX func41))))) (aX func68 (aX func60 (aX func56 (aX func54 (aX func53) (aX func55)) (aX func58 (aX func57) (aX func59))) (aX func64 (aX func62 (aX func61) (aX func63)) (aX func66 (aX func65)))) (aX func75 (aX func72 (aX func70 (aX func69) (aX func71)) (aX func74 (aX func73))) (aX func81 (aX func78 (aX func76) (aX func80)) (aX func86 (aX func85)))))) (aX func144 (aX func128 (aX func121 (aX func114 (aX func104 (aX func101) (aX func108)) (aX func119 (aX func118) (aX func120))) (aX func125 (aX func123 (aX func122) (aX func124)) (aX func127 (aX func126)))) (aX func135 (aX func132 (aX func130 (aX func129) (aX func131)) (aX func134 (aX func133))) (aX func141 (aX func138 (aX func136) (aX func139)) (aX func143 (aX func142))))) (aX func159 (aX func152 (aX func148 (aX func146 (aX func145) (aX func147)) (aX func150 (aX func149) (aX func151))) (aX func156 (aX func154 (aX func153) (aX func155)) (aX func158 (aX func157)))) (aX func167 (aX func163 (aX func161 (aX func160) (aX func162)) (aX func166 (aX func164))) (aX func171 (aX func169 (aX func168) (aX func170)) (aX func173 (aX func172))))))) (aX func286 (aX func220 (aX func204 (aX func190 (aX func186 (aX func184 (aX func183) (aX func185)) (aX func188 (aX func187) (aX func189))) (aX func201 (aX func199 (aX func198) (aX func200)) (aX func203 (aX func202)))) (aX func213 (aX func208 (aX func206 (aX func205) (aX func207)) (aX func212 (aX func211))) (aX func217 (aX func215 (aX func214) (aX func216)) (aX func219 (aX func218))))) (aX func266 (aX func248 (aX func244 (aX func223 (aX func221) (aX func224)) (aX func246 (aX func245) (aX func247))) (aX func262 (aX func250 (aX func249) (aX func254)) (aX func265 (aX func263)))) (aX func275 (aX func271 (aX func269 (aX func268) (aX func270)) (aX func274 (aX func273))) (aX func280 (aX func278 (aX func277) (aX func279)) (aX func285 (aX func282)))))) (aX func361 (aX func319 (aX func305 (aX func299 (aX func288 (aX func287) (aX func289)) (aX func303 (aX func301) (aX func304))) (aX func316 (aX func307 (aX func306) (aX func308)) (aX func318 (aX func317)))) (aX func349 (aX func339 (aX func321 (aX func320) (aX func338)) (aX func341 (aX func340))) (aX func357 (aX func353 (aX func350) (aX func356)) (aX func360 (aX func358))))) (aX func464 (aX func382 (aX func378 (aX func363 (aX func362) (aX func376)) (aX func381 (aX func379))) (aX func441 (aX func392 (aX func391) (aX func437)) (aX func443 (aX func442)))) (aX func487 (aX func484 (aX func479 (aX func465) (aX func481)) (aX func486 (aX func485))) (aX func567 (aX func509 (aX func508) (aX func535)) (aX func578 (aX func569))))))))
noncomputable def jY:lp:=abH.1
theorem vC:jY.AT prog:=abH.2
end Go.aI
namespace Go.aI
open Go Go.ch Go.Proofs
def PX(F:List K->Option K):List K->ay->Option (K×ay):=fun a b=>match F a with|some v=>some (v,b)|none=>none
def i_:AD:=fun f=>bif Nat.beq f 440 then some (PX YA)else bif Nat.beq f 439 then some (PX TZ)else bif Nat.beq f 611 then some (PX WT)else bif Nat.beq f 540 then some (PX T9)else bif Nat.beq f 534 then some (XQ 5)else none
def l7:em:=.aC 406 [.int .i64 (.ofNat 1),.int .i64 (.ofNat 10),.int .i64 (.ofNat 100),.int .i64 (.ofNat 1000),.int .i64 (.ofNat 10000),.int .i64 (.ofNat 100000),.int .i64 (.ofNat 1000000)]
def l4:em:=.aC 488 [.int .u64 (.ofNat 1),.int .u64 (.ofNat 10),.int .u64 (.ofNat 100),.int .u64 (.ofNat 1000),.int .u64 (.ofNat 10000),.int .u64 (.ofNat 100000),.int .u64 (.ofNat 1000000),.int .u64 (.ofNat 10000000),.int .u64 (.ofNat 100000000),.int .u64 (.ofNat 1000000000),.int .u64 (.ofNat 10000000000),.int .u64 (.ofNat 100000000000),.int .u64 (.ofNat 1000000000000),.int .u64 (.ofNat 10000000000000),.int .u64 (.ofNat 100000000000000),.int .u64 (.ofNat 1000000000000000),.int .u64 (.ofNat 10000000000000000),.int .u64 (.ofNat 100000000000000000),.int .u64 (.ofNat 1000000000000000000),.int .u64 (.ofNat 10000000000000000000)]
end Go.aI
namespace Go.aI
open Go Go.Proofs.Tryz Go.ch Go.Proofs
theorem follows:prog.follows .mixedOrders=true:=au
theorem afI:prog.globals.size=13:=au
theorem asQ:nN prog 440 Extern.AbiNoEscape.same:=nN.g0 func440 au au au au
theorem asP:nN prog 611 Extern.BytealgIndexByte.indexByte:=nN.g0 func611 au au au au
theorem asM:nN prog 540 Extern.BytealgCount.count:=nN.g0 func540 au au au au
theorem asL:nN prog 439 Extern.BytealgCompare.compare:=nN.g0 func439 au au au au
theorem asR:nN prog 534 (Extern.BytealgMakeNoZero.makeNoZero #[3] #[230]):=nN.g0 func534 au au au au
theorem wk{ρ:b4}(f:FuncId)(F:List K->ay->Option (K×ay))(h:i_ f=some F):ls prog ρ f F:=by
 unfold i_ at h;simp only[xt]at h;split at h
 ·rename_i e;subst e;cases h;exact ay_ asQ
 split at h
 ·rename_i e;subst e;cases h;exact arW asL
 split at h
 ·rename_i e;subst e;cases h;exact aw4 asP
 split at h
 ·rename_i e;subst e;cases h;exact ar7 asM
 split at h
 ·rename_i e;subst e;cases h;exact ay' asR underlying230
 ·cases h
theorem as4{ρ:b4}(a:ρ.nC=mK prog)(n:Nat):rB prog ρ (iC prog i_ jY.find n):=
 OB follows a (lp.sY vC) wk n
end Go.aI
