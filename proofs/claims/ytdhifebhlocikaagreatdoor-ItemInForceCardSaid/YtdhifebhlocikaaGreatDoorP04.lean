/- ItemInForce, one part of the proof. -/
import Derived.Test.YtdhifebhlocikaaGreatDoorP00
set_option linter.all false
set_option maxRecDepth 100000
set_option maxHeartbeats 16000000
namespace Go.aM
def aZ(l:List UInt8):Nat:=l.foldl (λn c=>n*256+c.toNat) 0
def Sk(l:List UInt8):∀n,l.foldl (λn c=>n*256+c.toNat) n=n*256^l.length+aZ l:=by exact app
def zd(c:UInt8)(l:List UInt8):aZ (c::l)=c.toNat*256^l.length+aZ l:=by show(c::l).foldl _ 0=_;rw[Lc,Sk];simp
def XH(l:List UInt8)(c:UInt8):aZ (l++[c])=aZ l*256+c.toNat:=by unfold aZ;rw[afy];rfl
def x5:∀(l:List UInt8),aZ l<256^l.length
 |[]=>by simp[aZ]
 |c::l=>by rw[zd,l8,yR];have H:=x5 l;have I:=Rs c;have a:c.toNat*256^l.length<=255*256^l.length:=rm _ z;omega
def MA(l:List UInt8):∀(k:Nat),(∀i,i<k->l[i]? =some 0)->aZ (l.drop k)=aZ l
 |0,_=>by simp
 |k+1,h=>by have af:=MA l k λi hi=>h i z;have a:=h k z;let⟨au,a⟩:=kL.1 a;rw[H0 au,zd,a]at af;simpa using af
variable{l:List UInt8}{n:Nat}
def ahN{c:UInt8}(O:c≠0)(h:aZ (c::l)<256^n):(c::l).length<=n:=by exact ao3
def WJ(s t:Ψ):Prop:=aZ t.data.toList=aZ s.data.toList/\t.size<=s.size/\∀n,aZ s.data.toList<256^n->t.size<=n
def ade(s t:Ψ)(k:Nat)(ak:t.data.toList=s.data.toList.drop k)(a:k<=s.data.toList.length)(az:∀j,j<k->s.data.toList[j]? =some 0)(aP:∀h:k<s.data.toList,s.data.toList[k]≠0):WJ s t:=by exact aod
variable{k:Nat}
def as6(a:∀j,j<k->l[j]? =some 0)(h:l[k]? =some 0):∀j,j<k+1->l[j]? =some 0:=λj b=>by
 by_cases e:j=k
 .subst e;exact h
 .exact a j z
def kj(n j:Nat):List Int:=(List.range j).map λi=>(((n/2^(56-8*i))%256:Nat):Int)
def acz(k:Nat):(UInt8.ofNat (k%256)).toNat=k%256:=by rw[VN];omega
def XG(n:Nat)(h:n<9223372036854775808):aZ ((kj n 8).map λx=>UInt8.ofNat x.toNat)=n:=by exact apk
def dG(s:Ψ)(n:Nat):Prop:=aZ s.data.toList=n/\∀k,n<256^k->s.size<=k
variable{s:Ψ}
def WJ.am9{t:Ψ}(h:WJ s t):dG t (aZ s.data.toList):=⟨h.1,h.2.2⟩
def dG.zero(h:dG s n):(s.size=0)↔n=0:=by constructor;intro e;have:s.data.toList=[]:=CL (by rw[iV];exact e);rw[<-h.1,this];rfl;intro e;have:=h.2 0 (by rw[e];decide);omega
def dG.lt(h:dG s n):n<256^s.size:=by have:=x5 s.data.toList;rw[h.1,iV]at this;exact this
def dG.lx(h:dG s n)(a:256^k<=n):k<s.size:=by have H:=h.lt;have:256^k<256^s.size:=rk a H;exact(Nat.pow_lt_pow_iff_right z).1 this
def ahL(a b:List UInt8):aZ (a++b)=aZ a*256^b.length+aZ b:=by show(a++b).foldl _ 0=_;rw[afy,Sk];rfl
def D:List Nat->Nat
 |[]=>0
 |d::l=>d+16777216*D l
def af4(a b:List Nat):D (a++b)=D a+16777216^a.length*D b:=by
 induction a with
 |nil=>simp[D]
 |cons d a c=>show d+16777216*D (a++b)=d+16777216*D a+16777216^(a.length+1)*D b;rw[c,EV,yR,H9 (16777216^a.length) 16777216,EW];omega
def Ly(a:List Nat)(d:Nat):D (a++[d])=D a+16777216^a.length*d:=by rw[af4];simp[D]
def md(l:List Nat):Prop:=∀d∈l,d<16777216
def md.nil:md []:=λd h=>by cases h
def md.xu{l:List Nat}{d:Nat}(h:md l)(hd:d<16777216):md (l++[d]):=λe aP=>by
 rcases kx.1 aP with aP|aP
 .exact h e aP
 .simp at aP;omega
def md.take{l:List Nat}(h:md l)(k:Nat):md (l.take k):=λd hd=>h d (Lf hd)
def af5{l:List Nat}(h:md l):D l<16777216^l.length:=by
 induction l with
 |nil=>simp[D]
 |cons d l a=>have H:=a λe aP=>h e (by simp[aP]);have I:=h d aq;simp only[D,l8,yR];omega
def WA(l:List Nat)(k:Nat)(h:k<l):D (l.take (k+1))=D (l.take k)+16777216^k*l[k]:=by rw[r6 h,Ly,mw,Wl (AK h)]
def aHj(j:Nat):256^(3*j)=16777216^j:=by rw[Nat.pow_mul]
def i5(d:Nat):List UInt8:=[UInt8.ofNat (d/65536%256),UInt8.ofNat (d/256%256),UInt8.ofNat (d%256)]
def Ls:List Nat->List UInt8
 |[]=>[]
 |d::l=>Ls l++i5 d
def awh(d:Nat)(h:d<16777216):aZ (i5 d)=d:=by simp only[i5,aZ,Lc,List.foldl_nil,acz];omega
def awi{l:List Nat}(h:md l):aZ (Ls l)=D l:=by
 induction l with
 |nil=>rfl
 |cons d l a=>simp only[Ls,D];rw[ahL,awh d (h d aq),a λe aP=>h e (by simp[aP])];simp[i5];omega
end Go.aM
namespace Go.aM
open Go Go.Proofs.Tryz Go.Proofs Go.RowKit
variable{w:Γ}{v:Φ}
def kQ{b i:Nat}{cs:Ω}{t:TypeId}(h:w.heap[b]? =some (.cells cs t (0,0)))(hi:cs[i]? =some v):w ⟨b,i,none⟩=some v:=by simp[World.cell?,h,hi]
def c7(w:Γ)(o:Obj):(w.alloc o).heap[w.heap.size]? =some o:=pW w o
variable{k:Nat}
def uC(w:Γ)(o:Obj)(h:k<w):(w.alloc o).heap[k]? =w.heap[k]? :=CJ w o k h
def jt(w:Γ)(o:Obj):(w.alloc o).heap.size=w.heap.size+1:=aq
def aiv{c:UInt8}(h:(((c.toNat:Nat):Int)==0)=true):c=0:=by
 have:c.toNat=0:=by simpa using h
 exact Wo.1 (by simpa using this)
def Yb(s:Ψ)(k:Nat)(h:k<s.size):s.data.toList[k]? =some s[k]:=by rw[j_ (by rw[iV];exact h)];rfl
def M3(s:Ψ)(k:Nat)(a:k<=s.size)(b:∀j,j<k->s.data.toList[j]? =some 0)(aP:∀h:k<s.size,s[k]≠0):WJ s (s.extract k s.size):=
 ade s _ k (afh s k) (by rw[iV];exact a) b λh=>aP (by rw[iV]at h;exact h)
def h1(n:Nat)(e:Ending):Prop:=∃t:Ψ,e=.returned (.string t)/\dG t n
def zk(s:Ψ)(w:Γ)(b:s.size<=maxLen):Calls prog 198 #[s] w λe w'=>h1 (aZ s.data.toList) e/\w=w':=by
 unfold maxLen at b;go_enter func198,ntmps198;go_wp2;go_loop [3] (λi=>∃k:Nat,k<=s.size/\i=.int .i64 k/\Hid (∀j,j<k->s.data.toList[j]? =some 0)) (λi=>s.size-(RowKit.intOf i).toNat);case atStart=>exact⟨0,dh _,rfl,λj c=>z⟩
 case round=>obtain⟨k,a,rfl,az⟩:=hrel;by_cases au:k<s.size;{go_wp2;exact aoi;{(have aE:((((s[k]'au).toNat:Nat):Int)==0)=false:=by assumption);go_ret;exact⟨⟨_,rfl,(M3 s k a az (λh e=>by rw[e]at aE;simp at aE)).am9⟩,rfl⟩}};{go_wp2;go_ret;exact⟨⟨_,rfl,(M3 s k a az (λh=>absurd h au)).am9⟩,rfl⟩}
def aqm:(256:Nat)^16=340282366920938463463374607431768211456:=al
def Et:(256:Nat)^7=72057594037927936:=al
def dG.len{s:Ψ}{n:Nat}(h:dG s n)(a:n<256^16):s.size<=maxLen:=c6 (h.2 16 a) al
def Ds(s:Ψ)(n:Nat)(w:Γ)(h:dG s n)(a:n<256^16):Calls prog 198 #[s] w λe w'=>h1 n e/\w=w':=by have:=zk s w (h.len a);rw[h.1]at this;exact this
def ahO(l:List UInt8)(k:Nat)(h:k<=6):aZ (l.take k)<281474976710656:=by exact aoP
def ahP(t:Ψ)(k:Nat)(h:k<t.size):aZ (t.data.toList.take (k+1))=aZ (t.data.toList.take k)*256+t[k].toNat:=by exact aoW
def vu(n:Nat)(e:Ending):Prop:=e=.returned (.tuple #[.int .i64 n,.bool true])
def Ec(s:Ψ)(N:Nat)(w:Γ)(b:dG s N)(a:N<256^7):Calls prog 200 #[s] w λe w'=>vu N e/\w=w':=by
 have d:=A a;have c:=A b;have f:Hid (N<256^16):=i4 a (k5 z z);clear a b;go_enter func200,ntmps200;go_wp2_with (go_at_call 198;refine(Ds s N _ c f).mono ?_;rintro e w' ⟨⟨t,rfl,T⟩,rfl⟩;have l:t.size<=7:=T.2 7 d;have j:decide (8<(t.size:Int))=false:=bw;have m:((t.size:Int)==8)=false:=bw);go_loop [4,5] (λn i=>∃k:Nat,k<=t.size/\i=.int .i64 k/\n=.int .i64 (aZ (t.data.toList.take k))) (λ_ i=>t.size-(RowKit.intOf i).toNat);case atStart=>exact⟨0,dh _,rfl,rfl⟩
 case round=>obtain⟨k,g,rfl,rfl⟩:=hrel;by_cases au:k<t.size;exact ao9;{(have TT:k=t.size:=z;have abh:aZ (t.data.toList.take k)=N:=by rw[TT,vg (by rw[iV];exact aY _)];exact T.1);exact aoY}
def wm(s:Ψ)(N n:Nat)(w:Γ)(b:dG s N)(f:n<=7)(a:N<256^n):Calls prog 123 #[s,n] w λe w'=>vu N e/\w=w':=by have d:Hid (N<256^7):=i4 a (k5 z f);have i:Hid (N<256^16):=i4 a (k5 z z);have g:=A a;have c:=A b;clear a b;go_enter VU,ntmps123;go_wp2_with (first|(go_at_call 198;refine(Ds s N _ c i).mono ?_;rintro e w' ⟨⟨t,rfl,T⟩,rfl⟩;have k:t.size<=n:=T.2 n g;have j:decide (n<t.size)=false:=bw)|(go_at_call 200;refine(Ec s N _ c d).mono ?_;rintro e w' ⟨rfl,rfl⟩));go_ret2;exact⟨rfl,rfl⟩
def ar3(s:Ψ)(N n:Nat)(w:Γ)(a:dG s N)(i:n<=7)(b:256^n<=N)(c:N<256^16):Calls prog 123 #[s,n] w λe w'=>e=.returned (.tuple #[.int .i64 0,.bool false])/\w=w':=by have g:=A c;have f:=A b;have d:=A a;clear b a c;go_enter VU,ntmps123;go_wp2_with (go_at_call 198;refine(Ds s N _ d g).mono ?_;rintro e w' ⟨⟨t,rfl,T⟩,rfl⟩;have k:n<t.size:=T.lx f;have j:decide (n<t.size)=true:=bw);go_ret2;exact⟨rfl,rfl⟩
def Uh:(prog.info? 5).map (λi=>(i.zero,i.size,i.bytes))=some (some (.int .u8 0),1,1):=aw
def xk(w:Γ)(t:TypeId)(v:Φ):∀(j:Nat) (u:Φ),[v][j]? =some u->(w.alloc (.cells #[v] t)).cell? ((⟨w,0,none⟩:Addr).add j)=some u:=by exact ab8
def X3(n j:Nat):kj n (j+1)=kj n j++[(((n/2^(56-8*j))%256:Nat):Int)]:=by simp[kj,Li]
variable{aH:List Φ}
def wh{base:Nat}{e:TypeId}(h:w.ownsRow base e 1 v k aH):∀g,v.ownBlock=some g->base<=g:=by intro g ar;let⟨a,aS⟩:=h;exact ao0
def acJ{base:Nat}{a b:Int}(h:w.ownsRow base 5 1 v k (aH++[.int .u8 a]))(e:a=b):w.ownsRow base 5 1 v k (aH++[.int .u8 b]):=e▸h
def aqa{wr:Γ}{g:Nat}{a:Ω}(fS:List Int)(d:fS.length=k)(b:wr.heap[g]? =some (.cells a 5 (0,0)))(c:a.toList.take (k*1)=fS.map (Value.int .u8)):∀i,i<k->wr ⟨g,0+i,none⟩=some (.int .u8 (fS.getD i 0)):=λi hi=>by
 have H:(a.toList.take (k*1))[i]? =(fS.map (Value.int .u8))[i]? :=by rw[c]
 rw[pk,ci z,ou]at H
 have I:i<fS.length:=z
 rw[j_ I]at H
 simp only[World.cell?,b,gy]
 simp only[vc]at H
 rw[H,qt,j_ I]
 rfl
def acD(w:Γ):χ 121 #[.int .i64 0] w λe w'=>h1 0 e:=by have a:=λ(w:Γ) (l c:Nat)=>V_ (P:=prog) (w:=w) 131 5 sK xH l c;have b:=λ(w:Γ) (l c:Nat)=>a w l c 106 K4;go_enter Q6,V1;go_wp2;refine AF 1 ?_;rw[pX];go_wp2_with (go_at_call 198;refine(zk _ _ (by simp[maxLen])).mono ?_;rintro e w' ⟨⟨t,rfl,T⟩,rfl⟩);go_ret;exact⟨⟨t,rfl,T⟩,bl _ _⟩
def acB(n:Nat)(w:Γ)(af:0<n)(H:n<9223372036854775808):χ 121 #[n] w λe w'=>h1 n e:=by
 let⟨B,G,K,D,I⟩:=iz Uh;have ag:decide (0<(n:Int))=true:=bw;go_enter Q6,V1;go_wp2;go_loopw [3,4] (λv i wr=>∃j:Nat,j<=8/\i=.int .i64 (56-8*(j:Int))/\wr.ownsRow w 5 1 v j ((kj n j).map (Value.int .u8))/\β w wr) (λ_ i _=>(RowKit.intOf i+8).toNat);case atStart=>exact⟨0,z,rfl,ne _ _ _ _,bl _ _⟩
 case round=>obtain⟨j,L,rfl,c,b⟩:=hrel;by_cases au:j<8;{(have x:j=0∨j=1∨j=2∨j=3∨j=4∨j=5∨j=6∨j=7:=z;have d:=X3 n j;rcases x with rfl|rfl|rfl|rfl|rfl|rfl|rfl|rfl);all_goals(have u:=A d;clear d;go_wp2_with (at_builtin;refine lP _ rfl _ _ 131 rfl w 5 B (.int .u8 0) 1 1 sK G K D I rfl al _ _ _ rfl (c.alloc _) ⟨wr,0,none⟩ 1 1 [_] rfl rfl (xk _ _ _) (by simp[Value.oneCell']) (by unfold maxLen;omega) z (by have:=b.size;simp;omega) ?_;intro O y k l _);have a:β w y:=(b.alloc b.size _).grown l (by have:=b.size;simp;omega) (wh c);have F:=A k;clear k l;(go_wp2;first|(refine⟨⟨1,z,bz,?_,a⟩,by simp[RowKit.intOf]⟩)|(refine⟨⟨2,z,bz,?_,a⟩,by simp[RowKit.intOf]⟩)|(refine⟨⟨3,z,bz,?_,a⟩,by simp[RowKit.intOf]⟩)|(refine⟨⟨4,z,bz,?_,a⟩,by simp[RowKit.intOf]⟩)|(refine⟨⟨5,z,bz,?_,a⟩,by simp[RowKit.intOf]⟩)|(refine⟨⟨6,z,bz,?_,a⟩,by simp[RowKit.intOf]⟩)|(refine⟨⟨7,z,bz,?_,a⟩,by simp[RowKit.intOf]⟩)|(refine⟨⟨8,z,bz,?_,a⟩,by simp[RowKit.intOf]⟩));rw[u.out,yO,afC];exact acJ F (by first|omega|(simp;omega)|(simp)))};{(obtain rfl:j=8:=z;let⟨s,E⟩:=c;rcases E with⟨_,Q⟩|⟨g,cap,M,rfl,U,o,N,S,C,q⟩);omega;{(have m:=aqa (kj n 8) (by simp[kj]) o q;have R:=Rc (P:=prog) wr 131 5 sK xH g 0 8 cap (kj n 8) (by simp[kj]) m 106 K4;have J:=A (XG n H);have f:(strOfNums (kj n 8)).size=8:=by rw[Re];simp[kj]);have r:=A f;clear f m o C q s;go_wp2_with (go_at_call 198;refine(zk _ _ (by rw[r.out];unfold maxLen;omega)).mono ?_;rintro e w' ⟨⟨t,rfl,T⟩,rfl⟩);go_ret;rw[V',J]at T;exact⟨⟨t,rfl,T⟩,b⟩}}
def qn(n:Nat)(w:Γ)(H:n<9223372036854775808):χ 121 #[n] w λe w'=>h1 n e:=by by_cases af:n=0;subst af;exact acD w;exact acB n w z H
end Go.aM
namespace Go.bE
open Go Go.Proofs Go.RowKit Go.Lib Go.aM
inductive bs where
 |mk (k:Int) (s:ByteArray) (N S n:Int) (cs:List ByteArray) (aG:List (List bs))
def aD:Nat->Prop:=λ_=>True
def fj(n:Nat):Nat->Prop:=λb=>n<=b
def g0(B:Nat->Prop)(w:Γ)(a:Θ)(l:List Ψ):Prop:=l.length<=40/\(0<l.length->∃b o,a=some ⟨b,o,none⟩/\B b/\b<w.heap.size/\∀i (hi:i<l.length),w ⟨b,o+i,none⟩=some (.string l[i]))
structure vv (w:Γ) (b o:Nat) (fV dP dq du oO xB ph:Φ):Prop where
 bi:w ⟨b,o,none⟩=some fV
 c1:w ⟨b,o+1,none⟩=some dP
 c2:w ⟨b,o+2,none⟩=some dq
 c3:w ⟨b,o+3,none⟩=some du
 c4:w ⟨b,o+4,none⟩=some oO
 c5:w ⟨b,o+5,none⟩=some xB
 fe:w ⟨b,o+6,none⟩=some ph
abbrev bC(k:Int)(s:Ψ)(N S n:Int)(ca:Θ)(cl cc:Nat)(ra:Θ)(rl rc:Nat):Ω:=#[.int .i64 k,.string s,.int .i64 N,.int .i64 S,.int .i64 n,.slice ca cl cc,.slice ra rl rc]
def cm(B:Nat->Prop)(P:Γ->Ω->bs->Prop)(w:Γ)(a:Θ)(l:List bs):Prop:=l.length<=8/\(0<l.length->∃b o,a=some ⟨b,o,none⟩/\B b/\b<w.heap.size/\∀j (c:j<l.length),∃k s N S n ca cl cc ra rl rc,P w (bC k s N S n ca cl cc ra rl rc) l[j]/\vv w b (o+j*7) (.int .i64 k) (.string s) (.int .i64 N) (.int .i64 S) (.int .i64 n) (.slice ca cl cc) (.slice ra rl rc))
def fz(B:Nat->Prop)(P:Γ->Ω->bs->Prop)(w:Γ)(a:Θ)(l:List (List bs)):Prop:=l.length<=100/\(0<l.length->∃b o,a=some ⟨b,o,none⟩/\B b/\b<w.heap.size/\∀i (hi:i<l.length),∃ra rc,w ⟨b,o+i,none⟩=some (.slice ra l[i].length rc)/\cm B P w ra l[i])
def aR(B:Nat->Prop):Nat->Γ->Ω->bs->Prop
 |0,w,F,.mk k s N S n cs aG=>aG=[]/\∃ca cc ra rc,F=bC k s N S n ca cs.length cc ra 0 rc/\g0 B w ca cs
 |d+1,w,F,.mk k s N S n cs aG=>∃ca cc ra rc,F=bC k s N S n ca cs.length cc ra aG.length rc/\g0 B w ca cs/\fz B (aR B d) w ra aG
def eR(B:Nat->Prop)(w w':Γ):Prop:=w.heap.size<=w'.heap.size/\∀b,B b->b<w.heap.size->w'.heap[b]? =w.heap[b]?
variable{B:Nat->Prop}{w w':Γ}{b o:Nat}
def eR.cell(h:eR B w w')(H:B b)(I:b<w):w' ⟨b,o,none⟩=w ⟨b,o,none⟩:=by simp only[World.cell?];rw[h.2 b H I]
def eR.hs(h:β w w'):eR B w w':=⟨h.size,λb _ I=>h.block b I⟩
def eR.refl(B:Nat->Prop)(w:Γ):eR B w w:=⟨aY _,λ_ _ _=>rfl⟩
def eR.trans{a c:Γ}(h:eR B w a)(k:eR B a c):eR B w c:=⟨c6 h.1 k.1,λb H I=>(k.2 b H (i4 I h.1)).trans (h.2 b H I)⟩
def eR.set{a:Γ}(h:eR B w a){r:Nat}(c:¬B r)(i:Nat)(u:Φ):eR B w (a.setCell ⟨r,i,none⟩ u):=
 ⟨by simpa using h.1,λb H I=>by rw[ht _ _ _ _ (λ(e:b=r)=>c (e▸H))];exact h.2 b H I⟩
def eR.alloc{a:Γ}(h:eR B w a)(o:Obj):eR B w (a.alloc o):=h.trans (eR.hs ((bl _ _).alloc (aY _) o))
variable{a:Θ}{l:List Ψ}
def g0.eB(h:g0 B w a l)(G:eR B w w'):g0 B w' a l:=
 ⟨h.1,λaf=>by
  let⟨b,o,e,d,c,f⟩:=h.2 af
  exact⟨b,o,e,d,i4 c G.1,λi hi=>(G.cell d c).trans (f i hi)⟩⟩
def vv.eB{g d e f i k j:Φ}(h:vv w b o g d e f i k j)(c:B b)(a:b<w)(G:eR B w w'):vv w' b o g d e f i k j:=
 ⟨(G.cell c a).trans h.bi,(G.cell c a).trans h.c1,(G.cell c a).trans h.c2,(G.cell c a).trans h.c3,(G.cell c a).trans h.c4,(G.cell c a).trans h.c5,(G.cell c a).trans h.fe⟩
def qF(B:Nat->Prop)(P:Γ->Ω->bs->Prop):Prop:=∀(w w':Γ) (F:Ω) (v:bs),P w F v->eR B w w'->P w' F v
variable{P:Γ->Ω->bs->Prop}
def cm.eB(m:qF B P){l:List bs}(h:cm B P w a l)(G:eR B w w'):cm B P w' a l:=
 ⟨h.1,λaf=>by
  let⟨b,o,e,d,c,f⟩:=h.2 af
  refine⟨b,o,e,d,i4 c G.1,λj i=>?_⟩
  let⟨k,s,N,S,n,ca,cl,cc,ra,rl,rc,ag,g⟩:=f j i
  exact⟨k,s,N,S,n,ca,cl,cc,ra,rl,rc,m _ _ _ _ ag G,g.eB d c G⟩⟩
def fz.eB(g:qF B P){l:List (List bs)}(h:fz B P w a l)(G:eR B w w'):fz B P w' a l:=
 ⟨h.1,λaf=>by
  let⟨b,o,e,d,c,f⟩:=h.2 af
  refine⟨b,o,e,d,i4 c G.1,λi hi=>?_⟩
  let⟨ra,rc,H,I⟩:=f i hi
  exact⟨ra,rc,(G.cell d c).trans H,cm.eB g I G⟩⟩
def aR.eB{B:Nat->Prop}:∀{d:Nat} {w w':Γ} {F:Ω} {v:bs},aR B d w F v->eR B w w'->aR B d w' F v
 |0,w,w',F,.mk ..,h,G=>by let⟨af,ca,cc,ra,rc,e,H⟩:=h;exact⟨af,ca,cc,ra,rc,e,H.eB G⟩
 |d+1,w,w',F,.mk ..,h,G=>by let⟨ca,cc,ra,rc,e,H,I⟩:=h;exact⟨ca,cc,ra,rc,e,H.eB G,fz.eB (P:=aR B d) (λ_ _ _ _ ag G=>aR.eB ag G) I G⟩
def g0.K(h:g0 B w a l)(G:β w w'):g0 B w' a l:=h.eB (.hs G)
def cm.K(b:qF B P){l:List bs}(h:cm B P w a l)(G:β w w'):cm B P w' a l:=h.eB b (.hs G)
def fz.K(b:qF B P){l:List (List bs)}(h:fz B P w a l)(G:β w w'):fz B P w' a l:=h.eB b (.hs G)
variable{F:Ω}{v:bs}
def aR.K{d:Nat}(h:aR B d w F v)(G:β w w'):aR B d w' F v:=h.eB (.hs G)
variable{B':Nat->Prop}
def g0.low(c:∀b,B b->B' b)(h:g0 B w a l):g0 B' w a l:=
 ⟨h.1,λaf=>by
  let⟨b,o,e,H,I⟩:=h.2 af
  exact⟨b,o,e,c _ H,I⟩⟩
variable{P':Γ->Ω->bs->Prop}
def cm.low(g:∀b,B b->B' b)(i:∀w F v,P w F v->P' w F v){l:List bs}(h:cm B P w a l):cm B' P' w a l:=
 ⟨h.1,λaf=>by
  let⟨b,o,e,H,I,c⟩:=h.2 af
  refine⟨b,o,e,g _ H,I,λj f=>?_⟩
  let⟨k,s,N,S,n,ca,cl,cc,ra,rl,rc,ag,d⟩:=c j f
  exact⟨k,s,N,S,n,ca,cl,cc,ra,rl,rc,i _ _ _ ag,d⟩⟩
def fz.low(c:∀b,B b->B' b)(j:∀w F v,P w F v->P' w F v){l:List (List bs)}(h:fz B P w a l):fz B' P' w a l:=
 ⟨h.1,λaf=>by
  let⟨b,o,e,H,I,d⟩:=h.2 af
  refine⟨b,o,e,c _ H,I,λi hi=>?_⟩
  let⟨ra,rc,g,f⟩:=d i hi
  exact⟨ra,rc,g,f.low c j⟩⟩
def aR.low{B B':Nat->Prop}(a:∀b,B b->B' b):∀{d:Nat} {w:Γ} {F:Ω} {v:bs},aR B d w F v->aR B' d w F v
 |0,w,F,.mk ..,h=>by let⟨af,ca,cc,ra,rc,e,H⟩:=h;exact⟨af,ca,cc,ra,rc,e,H.low a⟩
 |d+1,w,F,.mk ..,h=>by let⟨ca,cc,ra,rc,e,H,I⟩:=h;exact⟨ca,cc,ra,rc,e,H.low a,fz.low a (P:=aR B d) (P':=aR B' d) (λ_ _ _ ag=>aR.low a ag) I⟩
def g0.lt(h:g0 B w a l):g0 (λb=>B b/\b<w) w a l:=
 ⟨h.1,λaf=>by
  let⟨b,o,e,H,I,c⟩:=h.2 af
  exact⟨b,o,e,⟨H,I⟩,I,c⟩⟩
def cm.lt(g:∀F v,P w F v->P' w F v){l:List bs}(h:cm B P w a l):cm (λb=>B b/\b<w) P' w a l:=
 ⟨h.1,λaf=>by
  let⟨b,o,e,H,I,c⟩:=h.2 af
  refine⟨b,o,e,⟨H,I⟩,I,λj f=>?_⟩
  let⟨k,s,N,S,n,ca,cl,cc,ra,rl,rc,ag,d⟩:=c j f
  exact⟨k,s,N,S,n,ca,cl,cc,ra,rl,rc,g _ _ ag,d⟩⟩
def fz.lt(g:∀F v,P w F v->P' w F v){l:List (List bs)}(h:fz B P w a l):fz (λb=>B b/\b<w) P' w a l:=
 ⟨h.1,λaf=>by
  let⟨b,o,e,H,I,c⟩:=h.2 af
  refine⟨b,o,e,⟨H,I⟩,I,λi hi=>?_⟩
  let⟨ra,rc,f,d⟩:=c i hi
  exact⟨ra,rc,f,d.lt g⟩⟩
def aR.lt{B:Nat->Prop}:∀{d:Nat} {w:Γ} {F:Ω} {v:bs},aR B d w F v->aR (λb=>B b/\b<w) d w F v
 |0,w,F,.mk ..,h=>by let⟨af,ca,cc,ra,rc,e,H⟩:=h;exact⟨af,ca,cc,ra,rc,e,H.lt⟩
 |d+1,w,F,.mk ..,h=>by let⟨ca,cc,ra,rc,e,H,I⟩:=h;exact⟨ca,cc,ra,rc,e,H.lt,fz.lt (P:=aR B d) (P':=aR (λb=>B b/\b<w) d) (λ_ _ ag=>aR.lt ag) I⟩
def aR.HG(h:aR B 0 w F v):aR B 1 w F v:=by let⟨k,s,N,S,n,cs,aG⟩:=v;obtain⟨rfl,ca,cc,ra,rc,e,H⟩:=h;exact⟨ca,cc,ra,rc,e,H,aq,λaf=>absurd af aq⟩
def aR.gX{B:Nat->Prop}{d:Nat}{w:Γ}{F:Ω}{k N S n:Int}{s:Ψ}{cs:List Ψ}{aG:List (List bs)}(h:aR B d w F (.mk k s N S n cs aG)):∃ca cc ra rc,F=bC k s N S n ca cs cc ra aG rc/\g0 B w ca cs/\fz B (aR B (d-1)) w ra aG:=by
 cases d with
 |zero=>obtain⟨rfl,ca,cc,ra,rc,e,H⟩:=h;exact⟨ca,cc,ra,rc,e,H,aq,λaf=>absurd af aq⟩
 |succ d=>exact h
def aR.jb(B:Nat->Prop)(d:Nat)(w:Γ)(k:Int)(s:Ψ)(N S n:Int)(ca:Θ)(cc:Nat)(ra:Θ)(rc:Nat):aR B d w (bC k s N S n ca 0 cc ra 0 rc) (.mk k s N S n [] []):=by
 cases d with
 |zero=>exact⟨rfl,ca,cc,ra,rc,rfl,aq,λaf=>absurd af aq⟩
 |succ d=>exact⟨ca,cc,ra,rc,rfl,⟨aq,λaf=>absurd af aq⟩,aq,λaf=>absurd af aq⟩
def cm.nil:cm B P w a []:=⟨aq,λaf=>absurd af aq⟩
def fz.nil:fz B P w a []:=⟨aq,λaf=>absurd af aq⟩
variable{x y:Ψ}
def aKV(h:x≠y):x.toList≠y.toList:=λe=>h (by
 rw[AE,AE]at e
 exact KY (afe.1 e))
def qH(x:Ψ):(x.toList==x.toList)=true:=aq
def fX(h:x≠y):(x.toList==y.toList)=false:=by rw[mx];exact aKV h
def p7(p:Bool->Prop)(e:Ending):Prop:=∃r:Bool,e=.returned (.bool r)/\p r
end Go.bE
namespace Go.aM
open Go Go.Proofs.Tryz Go.Proofs Go.RowKit
variable{n m:Nat}
def pN(h:n<m)(a:m<=340282366920938463463374607431768211456):n<256^16:=by rw[aqm];omega
def awH(a b:Ψ)(m n:Nat)(w:Γ)(aL:dG a m)(G:dG b n)(c:m<72057594037927936)(d:n<72057594037927936):χ 54 #[a,b] w λe w'=>h1 (m+n) e:=by
 have c1:∀w,Calls prog 123 #[a,.int .i64 7] w λe w'=>e=.returned (.tuple #[m,.bool true])/\w=w':=λw=>wm a m 7 w aL z (by rw[Et];omega);have c2:∀w,Calls prog 123 #[b,.int .i64 7] w λe w'=>e=.returned (.tuple #[n,.bool true])/\w=w':=λw=>wm b n 7 w G z (by rw[Et];omega);have c3:∀w,χ 121 #[.int .i64 ((m:Int)+(n:Int))] w λe w'=>h1 (m+n) e:=λw=>by have:=qn (m+n) w z;rw[afv]at this;exact this
 have bp:=A c1;have bP:=A c2;have ia:=A c3;clear c1 c2 c3 aL G;go_enter V0,ntmps54;exact ao7
def apx(a b:Ψ)(m n:Nat)(w:Γ)(aL:dG a m)(G:dG b n)(c:m<16777216)(d:n<2147483648):χ 199 #[a,b] w λe w'=>h1 (m*n) e:=by
 have g:m*n<36028797018963968:=by have H:m*n<=16777215*n:=rm _ z;omega
 have c1:∀w,Calls prog 123 #[a,.int .i64 3] w λe w'=>e=.returned (.tuple #[m,.bool true])/\w=w':=λw=>wm a m 3 w aL z (i4 c al);have c2:∀w,Calls prog 123 #[b,.int .i64 4] w λe w'=>e=.returned (.tuple #[n,.bool true])/\w=w':=λw=>wm b n 4 w G z (i4 d al);have c3:∀w,χ 121 #[.int .i64 ((m:Int)*(n:Int))] w λe w'=>h1 (m*n) e:=λw=>by have:=qn (m*n) w z;rw[EN]at this;exact this
 have bp:=A c1;have bP:=A c2;have ia:=A c3;have f:wrap64 ((m:Int)*(n:Int))=(m:Int)*(n:Int):=Q4 _ ⟨by rw[<-EN];omega,by rw[<-EN];omega⟩;clear c1 c2 c3 aL G;go_enter VW,ntmps199;exact ao7
def ar1(q:Nat)(h:q<36028797018963968):IntKind.i64.wrap (q:Int)=q:=pU _ ⟨z,z⟩
def aJA(m n:Nat)(a:m<36028797018963968):IntKind.i64.wrap ((m:Int)/(n:Int))=(m:Int)/(n:Int):=
 ar1 (m/n) (rk (H7 _ _) a)
def aJB(m n:Nat)(a:m<36028797018963968):IntKind.i64.wrap ((m:Int)%(n:Int))=(m:Int)%(n:Int):=
 ar1 (m%n) (rk (Nat.mod_le _ _) a)
def Mt(m n:Nat)(e:Ending):Prop:=∃q r:Ψ,e=.returned (.tuple #[.string q,.string r,.bool true])/\dG q (m/n)/\dG r (m%n)
def Ai(a b:Ψ)(m n:Nat)(w:Γ)(aL:dG a m)(G:dG b n)(d:m<36028797018963968)(j:n<36028797018963968)(af:0<n):χ 307 #[a,b] w λe w'=>Mt m n e:=by
 have s:n<256^16:=pN j al;have bi:∀w,Calls prog 198 #[b] w λe w'=>h1 n e/\w=w':=λw=>Ds b n w G s;have c1:∀w,Calls prog 123 #[a,.int .i64 7] w λe w'=>e=.returned (.tuple #[m,.bool true])/\w=w':=λw=>wm a m 7 w aL z (by rw[Et];omega);have c3:∀w,χ 121 #[.int .i64 ((m:Int)/(n:Int))] w λe w'=>h1 (m/n) e:=λw=>by have:=qn (m/n) w (Lm (rk (H7 _ _) d) al);exact this
 have c4:∀w,χ 121 #[.int .i64 ((m:Int).tmod (n:Int))] w λe w'=>h1 (m%n) e:=λw=>by have:=qn (m%n) w (Lm (rk (Nat.mod_le _ _) d) al);exact this
 have i:=A bi;have l:=A c1;have q:=A c3;have r:=A c4;have u:((n:Int)==0)=false:=bw;clear c1 c3 c4 bi aL G;go_enter func307,ntmps307;go_wp2_with (first|(go_at_call 198;((with_reducible refine(i.out _).mono ?_);rintro e y ⟨⟨c,rfl,f⟩,rfl⟩;have E:¬(c.size=0):=(λe=>by have:=f.zero.1 e;omega);have x:((c.size:Int)==0)=false:=(by rw[mx];omega);have k:Hid (∀w,Calls prog 123 #[c,.int .i64 7] w λe w'=>e=.returned (.tuple #[n,.bool true])/\w=w'):=(λw=>wm c n 7 w f z (by rw[Et];omega))))|(go_at_call 123;((with_reducible refine(l.out _).mono ?_);rintro e w' ⟨rfl,rfl⟩))|(go_at_call 123;((with_reducible refine(k.out _).mono ?_);rintro e w' ⟨rfl,rfl⟩)));have F:¬n=0:=z;have B:IntKind.i64.wrap ((m:Int)/(n:Int))=(m:Int)/(n:Int):=aJA m n d;have D:IntKind.i64.wrap ((m:Int)%(n:Int))=(m:Int)%(n:Int):=aJB m n d;go_region_law (first|(go_simp;go_at_call 121;(with_reducible refine(q.out _).mono ?_);rintro e w3 ⟨⟨t,rfl,J⟩,G⟩)|(go_simp;go_at_call 121;(with_reducible refine(r.out _).mono ?_);rintro e C ⟨⟨t4,rfl,g⟩,o⟩));all_goals(go_wp2;go_ret3;exact⟨⟨t,t4,rfl,J,g⟩,((bl w w).drew.trans G).trans (o.mono G.size)⟩)
def pC(l:List Nat):List Φ:=l.map λ(d:Nat)=>Value.int .i64 (d:Int)
def FK(l:List Nat)(d:Nat):pC (l++[d])=pC l++[.int .i64 (d:Int)]:=by simp[pC]
def mU(w:Γ)(v:Φ)(l:List Nat):Prop:=w.ownsRow 0 3 1 v l.length (pC l)
variable{k:Nat}{v:Φ}{w w':Γ}{aH:List Φ}
def aGK{base:Nat}{e:TypeId}(h:w.ownsRow base e 1 v k aH)(G:β w w'):w'.ownsRow base e 1 v k aH:=by exact aca
variable{l:List Nat}
def mU.K(h:mU w v l)(G:β w w'):mU w' v l:=aGK h G
def mU.hs{base:Nat}(h:w.ownsRow base 3 1 v l (pC l)):mU w v l:=by
 let⟨b,a⟩:=h;refine⟨b,?_⟩;rcases a with a|⟨g,cap,d,ak,e,c⟩
 exact .inl a;exact .inr ⟨g,cap,d,ak,dh _,c⟩
def mU.open{v:Φ}{w:Γ}{l:List Nat}(h:mU w v l):∃a cap,v=.slice a l.length cap/\cap<=maxLen/\l.length<=cap/\(0<l.length->∃g,a=some ⟨g,0,none⟩/\g<w.heap.size)/\∀g,a=some ⟨g,0,none⟩->∀i (hi:i<l.length),w ⟨g,i,none⟩=some (.int .i64 (l[i]:Int)):=by
 obtain⟨m,c⟩:=h;rcases c with⟨rfl,d⟩|⟨g,cap,e,rfl,_,b,f,j,n,k⟩
 .exact⟨none,0,by rw[d],al,z,λh=>z,λg ar=>by cases ar⟩
 .refine⟨_,cap,rfl,j,f,λ_=>⟨g,rfl,(hl.1 b).1⟩,λo ar i hi=>?_⟩;cases ar;have H:(e.toList.take (l.length*1))[i]? =(pC l)[i]? :=by rw[k]
  rw[pk,ci z]at H;simp only[pC,ou,j_ hi,ov]at H;simp only[vc]at H;simp[World.cell?,b,H]
def Ug:(prog.info? 3).map (λi=>(i.zero,i.size,i.bytes))=some (some (.int .i64 0),1,8):=aw
def avH(N:Nat)(e:Ending)(w':Γ):Prop:=∃v l,e=.returned v/\mU w' v l/\D l=N/\md l/\l.length<=6/\∀k,N<256^(3*k)->l.length<=k
def awg{l:List UInt8}(h:l.length<=3):aZ l<16777216:=by have H:=x5 l;have b:256^l.length<=256^3:=k5 z h;have a:(256:Nat)^3=16777216:=al;omega
def awk(t:Ψ)(f m:Nat)(c:f<=m)(b:m<t.size):aZ ((t.data.toList.drop f).take (m+1-f))=aZ ((t.data.toList.drop f).take (m-f))*256+t[m].toNat:=by
 have e:m+1-f=(m-f)+1:=z;have a:t.data.toList.length=t.size:=iV;rw[e,r6 (by rw[pm];omega),XH];have I:(t.data.toList.drop f)[m-f]'(by rw[pm];omega)=t[m]:=by rw[Ri];have:f+(m-f)=m:=z;simp only[this];rfl
 rw[I]
def awj(l:List UInt8)(f E j:Nat)(c:f<=E)(d:E<=l.length)(b:l.length-E=3*j):aZ (l.drop f)=aZ (l.drop E)+16777216^j*aZ ((l.drop f).take (E-f)):=by
 have e:l.drop f=(l.drop f).take (E-f)++l.drop E:=by have:=xL (E-f) (l.drop f);rw[List.drop_drop]at this;have a:f+(E-f)=E:=z;rw[a]at this;exact this.symm
 have:aZ (l.drop f)=aZ ((l.drop f).take (E-f))*256^(l.drop E).length+aZ (l.drop E):=by(conv=>lhs;rw[e]);exact ahL _ _
 rw[this,pm,b,aHj,H9];omega
def Ja(s:Ψ)(N:Nat)(w:Γ)(o:dG s N)(B:N<256^16):Calls prog 124 #[.string s] w λe w'=>avH N e w'/\β w w':=by
 obtain⟨S,Z,n_,X,lj⟩:=iz Ug;have V:=A o;have y:=A B;clear o B;go_enter func124,ntmps124;go_wp2_with (go_at_call 198;refine(Ds s N _ V.out y.out).mono ?_;rintro e w' ⟨⟨t,rfl,T⟩,rfl⟩;have fh:t.size<=16:=T.2 16 y.out);have F:t.data.toList.length=t.size:=iV;go_loopw [3,4] (λv i wr=>∃(j:Nat) (l:List Nat),i=.int .i64 ((t.size:Int)-3*(j:Int))/\3*j<=t.size+2/\l.length=j/\D l=aZ (t.data.toList.drop (t.size-3*j))/\md l/\wr.ownsRow w.heap.size 3 1 v j (pC l)/\β w wr) (λ_ i _=>(RowKit.intOf i).toNat);case atStart=>exact⟨0,[],aq,z,rfl,by simp[F,D];rw[atn z];rfl,md.nil,by simpa[pC]using ne w w.heap.size 3 1,bl _ _⟩
 case round=>obtain⟨j,l,rfl,ab,g,b,u,c,a⟩:=hrel;by_cases au:3*j<t.size;{obtain⟨n,rfl⟩:∃n:Γ,n=wr:=⟨_,rfl⟩;obtain⟨E,cN⟩:∃E:Nat,E+3*j=t.size:=⟨t.size-3*j,z⟩;have L:(t.size:Int)-3*(j:Int)=E:=z;obtain⟨f,kq,uD,uE⟩:∃f:Nat,f<=E/\E<=f+3/\(f=0∨f+3=E):=⟨E-3,z,z,z⟩;have C:max ((E:Int)-3) 0=(f:Int):=z;rw[L];have ae:0<(E:Int):=z;have af:(E:Int)<=16:=z;(go_wp2;go_loop [5,6] (λd k=>∃m:Nat,f<=m/\m<=E/\k=.int .i64 m/\d=.int .i64 (aZ ((t.data.toList.drop f).take (m-f)))) (λ_ k=>E-(RowKit.intOf k).toNat);case atStart=>exact⟨f,aY _,z,by first|rfl|(rw[<-C])|(simp[<-C]),by simp[aZ]⟩);case round=>obtain⟨m,x,w_,rfl,rfl⟩:=hrel;by_cases ad:m<E;{(have M:m<t.size:=z;have G:aZ ((t.data.toList.drop f).take (m-f))<65536:=by(have H:=x5 ((t.data.toList.drop f).take (m-f));have I:((t.data.toList.drop f).take (m-f)).length<=2:=by rw[mw];omega);have ah:256^((t.data.toList.drop f).take (m-f)).length<=256^2:=k5 z I;have aS:(256:Nat)^2=65536:=al;omega);have Q:=A (awk t f m x M);have aa:=Rs t[m];generalize J:aZ ((t.data.toList.drop f).take (m-f))=v at*;clear J;(go_wp2;go_round;case rel=>exact⟨m+1,z,z,bz,by rw[Q.out];go_num⟩);case measure=>simp[RowKit.intOf];omega};{obtain rfl:m=E:=z;have G:aZ ((t.data.toList.drop f).take (m-f))<16777216:=awg (by rw[mw];omega);have hcut:=A (awj t.data.toList f m j x z z);have W:=A b;clear b;generalize J:aZ ((t.data.toList.drop f).take (m-f))=v at*;clear J;go_wp2_with (at_builtin;refine lP _ rfl _ _ 22 rfl w.heap.size 3 S (.int .i64 0) 1 8 pj Z n_ X lj rfl al _ _ _ rfl (c.alloc _) ⟨n.heap.size,0,none⟩ 1 1 [_] rfl rfl (xk _ _ _) (by simp[Value.oneCell']) (by unfold maxLen;omega) z (by have:=a.size;simp;omega) ?_;intro dS R q r _);have U:β w R:=(a.alloc a.size _).grown r (by have:=a.size;simp;omega) (wh c);have Y:=A q;clear q r;go_wp2;refine⟨⟨j+1,l++[v],bz,z,by simp[g],?_,u.xu G,by rw[FK];exact Y.out,U⟩,by simp[RowKit.intOf];omega⟩;have ak:t.size-3*j=m:=z;have P:t.size-3*(j+1)=f:=z;rw[Ly,g,W.out,ak,P,hcut.out]}};{have O:t.size-3*j=0:=z;have dQ:(t.size:Int)-3*(j:Int)<=0:=z;rw[O,La,T.1]at b;go_wp2;go_ret;refine⟨⟨_,l,rfl,mU.hs (base:=w.heap.size) (by rw[g];exact c),b,u,z,λk K=>?_⟩,a⟩;have:=T.2 (3*k) K;omega}
variable{c:Nat}
def mU.take{a:Θ}(h:mU w (.slice a l c) l)(k:Nat)(q:k<=l.length)(aL:∃g,a=some ⟨g,0,none⟩):mU w (.slice a k c) (l.take k):=by
 obtain⟨j,rfl⟩:=aL;let⟨r,b⟩:=h;have d:(l.take k).length=k:=by rw[mw];omega
 refine⟨by simp[pC],.inr ?_⟩;rcases b with⟨b,_⟩|⟨g,cap,i,ak,e,f,s,m,n,o⟩
 cases b
 .simp only[EK,cx,Addr.mk.injEq]at ak;obtain⟨⟨rfl,_⟩,_,rfl⟩:=ak;refine⟨j,c,i,by rw[d],e,f,z,m,n,?_⟩;rw[d];have:pC (l.take k)=(pC l).take k:=by simp[pC]
  rw[this,<-o,List.take_take];congr 1;omega
def atQ(l:List Nat)(k:Nat)(h:k<l)(a:l[k]=0):D (l.take k)=D (l.take (k+1)):=by rw[WA l k h,a];omega
def av6(w:Γ)(l:List Nat)(e:Ending):Prop:=∃b a,e=.returned b/\mU w b a/\D a=D l/\md a/\a.length<=l.length
def aKX(v:Φ)(l:List Nat)(w:Γ)(h:mU w v l)(kH:md l):Calls prog 417 #[v] w λe w'=>av6 w l e/\w=w':=by
 obtain⟨a,cap,rfl,n,r,qT,hU⟩:=h.open;unfold maxLen at n;go_enter func417,ntmps417;go_wp2;go_loop [0] (λv=>∃k:Nat,k<=l.length/\v=.slice a k cap/\Hid (D (l.take k)=D l)) (λv=>match v with|.slice _ k _=>k|_=>0);case atStart=>exact⟨l.length,aY _,rfl,by rw[vg (aY _)];exact rfl⟩
 case round=>obtain⟨k,d,rfl,eE⟩:=hrel;by_cases q:0<k;{obtain⟨g,rfl,ar⟩:=qT z;have f:=hU g rfl (k-1) z;have s:(0:Int)<=(k:Int)-1:=z;have t:((k:Int)-1)<k:=z;have u:((k:Int)-1).toNat=k-1:=z;have x:(k:Int)<=cap:=z;by_cases c:l[k-1]'z=0;{have b:=atQ l (k-1) z c;have e:k-1+1=k:=z;rw[e,eE.out]at b;have j:=A b;rw[c]at f;clear b c hU qT;(go_wp2;go_round;case rel=>exact⟨k-1,z,bz,j⟩);case measure=>simp;omega};{(have o:(((l[k-1]'z:Nat):Int)==0)=false:=by rw[mx];omega);have dm:=A (h.take k d ⟨g,rfl⟩);exact aoc}};{(obtain rfl:k=0:=z;have dm:Hid (mU w (.slice a 0 cap) (l.take 0)):=by(rcases Ro l.length with e|e);{have i:=CL e;subst i;exact h};{obtain⟨g,m,_⟩:=qT e;exact h.take 0 d ⟨g,m⟩});exact aoc}
def cF(d:Nat):List Int:=[((d/65536%256:Nat):Int),((d/256%256:Nat):Int),((d%256:Nat):Int)]
def b8:List Nat->List Int
 |[]=>[]
 |d::l=>b8 l++cF d
def aw_(l:List Nat):(b8 l).map (λx=>UInt8.ofNat x.toNat)=Ls l:=by
 induction l with
 |nil=>rfl
 |cons d l a=>simp only[b8,Ls,yO,a];rfl
def X9(l:List Nat):(b8 l).length=3*l.length:=by
 induction l with
 |nil=>rfl
 |cons d l a=>simp[b8,cF,a];omega
def aw'(l:List Nat)(k:Nat)(h:k<l):b8 (l.drop k)=b8 (l.drop (k+1))++cF l[k]:=by rw[H0 h];rfl
def aFw(w:Γ)(t:TypeId)(x y ai:Φ):∀(j:Nat) (u:Φ),[x,y,ai][j]? =some u->(w.alloc (.cells #[x,y,ai] t)).cell? ((⟨w,0,none⟩:Addr).add j)=some u:=by
 intro j u a;rcases j with _|_|_|j
 simp at a;subst a;exact aN 0 (c7 w _);simp at a;subst a;exact aN 1 (c7 w _);simp at a;subst a;exact aN 2 (c7 w _);simp at a
def QG(n:Nat):IntKind.u8.wrap (n:Int)=((n%256:Nat):Int):=by first|rfl|(simp[IntKind.wrap];done)|(simp[IntKind.wrap];omega)
def aGN{base:Nat}{a b c a' d f:Int}(h:w.ownsRow base 5 1 v k (aH++[.int .u8 a,.int .u8 b,.int .u8 c]))(e:a=a')(g:b=d)(i:c=f):w.ownsRow base 5 1 v k (aH++[.int .u8 a',.int .u8 d,.int .u8 f]):=e▸g▸i▸h
def acv(v:Φ)(l:List Nat)(w:Γ)(h:mU w v l)(C:md l)(e8:l.length<=8):Calls prog 125 #[v] w λe w'=>h1 (D l) e/\β w w':=by
 obtain⟨Q,Z,n_,W,lj⟩:=iz Uh;obtain⟨a,cap,rfl,V,dQ,s,o⟩:=h.open;unfold maxLen at V;have k:=λ(w:Γ) (l c:Nat)=>V_ (P:=prog) (w:=w) 131 5 sK xH l c;have u:=λ(w:Γ) (l c:Nat)=>k w l c 106 K4;go_enter func125,ntmps125;go_wp2;go_loopw [3,4] (λv i wr=>∃j:Nat,j<=l.length/\i=.int .i64 ((j:Int)-1)/\wr.ownsRow w.heap.size 5 1 v (3*(l.length-j)) ((b8 (l.drop j)).map (Value.int .u8))/\β w wr) (λ_ i _=>(RowKit.intOf i+1).toNat);case atStart=>exact⟨l.length,aY _,rfl,by rw[atn (aY _),afL];exact ne _ _ _ _,bl _ _⟩
 case round=>
  obtain⟨j,ab,rfl,f,b⟩:=hrel;by_cases au:0<j
  .obtain⟨m,rfl⟩:∃m,j=m+1:=⟨j-1,z⟩;obtain⟨g,rfl,ar⟩:=s z;have E:=o g rfl m z;have L:wr ⟨g,m,none⟩=some (.int .i64 ((l[m]'z:Nat):Int)):=by rw[b.cell ar];exact E
   have hd:=C _ (fp (l:=l) (n:=m) z);have K:=A (aw' l m z);generalize M:l[m]'z=d at*;clear M E;have gQ:(0:Int)<=((m+1:Nat):Int)-1:=z;have gb:((m+1:Nat):Int)-1<l.length:=z;have jg:(((m+1:Nat):Int)-1).toNat=m:=z;have X:((m+1:Nat):Int)-1=(m:Int):=z;rw[X];have nE:(0:Int)<=(m:Int):=z;have nF:(m:Int)<l.length:=z;go_wp2
   go_region_law (first
    |(refine K8 _ (by rfl) _ _ _ (by rfl) w.heap.size 5 Q _ 1 1 sK Z n_ W lj rfl al _ (3*(l.length-(m+1))) _ (by rfl) (afp (World.ownsRow.drew f) _) ⟨wr.heap.size,0,none⟩ 3 3 [_,_,_] (by rfl) rfl (aFw _ _ _ _ _) (by simp[Value.oneCell']) al (by unfold maxLen;omega) z (by have:=b.size;simp;omega) (wr.heap.size+1) aq ?_;intro O sj w7 r F R TW))
   all_goals((have S:β w w7:=(b.drew.alloc b.size _).grown F (by have:=b.size;simp;omega) (wh f);have q:3*(l.length-(m+1))+3=3*(l.length-m):=z;have r_:Hid (w7.ownsRow w.heap.size 5 1 (.slice (some ⟨O,0,none⟩) (3*(l.length-m)) sj) (3*(l.length-m)) ((b8 (l.drop m)).map (Value.int .u8))):=by rw[K.out,yO];rw[q]at r;exact aGN r (QG (d/65536)) (QG (d/256)) (QG d));rw[q];clear r F k u o s R L f q;go_wp2;exact⟨⟨m,z,bz,r_,S⟩,by simp[RowKit.intOf]⟩)
  .obtain rfl:j=0:=z;rw[La,afM]at f;obtain⟨I,Y⟩:=f;rcases Y with⟨rfl,af⟩|⟨g,si,cq,rfl,jd,B,ad,ae,U,G⟩
   .have yo:=CL (show l.length=0 by omega);subst yo;go_wp2_with (go_at_call 198;refine(zk _ _ (by simp[maxLen])).mono ?_;rintro e w' ⟨⟨t,rfl,T⟩,rfl⟩);go_ret;exact⟨⟨t,rfl,T⟩,b⟩
   .have x:=aqa (b8 l) (X9 l) B G;have aa:=Rc (P:=prog) wr 131 5 sK xH g 0 (3*l.length) si (b8 l) (X9 l) x 106 K4;have J:aZ (strOfNums (b8 l)).data.toList=D l:=by rw[V',aw_];exact awi C
    have N:=A J;have y:(strOfNums (b8 l)).size=3*l.length:=by rw[Re,X9]
    have H:=A y;clear y x B U G I k u o s J;go_wp2_with (go_at_call 198;refine(zk _ _ (by rw[H.out];unfold maxLen;omega)).mono ?_;rintro e w' ⟨⟨t,rfl,T⟩,rfl⟩);go_ret;rw[N.out]at T;exact⟨⟨t,rfl,T⟩,b⟩
def vH(l:List Nat)(k:Nat):Nat:=l.getD k 0
def SS(h:md l)(k:Nat):vH l k<16777216:=by
 unfold vH;rw[qt];rcases xN k l with a|a
 rw[j_ a];exact h _ (fp a);rw[rh a];decide
def I'(h:k<l):vH l k=l[k]:=by unfold vH;rw[qt,j_ h];rfl
def Nl(h:¬k<l):vH l k=0:=by unfold vH;rw[qt,rh z];rfl
def RE(l:List Nat)(k:Nat):D (l.take (k+1))=D (l.take k)+16777216^k*vH l k:=by rcases xN k l with a|a;rw[WA l k a,I' a];rw[vg z,vg a,Nl z];omega
def atP(l:List Nat)(n:Nat)(h:D l<16777216^n):D (l.take n)=D l:=by
 rcases xN n l with a|a
 .have e:=af4 (l.take n) (l.drop n);rw[xL,mw,Wl (AK a)]at e;rcases Ro (D (l.drop n))with af|af
  rw[e,af];omega;have:16777216^n<=16777216^n*D (l.drop n):=atF _ af;omega
 rw[vg a]
variable{x:Nat}
def aE3{a b:List Nat}(c:md a)(g:md l)(e:l.length=a.length)(d:D b<=D a)(h:x<=1)(f:D l+D (b.take a)=D (a.take a)+16777216^a.length*x):D l=D a-D b:=by have H:=af5 c;have I:=af5 g;rw[e]at I;rw[atP b _ (rk d H),vg (aY _)]at f;rcases(show x=0∨x=1 by omega)with rfl|rfl<;>omega
def avR(N:Nat)(m:Nat)(e:Ending)(w':Γ):Prop:=∃v l,e=.returned v/\mU w' v l/\D l=N/\md l/\l.length<=m
def aE2(u v:Φ)(a b:List Nat)(w:Γ)(hu:mU w u a)(J:mU w v b)(F:md a)(bS:md b)(e8:a.length<=8)(ae:b.length<=8)(T:D b<=D a):Calls prog 420 #[u,v] w λe w'=>avR (D a-D b) a.length e w'/\β w w':=by
 obtain⟨dZ,ld,n_,jf,lj⟩:=iz Ug;obtain⟨aU,ca,rfl,Y,TU,m,n⟩:=hu.open;obtain⟨dK,dw,rfl,U,jV,j,q⟩:=J.open;unfold maxLen at Y U;clear hu J;go_enter func420,ntmps420;go_wp2;go_loopw [5,6,7] (λo c i wr=>∃(k x:Nat) (l:List Nat),k<=a.length/\x<=1/\i=.int .i64 k/\c=.int .i64 x/\l.length=k/\md l/\D l+D (b.take k)=D (a.take k)+16777216^k*x/\wr.ownsRow w.heap.size 3 1 o k (pC l)/\β w wr) (λ_ _ i _=>a.length-(RowKit.intOf i).toNat);case atStart=>exact⟨0,0,[],z,z,rfl,rfl,rfl,md.nil,by simp[D],by simpa[pC]using ne w w.heap.size 3 1,bl _ _⟩
 case round=>obtain⟨k,x,l,ad,O,rfl,rfl,df,kH,g,cR,bm⟩:=hrel;by_cases au:k<a.length;{(obtain⟨M,rfl,N⟩:=m z;have ab:wr ⟨M,k,none⟩=some (.int .i64 ((a[k]'au:Nat):Int)):=by rw[bm.cell N];exact n M rfl k au);(have nE:(0:Int)<=(k:Int):=z;have nF:(k:Int)<a.length:=z;have r:=RE a k;have E:=RE b k;have kD:=SS F k;have L:=SS bS k;rw[I' au]at r kD;have B:16777216^(k+1)=16777216^k*16777216:=yR ..;have key:∀d f:Nat,d+vH b k+x=a[k]+16777216*f->D (l++[d])+D (b.take (k+1))=D (a.take (k+1))+16777216^(k+1)*f:=λd f h=>by(rw[Ly,df,r,E,B];have H:16777216^k*(d+vH b k+x)=16777216^k*(a[k]+16777216*f):=by rw[h]);(simp only[EV]at H;have I:16777216^k*(16777216*f)=16777216^k*16777216*f:=by rw[EW]);omega);have r':=A key;have WQ:=A g;clear r E key B g;generalize C:a[k]'au=y at*;by_cases G:k<b.length;{(obtain⟨K,rfl,Z⟩:=j z;have DP:wr ⟨K,k,none⟩=some (.int .i64 ((b[k]'G:Nat):Int)):=by rw[bm.cell Z];exact q K rfl k G);rw[I' G]at r' L;generalize Q:b[k]'G=ai at*;have V:(k:Int)<b.length:=z;clear C Q n q m j;by_cases X:y<ai+x;{have s:(y:Int)-(x:Int)-(ai:Int)<0:=z;obtain⟨d,hd⟩:∃d:Nat,d+ai+x=y+16777216:=⟨y+16777216-ai-x,z⟩;have t:(y:Int)-(x:Int)-(ai:Int)+16777216=(d:Int):=z;exact aoF};{have s:¬((y:Int)-(x:Int)-(ai:Int)<0):=z;obtain⟨d,hd⟩:∃d:Nat,d+ai+x=y:=⟨y-ai-x,z⟩;have t:(y:Int)-(x:Int)-(ai:Int)=d:=z;exact aoE}};{rw[Nl G]at r' L;have V:¬(k:Int)<b.length:=z;clear C n q m j;by_cases X:y<x;{have s:(y:Int)-(x:Int)<0:=z;obtain⟨d,hd⟩:∃d:Nat,d+x=y+16777216:=⟨y+16777216-x,z⟩;have t:(y:Int)-(x:Int)+16777216=(d:Int):=z;exact aoF};{have s:¬((y:Int)-(x:Int)<0):=z;obtain⟨d,hd⟩:∃d:Nat,d+x=y:=⟨y-x,z⟩;have t:(y:Int)-(x:Int)=d:=z;exact aoE}}};{obtain rfl:k=a.length:=z;have S:=A (aE3 F kH df T O g);have R:Hid (mU wr u5 l):=mU.hs (base:=w.heap.size) (by rw[df];exact cR);clear g n q m j cR;go_wp2_with (go_at_call 417;refine(aKX _ l _ R.out kH).mono ?_;rintro e w' ⟨⟨dS,W,rfl,H,I,P,aS⟩,rfl⟩);go_ret;exact⟨⟨dS,W,rfl,H,I.trans S.out,P,z⟩,bm⟩}
def aix:∀(a b:List UInt8),a.length=b.length->Op.bytesLess a b=decide (aZ a<aZ b)
 |[],[],_=>by simp[Op.bytesLess,aZ]
 |x::a,y::b,h=>by(have d:a.length=b.length:=by simpa using h);have g:=aix a b d;have H:=x5 a;have I:=x5 b;rw[<-d]at I;simp only[Op.bytesLess,g];rw[zd,zd,<-d];generalize 256^a.length=p at*;(rcases Rq x.toNat y.toNat with c|c|c);{have ak:x<y:=c;have:(x.toNat+1)*p<=y.toNat*p:=rm _ c;rw[xM]at this;have e:x.toNat*p+aZ a<y.toNat*p+aZ b:=z;simp[ak,e]};{have ak:x=y:=Wo.1 c;subst ak;have f:¬x<x:=λh=>Rp _ h;simp[f]};{have ak:¬x<y:=λh=>Nat.lt_asymm c h;(have f:¬x=y:=λh=>by rw[h]at c;exact Rp _ c);have:(y.toNat+1)*p<=x.toNat*p:=rm _ c;rw[xM]at this;have e:¬x.toNat*p+aZ a<y.toNat*p+aZ b:=z;simp[ak,f,e]}
def ahM:∀(a b:List UInt8),a.length=b.length->aZ a=aZ b->a=b
 |[],[],_,_=>rfl
 |x::a,y::b,h,J=>by(have d:a.length=b.length:=by simpa using h);have H:=x5 a;have I:=x5 b;rw[zd,zd,<-d]at J;rw[<-d]at I;generalize 256^a.length=p at*;(have e:x.toNat=y.toNat:=by(rcases Rq x.toNat y.toNat with c|c|c);{have:(x.toNat+1)*p<=y.toNat*p:=rm _ c;rw[xM]at this;omega};exact c;{have:(y.toNat+1)*p<=x.toNat*p:=rm _ c;rw[xM]at this;omega});rw[e]at J;have:=ahM a b d z;rw[Wo.1 e,this]
variable{s t:Ψ}
def dG.anR(a:dG s m)(aj:dG t n)(h:s.size<t.size):m<n:=by rcases xN m n with H|H;exact H;have:=aj.2 s.size (rk H a.lt);omega
def dG.abQ(a:dG s m)(aj:dG t n)(h:((s.size:Int) !=(t.size:Int))=false):Op.bytesLess s.toList t.toList=decide (m<n):=by
 have b:s.size=t.size:=by simp at h;omega
 rw[AE,AE,aix _ _ (by rw[iV,iV];exact b),a.1,aj.1]
def dG.same(a:dG s m)(aj:dG t n)(h:((s.size:Int) !=(t.size:Int))=false):(!s.toList==t.toList)=decide (m≠n):=by
 have b:s.size=t.size:=by simp at h;omega
 rw[AE,AE];by_cases e:m=n;have:s.data.toList=t.data.toList:=ahM _ _ (by rw[iV,iV];exact b) (by rw[a.1,aj.1,e]);rw[this];simp[e]
 .have:¬s.data.toList=t.data.toList:=λh=>e (by rw[<-a.1,<-aj.1,h]);have I:(s.data.toList==t.data.toList)=false:=by rw[mx];exact this
  rw[I];simp[e]
def zo(m n:Nat):Int:=if m<n then-1 else if n<m then 1 else 0
def Fj(m n:Nat)(e:Ending):Prop:=e=.returned (.int .i64 (zo m n))
def M_(a b:Ψ)(m n:Nat)(w:Γ)(aL:dG a m)(G:dG b n)(g:m<256^16)(i:n<256^16):Calls prog 574 #[a,b] w λe w'=>Fj m n e/\w=w':=by
 have k:=A λw=>Ds a m w aL g;have j:=A λw=>Ds b n w G i;clear aL G;go_enter func574,ntmps574;go_wp2_with (first|(go_at_call 198;((with_reducible refine(k.out _).mono ?_);rintro e w' ⟨⟨s,rfl,c⟩,rfl⟩;have zs:s.size<=16:=c.2 16 g))|(go_at_call 198;((with_reducible refine(j.out _).mono ?_);rintro e w' ⟨⟨t,rfl,aj⟩,rfl⟩;have o:t.size<=16:=aj.2 16 i)));all_goals go_ret
 all_goals refine⟨?_,rfl⟩
 rename_i H _ _ _ I;have:=c.anR aj I;show Ending.returned _=_;unfold zo;rw[ci this];rfl;rename_i H I;have:=aj.anR c (by simp at H;omega);show Ending.returned _=_;unfold zo;rw[bo z,ci this];rfl
 .skip;have H:((s.size:Int) !=(t.size:Int))=false:=by assumption
  have I:Op.bytesLess s.toList t.toList=true:=by assumption
  rw[c.abQ aj H]at I;have:=Rt I;show Ending.returned _=_;unfold zo;rw[ci this];rfl
 .skip;have H:((s.size:Int) !=(t.size:Int))=false:=by assumption
  have I:Op.bytesLess s.toList t.toList=false:=by assumption
  have d:(!s.toList==t.toList)=true:=by assumption
  rw[c.abQ aj H]at I;rw[c.same aj H]at d;have f:=afS I;have l:=Rt d;show Ending.returned _=_;unfold zo;rw[bo f,ci z];rfl
 .skip;have H:((s.size:Int) !=(t.size:Int))=false:=by assumption
  have I:Op.bytesLess s.toList t.toList=false:=by assumption
  have d:(!s.toList==t.toList)=false:=by assumption
  rw[c.abQ aj H]at I;rw[c.same aj H]at d;have f:=afS I;have l:=afS d;show Ending.returned _=_;unfold zo;rw[bo f,bo z];rfl
def auc(n:Nat)(e:Ending):Prop:=∃t:Ψ,e=.returned (.tuple #[.string t,.bool true])/\dG t n
def Vy(a b:Ψ)(m n:Nat)(w:Γ)(aL:dG a m)(G:dG b n)(d:m<256^16)(i:n<=m):χ 575 #[a,b] w λe w'=>auc (m-n) e:=by
 have g:n<256^16:=rk i d;have x:=A λw=>M_ a b m n w aL G d g;have r:=A λw=>Ja a m w aL d;have D:=A λw=>Ja b n w G g;have F:decide (zo m n<0)=false:=by unfold zo;rw[bo z];split<;>decide
 clear aL G;go_enter func575,ntmps575;go_wp2_with (first|(go_at_call 574;((with_reducible refine(x.out _).mono ?_);rintro e w' ⟨rfl,rfl⟩))|(go_at_call 124;((with_reducible refine(r.out _).mono ?_);rintro e H ⟨⟨u,l,rfl,y,j,C,L,M⟩,f⟩))|(go_at_call 124;((with_reducible refine(D.out _).mono ?_);rintro e I ⟨⟨u2,cw,rfl,B,k,f3,N,f5⟩,c⟩))|(go_at_call 420;((with_reducible refine(aE2 _ _ l cw _ (y.K c) B C f3 z z (by rw[j,k];exact i)).mono ?_);rintro e w3 ⟨⟨u3,iS,rfl,o,s,q,K⟩,cF⟩))|(go_at_call 125;((with_reducible refine(acv _ iS _ o q z).mono ?_);rintro e J ⟨⟨t,rfl,aj⟩,E⟩)));go_ret2;rw[s,j,k]at aj;exact⟨⟨t,rfl,aj⟩,((b3 f c).trans (cF.mono (c6 f.size c.size))).trans (E.mono (c6 (c6 f.size c.size) cF.size))⟩
def awI{p a Y Z y ai s:Nat}(c:a+p*x=Y+Z)(b:s=x+y+ai):a+p*(s%16777216)+p*16777216*(s/16777216)=(Y+p*y)+(Z+p*ai):=by
 have H:p*(s%16777216)+p*16777216*(s/16777216)=p*s:=by rw[EW,<-EV];congr 1;omega
 have I:p*s=p*x+p*y+p*ai:=by rw[b,EV,EV]
 omega
def af6(h:l.length<=k):D (l.take k)=D l:=by rw[vg h]
def Sh(a:Ψ)(m:Nat)(p:Bool)(x:Nat):Prop:=∀w,Calls prog 123 #[.string a,.int .i64 7] w λe w'=>e=.returned (.tuple #[.int .i64 x,.bool p])/\w=w'
def awG(a b:Ψ)(m n:Nat)(p q:Bool)(fV eg:Nat)(w:Γ)(aL:dG a m)(G:dG b n)(av:m<256^16)(ax:n<256^16)(c1:Sh a m p fV)(c2:Sh b n q eg)(Gx:(p&&q)=false):Calls prog 54 #[.string a,.string b] w λe w'=>h1 (m+n) e/\β w w':=by
 obtain⟨V,X,Z,W,Y⟩:=iz Ug;unfold Sh at c1 c2;have bp:=A c1;have bP:=A c2;have ia:=A λw=>Ja a m w aL av;have lQ:=A λw=>Ja b n w G ax;clear c1 c2 aL G;go_enter V0,ntmps54;cases p<;>cases q<;>try(cases Gx;done)
 all_goals
  go_wp2_with (first
   |(go_at_call 123;((with_reducible refine(bp.out _).mono ?_);rintro e w' ⟨rfl,rfl⟩))
   |(go_at_call 123;((with_reducible refine(bP.out _).mono ?_);rintro e w' ⟨rfl,rfl⟩))
   |(go_at_call 124;((with_reducible refine(ia.out _).mono ?_);rintro e am ⟨⟨u,K,rfl,eM,ft,be,kR,mC⟩,bx⟩))
   |(go_at_call 124;((with_reducible refine(lQ.out _).mono ?_);rintro e f ⟨⟨u2,g,rfl,h3,hK,bS,wW,f5⟩,b0⟩)))
  have Nd:=eM.K b0;have ex:β w f:=b3 bx b0;obtain⟨aU,ca,rfl,qd,TU,R,S⟩:=Nd.open;obtain⟨dK,dw,rfl,lA,jV,O,P⟩:=h3.open;unfold maxLen at qd lA;have lr:=A ex;clear eM h3 Nd bp bP ia lQ bx b0 ex;go_loopw [11,12,13] (λo c i wr=>∃(k x:Nat) (l:List Nat),k<=7/\x<=1/\(6<k->x=0)/\i=.int .i64 k/\c=.int .i64 x/\l.length=k/\md l/\D l+16777216^k*x=D (K.take k)+D (g.take k)/\wr.ownsRow f.heap.size 3 1 o k (pC l)/\β f wr) (λ_ _ i _=>8-(RowKit.intOf i).toNat);case atStart=>exact⟨0,0,[],z,z,z,rfl,rfl,rfl,md.nil,by simp[D],by simpa[pC]using ne f f.heap.size 3 1,bl _ _⟩
  case round=>
   obtain⟨k,x,l,ad,aa,ag,rfl,rfl,Q,U,eE,J,d⟩:=hrel;have kD:=SS be k;have zu:=SS bS k;have Ns:16777216^(k+1)=16777216^k*16777216:=yR ..;have key:∀s:Nat,s=x+vH K k+vH g k->D (l++[s%16777216])+16777216^(k+1)*(s/16777216)=D (K.take (k+1))+D (g.take (k+1)):=λs h=>by rw[Ly,Q,RE K k,RE g k,Ns];exact awI eE h
   have F:=A key;have WQ:=A eE;have nE:(0:Int)<=(k:Int):=z;clear key Ns eE;by_cases H:k<K.length
   .obtain⟨zz,rfl,Ot⟩:=R z;have ab:wr ⟨zz,k,none⟩=some (.int .i64 ((K[k]'H:Nat):Int)):=by rw[d.cell Ot];exact S zz rfl k H
    have nF:(k:Int)<K.length:=z;rw[I' H]at F kD;generalize aC:K[k]'H=y at*;by_cases I:k<g.length
    .obtain⟨T,rfl,tn⟩:=O z;have DP:wr ⟨T,k,none⟩=some (.int .i64 ((g[k]'I:Nat):Int)):=by rw[d.cell tn];exact P T rfl k I
     have nG:(k:Int)<g.length:=z;rw[I' I]at F zu;generalize az:g[k]'I=ai at*;clear aC az S P R O;obtain⟨r,B⟩:∃r:Nat,Hid (r=(x+y+ai)%16777216):=⟨_,rfl⟩;obtain⟨c,j⟩:∃c:Nat,Hid (c=(x+y+ai)/16777216):=⟨_,rfl⟩;have bH:((x:Int)+(y:Int)+(ai:Int):Int)%16777216=(r:Int):=by have:=B.out;omega
     have g6:((x:Int)+(y:Int)+(ai:Int):Int)/16777216=(c:Int):=by have:=j.out;omega
     have oh:(0:Int)<=(x:Int)+(y:Int)+(ai:Int):=z;have q7:(x:Int)+(y:Int)+(ai:Int)<16777216*3:=z
     go_wp2_with (at_builtin;refine lP _ rfl _ _ 22 rfl f.heap.size 3 V (.int .i64 0) 1 8 pj X Z W Y rfl al _ _ _ rfl (J.alloc _) ⟨wr.heap.size,0,none⟩ 1 1 [_] rfl rfl (xk _ _ _) (by simp[Value.oneCell']) (by unfold maxLen;omega) z (by have:=d.size;simp;omega) ?_;intro dS L C E _;have M:β f L:=((d.alloc d.size _).grown E (by have:=d.size;simp;omega) (wh J));have N:=A C;clear C E);exact⟨⟨k+1,c,l++[r],z,by have:=j.out;omega,by have:=j.out;omega,bz,bz,by simp[Q],U.xu (by have:=B.out;omega),by rw[B.out,j.out];exact F.out _ z,by rw[FK];exact N.out,M⟩,by simp[RowKit.intOf];omega⟩
    .have nG:¬(k:Int)<g.length:=z;rw[Nl I]at F zu;clear aC S P R O;obtain⟨r,B⟩:∃r:Nat,Hid (r=(x+y)%16777216):=⟨_,rfl⟩;obtain⟨c,j⟩:∃c:Nat,Hid (c=(x+y)/16777216):=⟨_,rfl⟩;have bH:((x:Int)+(y:Int):Int)%16777216=(r:Int):=by have:=B.out;omega
     have g6:((x:Int)+(y:Int):Int)/16777216=(c:Int):=by have:=j.out;omega
     have oh:(0:Int)<=(x:Int)+(y:Int):=z;have q7:(x:Int)+(y:Int)<16777216*3:=z
     go_wp2_with (at_builtin;refine lP _ rfl _ _ 22 rfl f.heap.size 3 V (.int .i64 0) 1 8 pj X Z W Y rfl al _ _ _ rfl (J.alloc _) ⟨wr.heap.size,0,none⟩ 1 1 [_] rfl rfl (xk _ _ _) (by simp[Value.oneCell']) (by unfold maxLen;omega) z (by have:=d.size;simp;omega) ?_;intro dS L C E _;have M:β f L:=((d.alloc d.size _).grown E (by have:=d.size;simp;omega) (wh J));have N:=A C;clear C E);exact⟨⟨k+1,c,l++[r],z,by have:=j.out;omega,by have:=j.out;omega,bz,bz,by simp[Q],U.xu (by have:=B.out;omega),by rw[B.out,j.out];exact F.out _ z,by rw[FK];exact N.out,M⟩,by simp[RowKit.intOf];omega⟩
   .have nF:¬(k:Int)<K.length:=z;rw[Nl H]at F kD;by_cases I:k<g.length
    .obtain⟨T,rfl,tn⟩:=O z;have DP:wr ⟨T,k,none⟩=some (.int .i64 ((g[k]'I:Nat):Int)):=by rw[d.cell tn];exact P T rfl k I
     have nG:(k:Int)<g.length:=z;rw[I' I]at F zu;generalize az:g[k]'I=ai at*;clear az S P R O;obtain⟨r,B⟩:∃r:Nat,Hid (r=(x+ai)%16777216):=⟨_,rfl⟩;obtain⟨c,j⟩:∃c:Nat,Hid (c=(x+ai)/16777216):=⟨_,rfl⟩;have bH:((x:Int)+(ai:Int):Int)%16777216=(r:Int):=by have:=B.out;omega
     have g6:((x:Int)+(ai:Int):Int)/16777216=(c:Int):=by have:=j.out;omega
     have oh:(0:Int)<=(x:Int)+(ai:Int):=z;have q7:(x:Int)+(ai:Int)<16777216*3:=z
     go_wp2_with (at_builtin;refine lP _ rfl _ _ 22 rfl f.heap.size 3 V (.int .i64 0) 1 8 pj X Z W Y rfl al _ _ _ rfl (J.alloc _) ⟨wr.heap.size,0,none⟩ 1 1 [_] rfl rfl (xk _ _ _) (by simp[Value.oneCell']) (by unfold maxLen;omega) z (by have:=d.size;simp;omega) ?_;intro dS L C E _;have M:β f L:=((d.alloc d.size _).grown E (by have:=d.size;simp;omega) (wh J));have N:=A C;clear C E);exact⟨⟨k+1,c,l++[r],z,by have:=j.out;omega,by have:=j.out;omega,bz,bz,by simp[Q],U.xu (by have:=B.out;omega),by rw[B.out,j.out];exact F.out _ z,by rw[FK];exact N.out,M⟩,by simp[RowKit.intOf];omega⟩
    .have nG:¬(k:Int)<g.length:=z;rw[Nl I]at F zu;by_cases af:x=0
     .have cN:Hid (D l=m+n):=by have:=WQ.out;rw[af6 z,af6 z,ft,hK,af]at this;show D l=m+n;omega
      have b':Hid (mU wr u11 l):=mU.hs (base:=f.heap.size) (by rw[Q];exact J);subst af;clear S P R O J F WQ
      go_wp2_with (go_at_call 125;refine(acv _ l _ b'.out U z).mono ?_;rintro e bh ⟨⟨t,rfl,aj⟩,nX⟩);go_ret;rw[cN.out]at aj;exact⟨⟨t,rfl,aj⟩,(b3 lr.out d).trans (nX.mono (c6 lr.out.size d.size))⟩
     .obtain rfl:x=1:=z;clear S P R O
      go_wp2_with (at_builtin;refine lP _ rfl _ _ 22 rfl f.heap.size 3 V (.int .i64 0) 1 8 pj X Z W Y rfl al _ _ _ rfl (J.alloc _) ⟨wr.heap.size,0,none⟩ 1 1 [_] rfl rfl (xk _ _ _) (by simp[Value.oneCell']) (by unfold maxLen;omega) z (by have:=d.size;simp;omega) ?_;intro dS L C E _;have M:β f L:=((d.alloc d.size _).grown E (by have:=d.size;simp;omega) (wh J));have N:=A C;clear C E);exact⟨⟨k+1,0,l++[1],z,z,z,bz,bz,by simp[Q],U.xu z,F.out 1 z,by rw[FK];exact N.out,M⟩,by simp[RowKit.intOf];omega⟩
def ar2(a:Ψ)(m:Nat)(aL:dG a m)(b:m<256^16):∃p x,Sh a m p x/\(p=true↔m<256^7):=by by_cases h:m<256^7;exact⟨true,m,λw=>wm a m 7 w aL z h,by simp[h]⟩;exact⟨false,0,λw=>ar3 a m 7 w aL z z b,by simp[h]⟩
def Fu(a b:Ψ)(m n:Nat)(w:Γ)(aL:dG a m)(G:dG b n)(f:m<18446744073709551616)(g:n<18446744073709551616):χ 54 #[a,b] w λe w'=>h1 (m+n) e:=by
 have c:m<256^16:=pN f al;have d:n<256^16:=pN g al;by_cases h:m<72057594037927936/\n<72057594037927936;exact awH a b m n w aL G h.1 h.2
 .obtain⟨p,x,c1,H⟩:=ar2 a m aL c;let⟨q,y,c2,I⟩:=ar2 b n G d;refine awG a b m n p q x y w aL G c d c1 c2 ?_;rw[Et]at H I;cases p with
  |false=>rfl
  |true=>
   cases q with
   |false=>rfl
   |true=>exact absurd ⟨H.1 rfl,I.1 rfl⟩ h
def qy(w:Γ)(B n:Nat)(f:Nat->Nat):Prop:=B<w.heap.size/\∃cs:Ω,w.heap[B]? =some (.cells cs 3 (0,0))/\cs.size=n/\∀i,i<n->cs[i]? =some (.int .i64 (f i:Int))
variable{B i:Nat}{f:Nat->Nat}
def qy.cell(h:qy w B n f)(hi:i<n):w ⟨B,i,none⟩=some (.int .i64 (f i:Int)):=by let⟨_,cs,H,_,a⟩:=h;exact kQ H (a i hi)
def qy.free(h:qy w B n f)(i:Nat):w.frozen? ⟨B,i,none⟩=false:=by let⟨_,cs,H,_⟩:=h;simp[World.frozen?,H]
def db(f:Nat->Nat)(j x:Nat):Nat->Nat:=λi=>if i=j then x else f i
variable{j:Nat}
def asM{M:Nat}(h:∀i,f i<M)(a:x<M):∀i,db f j x i<M:=λi=>by
 unfold db
 split
 .exact a
 .exact h i
def qy.set(h:qy w B n f)(b:j<n):qy (w.setCell ⟨B,j,none⟩ (.int .i64 (x:Int))) B n (db f j x):=by let⟨af,cs,H,I,a⟩:=h;refine⟨by simpa using af,cs.setIfInBounds j (.int .i64 (x:Int)),h' H _,by simpa using I,λi hi=>?_⟩;unfold db;by_cases e:i=j;subst e;simp[I,hi];rw[bo e,AC (it e)];exact a i hi
def qy.drew(h:qy w B n f):qy w.drew B n f:=h
def qy.zero(w:Γ)(n:Nat):qy (w.alloc (.cells (Array.replicate n (.int .i64 0)) 3)) w n (λ_=>0):=
 ⟨aq,_,c7 w _,aq,λi hi=>by simp[hi]⟩
def qy.vH{c:Nat}(h:qy w B n f)(d:n<=100):mU w (.slice (some ⟨B,0,none⟩) n n) ((List.range n).map f):=by let⟨af,cs,H,I,b⟩:=h;have a:((List.range n).map f).length=n:=aq;refine⟨by simp[pC],.inr ⟨B,n,cs,by rw[a],dh _,H,by rw[a];exact aY _,c6 d al,z,?_⟩⟩;rw[a,tX];apply Lb;intro i;rw[pk];by_cases hi:i<n;rw[ci hi];simp[pC,hi,b i hi];rw[bo hi];simp[pC,hi]
def S(f:Nat->Nat):Nat->Nat
 |0=>0
 |k+1=>S f k+16777216^k*f k
def ahJ(f:Nat->Nat):∀n,D ((List.range n).map f)=S f n
 |0=>rfl
 |n+1=>by rw[Li,yO,afC,Ly,ahJ f n];simp[S]
def XD(f:Nat->Nat)(j x:Nat):∀k,k<=j->S (db f j x) k=S f k
 |0,_=>rfl
 |k+1,h=>by show S (db f j x) k+16777216^k*db f j x k=S f k+16777216^k*f k;rw[XD f j x k z];unfold db;rw[bo z]
def aFl{bQ u ai s:Nat}(c:S f (i+1)=bQ*ai)(a:s=f i+u*ai):S (db (db f i (s%16777216)) (i+1) (s/16777216)) (i+2)=(bQ+16777216^i*u)*ai:=by
 show S (db (db f i (s%16777216)) (i+1) (s/16777216)) (i+1)+16777216^(i+1)*db (db f i (s%16777216)) (i+1) (s/16777216) (i+1)=_;rw[XD _ _ _ _ (aY _)];show S (db f i (s%16777216)) i+16777216^i*db f i (s%16777216) i+_=_;rw[XD _ _ _ _ (aY _)];have ak:db f i (s%16777216) i=s%16777216:=by simp[db]
 have b:db (db f i (s%16777216)) (i+1) (s/16777216) (i+1)=s/16777216:=by simp[db]
 rw[ak,b,yR];have H:16777216^i*(s%16777216)+16777216^i*16777216*(s/16777216)=16777216^i*s:=by rw[EW,<-EV];congr 1;omega
 have I:S f i+16777216^i*f i=bQ*ai:=c;have e:16777216^i*s=16777216^i*f i+16777216^i*(u*ai):=by rw[a,EV]
 have d:16777216^i*u*ai=16777216^i*(u*ai):=EW ..;rw[xM,<-I];omega
def below_drewN{B:Nat}{w w':Γ}(h:Below B w w'):∀n,Below B w (w'.drewN n)
 |0=>h
 |n+1=>(below_drewN h n).drew
def aE4(w:Γ):(Instr.makeSlice 22 (.int .i64 1) (.int .i64 1)).run prog w=.ok (.slice (some ⟨w,0,none⟩) 1 1) (w.alloc (.cells (Array.replicate 1 (.int .i64 0)) 3)):=aw
def aE5(w:Γ):(Instr.makeSlice 22 (.int .i64 2) (.int .i64 2)).run prog w=.ok (.slice (some ⟨w,0,none⟩) 2 2) (w.alloc (.cells (Array.replicate 2 (.int .i64 0)) 3)):=aw
def aE8(w:Γ):(Instr.makeSlice 22 (.int .i64 3) (.int .i64 3)).run prog w=.ok (.slice (some ⟨w,0,none⟩) 3 3) (w.alloc (.cells (Array.replicate 3 (.int .i64 0)) 3)):=aw
def aE9(w:Γ):(Instr.makeSlice 22 (.int .i64 4) (.int .i64 4)).run prog w=.ok (.slice (some ⟨w,0,none⟩) 4 4) (w.alloc (.cells (Array.replicate 4 (.int .i64 0)) 3)):=aw
def aE_(w:Γ):(Instr.makeSlice 22 (.int .i64 5) (.int .i64 5)).run prog w=.ok (.slice (some ⟨w,0,none⟩) 5 5) (w.alloc (.cells (Array.replicate 5 (.int .i64 0)) 3)):=aw
def aE'(w:Γ):(Instr.makeSlice 22 (.int .i64 6) (.int .i64 6)).run prog w=.ok (.slice (some ⟨w,0,none⟩) 6 6) (w.alloc (.cells (Array.replicate 6 (.int .i64 0)) 3)):=aw
def aFa(w:Γ):(Instr.makeSlice 22 (.int .i64 7) (.int .i64 7)).run prog w=.ok (.slice (some ⟨w,0,none⟩) 7 7) (w.alloc (.cells (Array.replicate 7 (.int .i64 0)) 3)):=aw
def aFg:∀(a:Nat) (_:a<=6) (w:Γ),(Instr.makeSlice 22 (.int .i64 ((a:Int)+1)) (.int .i64 ((a:Int)+1))).run prog w=.ok (.slice (some ⟨w,0,none⟩) (a+1) (a+1)) (w.alloc (.cells (Array.replicate (a+1) (.int .i64 0)) 3))
 |0,_,w=>by exact aE4 w
 |1,_,w=>by exact aE5 w
 |2,_,w=>by exact aE8 w
 |3,_,w=>by exact aE9 w
 |4,_,w=>by exact aE_ w
 |5,_,w=>by exact aE' w
 |6,_,w=>by exact aFa w
 |n+7,h,_=>absurd h z
def aGB{l:List Nat}{n:Nat}(a:D l=n)(H:0<n)(b:l.length<=1):l=[n]:=by
 match l,a,b with
 |[],a,_=>simp[D]at a;omega
 |[d],a,_=>simp[D]at a;rw[a]
def aFj(a b:Ψ)(m n:Nat)(w:Γ)(aL:dG a m)(G:dG b n)(vS:16777216<=m)(av:m<18446744073709551616)(pG:0<n)(O:n<16777216):Calls prog 199 #[.string a,.string b] w λe w'=>h1 (m*n) e/\β w w':=by
 have Y:m<256^16:=pN av al;have OH:n<256^16:=pN O al;have bp:Hid (∀w,Calls prog 123 #[.string a,.int .i64 3] w λe w'=>e=.returned (.tuple #[.int .i64 0,.bool false])/\w=w'):=λw=>ar3 a m 3 w aL z (c6 al vS) Y;have bP:Hid (∀w,Calls prog 123 #[.string b,.int .i64 4] w λe w'=>e=.returned (.tuple #[.int .i64 n,.bool true])/\w=w'):=λw=>wm b n 4 w G z (i4 O al);have ia:=A λw=>Ja a m w aL Y;have lQ:=A λw=>Ja b n w G OH;clear aL G;go_enter VW,ntmps199
 go_wp2_with (first
  |(go_at_call 123;((with_reducible refine(bp.out _).mono ?_);rintro e w' ⟨rfl,rfl⟩))
  |(go_at_call 123;((with_reducible refine(bP.out _).mono ?_);rintro e w' ⟨rfl,rfl⟩))
  |(go_at_call 124;((with_reducible refine(ia.out _).mono ?_);rintro e am ⟨⟨u,g,rfl,eM,ft,be,kR,mC⟩,bx⟩))
  |(go_at_call 124;((with_reducible refine(lQ.out _).mono ?_);rintro e x ⟨⟨u2,bG,rfl,h3,hK,bS,wW,f5⟩,P⟩;have Z:=eM.K P;have jV:=aGB hK pG (f5 1 (i4 O al));have qf:=aFg g.length kR;obtain⟨aU,ca,rfl,qd,TU,V,W⟩:=Z.open;obtain⟨dK,dw,rfl,lA,TV,lf,tj⟩:=h3.open)))
 subst jV;have X:=lf aq;obtain⟨T,rfl,X⟩:=X;have ab:=tj T rfl 0 aq;have DP:x ⟨T,0,none⟩=some (.int .i64 (n:Int)):=ab;have lr:Hid (β w x):=b3 bx P;have kz:=qy.zero x (g.length+1);have ky:β x (x.alloc (.cells (Array.replicate (g.length+1) (.int .i64 0)) 3)):=(bl _ _).alloc (aY _) _;generalize x.alloc (.cells (Array.replicate (g.length+1) (.int .i64 0)) 3)=w3 at*;obtain⟨B,bg⟩:∃B:Nat,Hid (B=x.heap.size):=⟨_,rfl⟩;clear qf eM h3 Z bp bP ia lQ bx P lf tj ab;unfold maxLen at qd lA;go_loopw [12] (λi wr=>∃(k:Nat) (f:Nat->Nat),k<=g.length/\i=.int .i64 k/\qy wr x.heap.size (g.length+1) f/\(∀j,f j<16777216)/\S f (k+1)=D (g.take k)*n/\β x wr) (λi _=>g.length-(RowKit.intOf i).toNat);case atStart=>exact⟨0,λ_=>0,z,rfl,kz,λj=>(al:(0:Nat)<16777216),by simp[S,D],ky⟩
 case round=>obtain⟨E,rfl⟩:∃E:Γ,E=wr:=⟨_,rfl⟩;obtain⟨k,f,ai,rfl,C,R,J,F⟩:=hrel;by_cases au:k<g.length;{(obtain⟨zz,rfl,Ot⟩:=V z;have aa:E ⟨zz,k,none⟩=some (.int .i64 ((g[k]'au:Nat):Int)):=by rw[F.cell Ot];exact W zz rfl k au);(have ah:E ⟨T,0,none⟩=some (.int .i64 (n:Int)):=by rw[F.cell X];exact DP);(have yj:=C.cell (i:=k) z;have mp:=C.free k;have kD:=be _ (fp (l:=g) (n:=k) au);have ag:=R k;have L:=WA g k au;obtain⟨y,aC⟩:∃y,Hid (y=g[k]'au):=⟨_,rfl⟩;rw[<-aC.out]at aa kD L;obtain⟨o,bF⟩:∃o,Hid (o=f k):=⟨_,rfl⟩;rw[<-bF.out]at yj ag;obtain⟨q,M⟩:∃q,Hid (q=y*n):=⟨_,rfl⟩;have ak:q<=281474943156225:=by have H:y*n<=16777215*16777215:=yQ z z;rw[M.out];omega);(have an:(y:Int)*(n:Int)=q:=by rw[M.out,EN]);(obtain⟨s,K⟩:∃s,Hid (s=o+q):=⟨_,rfl⟩;have j3:s<281474976710656:=by have:=K.out;omega);(have ao:(o:Int)+(q:Int)=s:=by have:=K.out;omega);(obtain⟨r,N⟩:∃r:Nat,Hid (r=s%16777216):=⟨_,rfl⟩;obtain⟨c,U⟩:∃c:Nat,Hid (c=s/16777216):=⟨_,rfl⟩;have bH:(s:Int)%16777216=(r:Int):=by have:=N.out;omega);(have g6:(s:Int)/16777216=(c:Int):=by have:=U.out;omega);(have gz:Hid (S (db (db f k r) (k+1) c) (k+2)=D (g.take (k+1))*n):=by rw[N.out,U.out,L];exact aFl J (by rw[K.out,M.out,bF.out]));have nE:(0:Int)<=(k:Int):=z;have nF:(k:Int)<g.length:=z;have q0:(g.length:Int)<=6:=z;have af:=A C;clear L J C V W;(go_wp2;go_loopw [13,14] (λgN j Q=>(gN=.int .i64 0/\j=.int .i64 0/\Q=E)∨(gN=.int .i64 c/\j=.int .i64 1/\qy Q x.heap.size (g.length+1) (db f k r)/\β x Q)) (λ_ j _=>1-(RowKit.intOf j).toNat);case atStart=>exact .inl ⟨rfl,rfl,rfl⟩);case round=>(rcases hrel with⟨rfl,rfl,rfl⟩|⟨rfl,rfl,I,bu⟩);{go_wp2;go_quiet (fail);go_wp2;exact⟨.inr ⟨rfl,rfl,qy.set (w:=World.drewN _ _) af.out z,(below_drewN F _).setCell (aY _) _⟩,by simp[RowKit.intOf]⟩};{have ar:=I.free (k+1);have aw:=I.cell (i:=k+1) z;have q1:((k:Int)+1).toNat=k+1:=z;have qY:(0:Int)<=(k:Int)+1:=z;have qZ:(k:Int)+1<(g.length:Int)+1:=z;have ad:=A I;clear I yj aa ah mp;go_wp2;have uB:∀j,db (db f k r) (k+1) c j<16777216:=asM (asM R (by have:=N.out;omega)) (by have:=U.out;omega);exact⟨⟨k+1,db (db f k r) (k+1) c,z,bz,ad.out.set z,uB,gz.out,bu.setCell (aY _) _⟩,by simp[RowKit.intOf];omega⟩}};{(obtain rfl:k=g.length:=z;have b':Hid (mU E (.slice (some ⟨x.heap.size,0,none⟩) (g.length+1) (g.length+1)) ((List.range (g.length+1)).map f)):=C.vH (c:=0) z;have cN:Hid (D ((List.range (g.length+1)).map f)=m*n):=by rw[ahJ,J,vg (aY _),ft];exact rfl);(have kH:Hid (md ((List.range (g.length+1)).map f)):=λd hd=>by obtain⟨j,_,rfl⟩:=AJ.1 hd;exact R j);have df:((List.range (g.length+1)).map f).length=g.length+1:=aq;clear C J V W;go_wp2_with (go_at_call 125;refine(acv _ _ _ b'.out kH.out z).mono ?_;rintro e bh ⟨⟨t,rfl,aj⟩,nX⟩);go_ret;rw[cN.out]at aj;exact⟨⟨t,rfl,aj⟩,(b3 lr.out F).trans (nX.mono (c6 lr.out.size F.size))⟩}
def UL(a b:Ψ)(m n:Nat)(w:Γ)(aL:dG a m)(G:dG b n)(c:m<18446744073709551616)(f:0<n)(d:n<16777216):χ 199 #[a,b] w λe w'=>h1 (m*n) e:=by by_cases h:m<16777216;exact apx a b m n w aL G h z;exact aFj a b m n w aL G z c f d
end Go.aM
namespace Go.aM
open Go Go.Proofs.Tryz Go.Proofs Go.RowKit Go.Lib
def IH(l:List UInt8)(e:Ending):Prop:=∃t:Ψ,e=.returned (.string t)/\t.data.toList=l
def IN(n q:Nat)(l:List UInt8):Prop:=(0<q->decDigits n=decDigits q++l)/\(q=0->decDigits n=l)
variable{n q:Nat}{l:List UInt8}
def IN.step(h:IN n q l)(b:0<q):IN n (q/10) (UInt8.ofNat (48+q%10)::l):=by have H:=h.1 b;rw[show decDigits q=if h:q<10 then [UInt8.ofNat (48+q)]else decDigits (q/10)++[UInt8.ofNat (48+q%10)]from by rw[decDigits]]at H;by_cases a:q<10;rw[dif_pos a]at H;refine⟨λaf=>z,λ_=>?_⟩;rw[H];have:q%10=q:=z;rw[this];rfl;rw[dif_neg a]at H;refine⟨λ_=>by rw[H];simp,λaf=>z⟩
def UM:∀(k u:Nat),u<=k->nDigits u<=u+1
 |0,u,h=>by obtain rfl:u=0:=z;rw[afi z];omega
 |k+1,u,h=>by by_cases a:u<10;{rw[afi a];omega};{rw[nDigits_big a];have:=UM k (u/10) z;omega}
def IN.len(h:IN n q l):l.length<=n+1:=by
 have H:=afg n;have I:=UM n n (aY _);rcases Ro q with af|af
 rw[h.2 af]at H;omega;rw[h.1 af,ir]at H;omega
def SC(a b:Ψ):(a++b).data.toList=a.data.toList++b.data.toList:=aq
def ap3(w:Γ)(x:Int):(convert 131 9 (.slice (some ⟨w,0,none⟩) 1 1)).run prog (w.alloc (.cells #[.int .u8 x] 5))=.ok (.string (strOfNums [x])) (w.alloc (.cells #[.int .u8 x] 5)):=
 Rc (P:=prog) (w.alloc (.cells #[.int .u8 x] 5)) 131 5 sK xH w 0 1 1 [x] rfl (λi hi=>by
  obtain rfl:i=0:=z
  exact aN 0 (c7 w _)) 9 K6
def EC(a:Ψ)(n:Nat)(w:Γ)(aL:dG a n)(F:n<36028797018963968):χ 308 #[a] w λe w'=>IH (decDigits n) e:=by
 have D:n<256^16:=pN F al;have f:=A λw=>Ds a n w aL D;have G:Hid (∀w,χ 121 #[.int .i64 10] w λe w'=>h1 10 e):=λw=>qn 10 w z;clear aL D;by_cases af:n=0
 .subst af;go_enter func308,ntmps308;go_wp2_with (go_at_call 198;((with_reducible refine(f.out _).mono ?_);rintro e E ⟨⟨t,rfl,aj⟩,rfl⟩;have c:=aj.zero.2 rfl;have B:((t.size:Int)==0)=true:=(by rw[c];rfl)));go_ret;exact⟨⟨_,rfl,by rw[decDigits];rfl⟩,bl _ _⟩
 .go_enter func308,ntmps308;go_wp2_with (go_at_call 198;((with_reducible refine(f.out _).mono ?_);rintro e E ⟨⟨t,rfl,aj⟩,rfl⟩;have c:¬t.size=0:=(λe=>af (aj.zero.1 e));have B:((t.size:Int)==0)=false:=(by rw[mx];omega)));clear f c B;go_loopw [0,3] (λx y wr=>∃(q:Nat) (t s:Ψ),q<=n/\x=.string t/\y=.string s/\dG t q/\IN n q s.data.toList/\β w wr) (λx _ _=>match x with|.string t=>aZ t.data.toList|_=>0);case atStart=>exact⟨n,t,_,aY _,rfl,rfl,aj,⟨λ_=>aq,λh=>absurd h af⟩,bl _ _⟩
  case round=>
   obtain⟨q,t,s,P,rfl,rfl,aj,g,d⟩:=hrel;have k:=A aj.zero;have j:=A aj;have o:=A g;have S:s.size<=n+1:=by have:=g.len;rw[iV]at this;exact this
   clear aj g;by_cases N:0<q
   .have H:0<(t.size:Int):=by(have:¬t.size=0:=λe=>by have:=k.out.1 e;omega);omega
    have i:q%10<10:=yP _ z;obtain⟨r,b⟩:∃r,Hid (r=q%10):=⟨_,rfl⟩;rw[<-b.out]at i
    go_wp2_with (first
     |(go_at_call 121;((with_reducible refine(G.out _).mono ?_);rintro e Q ⟨⟨J,rfl,I⟩,l⟩))
     |(go_at_call 307;((with_reducible refine(Ai t J q 10 _ j.out I z z z).mono ?_);rintro e w3 ⟨⟨m,L,rfl,C,u⟩,cF⟩;rw[<-b.out]at u))
     |(go_at_call 200;((with_reducible refine(Ec L r _ u (i4 i al)).mono ?_);rintro e R ⟨rfl,rfl⟩;have T:=ap3 w3 (48+(r:Int));have M:(strOfNums [48+(r:Int)]).size=1:=(by rw[Re];rfl);have O:(strOfNums [48+(r:Int)]).size+s.size<=9223372036854775807:=(by rw[M];omega))))
    have i5:β w w3:=(b3 d l).trans (cF.mono (c6 d.size l.size));refine⟨⟨q/10,m,_,z,rfl,rfl,C,?_,i5.alloc i5.size _⟩,?_⟩
    .have e:(strOfNums [48+(r:Int)]++s).data.toList=UInt8.ofNat (48+q%10)::s.data.toList:=by rw[SC,V',<-b.out];have:(48+(r:Int)).toNat=48+r:=z;simp[this]
     rw[e];exact o.out.step N
    .show aZ m.data.toList<aZ t.data.toList;rw[C.1,j.out.1];omega
   .obtain rfl:q=0:=z;have z0:t.size=0:=k.out.2 rfl;have H:¬0<(t.size:Int):=z;have K:=A (o.out.2 rfl);go_wp2;go_ret;exact⟨⟨s,rfl,K.out.symm⟩,d⟩
def apC(n:Int)(w:Γ)(af: -9007199254740992<=n)(H:n<=9007199254740992):χ 416 #[n] w λe w'=>h1 n.natAbs e:=by
 by_cases s:0<=n
 .obtain⟨m,rfl⟩:∃m:Nat,n=(m:Int):=⟨n.toNat,z⟩;have b:=A λw=>qn m w z;go_enter func416,ntmps416;go_wp2_with (go_at_call 121;((with_reducible refine(b.out _).mono ?_);rintro e g ⟨⟨t,rfl,aj⟩,a⟩));go_ret;exact⟨⟨t,rfl,aj⟩,a⟩
 .obtain⟨m,d⟩:∃m:Nat,n= -((m:Int)+1):=⟨(-n-1).toNat,z⟩;have ak: -(n+1)=(m:Int):=z;have c:n.natAbs=m+1:=z;have b:=A λw=>qn m w z;have i:Hid (∀w,χ 121 #[.int .i64 1] w λe w'=>h1 1 e):=λw=>qn 1 w z;rw[c];clear c;have q:n<0:=z;have l:=A d;clear d;go_enter func416,ntmps416;go_wp2_with (first|(go_at_call 121;((with_reducible refine(b.out _).mono ?_);rintro e g ⟨⟨t,rfl,aj⟩,a⟩))|(go_at_call 121;((with_reducible refine(i.out _).mono ?_);rintro e r ⟨⟨j,rfl,k⟩,f⟩))|(go_at_call 54;((with_reducible refine(Fu t j m 1 _ aj k (by have:=l.out;omega) z).mono ?_);rintro e w3 ⟨⟨t3,rfl,o⟩,cF⟩)));go_ret;exact⟨⟨t3,rfl,o⟩,(b3 a f).trans (cF.mono (c6 a.size f.size))⟩
def hC(N S:Int):Prop:=0<=S/\S<=6/\ -1000000000000000<=N/\N<=1000000000000000/\(S=0∨N.tmod 10≠0)
def are(N S:Int)(w:Γ)(h:hC N S):χ 303 #[.agg #[N,S]] w λe w'=>e=.returned (.bool true):=by
 let⟨H,I,f,d,a⟩:=h;by_cases b:S=0
 .subst b;go_enter func303,ntmps303;go_wp2;go_ret;exact Po
 .have c:N.tmod 10≠0:=by rcases a with a|a;exact absurd a b;exact a
  have g:(S==0)=false:=by rw[mx];exact b
  have i:(N.tmod 10 !=0)=true:=by simpa using c
  go_enter func303,ntmps303;go_wp2;go_ret;exact Po
def Kp(n:Nat)(w:Γ)(r:n<=6):χ 306 #[n] w λe w'=>h1 (10^n) e:=by
 have d:Hid (∀w,χ 121 #[.int .i64 1] w λe w'=>h1 1 e):=λw=>qn 1 w z;have g:Hid (∀w,χ 121 #[.int .i64 10] w λe w'=>h1 10 e):=λw=>qn 10 w z;go_enter func306,ntmps306;go_wp2_with (go_at_call 121;((with_reducible refine(d.out _).mono ?_);rintro e o ⟨⟨t,rfl,aj⟩,j⟩));clear d;go_loopw [3,4] (λx i wr=>∃(k:Nat) (t:Ψ),k<=n/\i=.int .i64 k/\x=.string t/\dG t (10^k)/\β w wr) (λ_ i _=>n-(RowKit.intOf i).toNat);case atStart=>exact⟨0,t,z,rfl,rfl,aj,j⟩
 case round=>
  obtain⟨k,t,m,rfl,rfl,aj,a⟩:=hrel;have b:=A aj;clear aj;by_cases au:k<n
  .have s:(k:Int)<n:=z;have ag:10^k<=10^6:=k5 z z
   go_wp2_with (first
    |(go_at_call 121;((with_reducible refine(g.out _).mono ?_);rintro e q ⟨⟨l,rfl,I⟩,c⟩))
    |(go_at_call 199;((with_reducible refine(UL t l (10^k) 10 _ b.out I z z z).mono ?_);rintro e w3 ⟨⟨t3,rfl,f⟩,cF⟩)))
   exact⟨⟨k+1,t3,z,bz,rfl,by rw[yR];exact f,(b3 a c).trans (cF.mono (c6 a.size c.size))⟩,by simp[RowKit.intOf];omega⟩
  .obtain rfl:k=n:=z;go_wp2;go_ret;exact⟨⟨t,rfl,b.out⟩,a⟩
structure Fs (w W:Γ) (dn dR:Obj) (bx b0:Nat):Prop where
 p:W.heap[bx]? =some dn
 q:W.heap[b0]? =some dR
 h:Below w.heap.size w W
 H:w.heap.size<=bx
 I:w.heap.size<=b0
 lt:bx<b0/\b0<W.heap.size
def k0(w:Γ)(a b:Obj):Fs w ((w.alloc a).alloc b) a b w (w.heap.size+1):=by have c:=jt w a;have d:=jt (w.alloc a) b;refine⟨?_,?_,((bl _ w).alloc (aY _) a).alloc z b,z,z,z⟩;rw[uC (w.alloc a) b z];exact c7 w a;rw[<-c];exact c7 (w.alloc a) b
def nU(neg:Bool)(n s:Nat)(e:Ending):Prop:=∃t:Ψ,e=.returned (.agg #[.bool neg,.string t,.int .i64 s])/\dG t n
variable{w W:Γ}{d c:Obj}{b a:Nat}
def Fs.K{W':Γ}(T:Fs w W d c b a)(h:β W W'):Fs w W' d c b a:=
 ⟨(h.block b (by have:=T.lt;omega)).trans T.p,(h.block a (by have:=T.lt;omega)).trans T.q,b3 T.h h,T.H,T.I,T.lt.1,cT h T.lt.2⟩
def Fs.drew(T:Fs w W d c b a):Fs w W.drew d c b a:=T.K ((bl _ _).drew)
def cM{i:Nat}{cs:Ω}{t:TypeId}(h:w.heap[b]? =some (.cells cs t (0,0))):w.frozen? ⟨b,i,none⟩=false:=by simp[World.frozen?,h]
def x7(N:Int)(S:Nat)(w:Γ)(h:hC N S):χ 305 #[.agg #[N,S]] w λe w'=>nU (decide (N<0)) N.natAbs S e:=by have k:=A λw=>are N S w h;have j:=A λw=>apC N w (by have:=h.2.2.1;omega) (by have:=h.2.2.2.1;omega);have T:=k0 w (.cells #[N,S] 41 (0,0)) (.cells #[.bool false,.string ⟨#[]⟩,.int .i64 0] 338 (0,0));clear h;go_enter func305,ntmps305;go_wp2_with (go_at_call 303;(with_reducible refine(k.out _).mono ?_);rintro e s ⟨rfl,c⟩);have g:=T.K c;have B:=A g.h;clear T c;obtain⟨a,f⟩:∃a,a=w.heap.size+1:=⟨_,rfl⟩;obtain⟨b,c⟩:∃b,b=w.heap.size:=⟨_,rfl⟩;have q:w.heap.size<=b:=z;have i:w.heap.size<=a:=z;have r:=A i;rw[<-f,<-c]at g;rw[<-f,<-c];have n:=A g.drew;let⟨bi,c1⟩:=j' g.p;clear f c g;go_region_held3 (λW=>W ⟨b,0,none⟩=N/\W ⟨b,1,none⟩=S) (first|exact⟨bi,c1⟩|exact⟨o,bN⟩|go_keep) (first|(go_at_call 416;(with_reducible refine(j.out _).mono ?_);rintro e u ⟨⟨t,rfl,aj⟩,f⟩;have d:=A (n.out.K f);let⟨o,bN⟩:=j' d.out.p;let⟨gg,l,m⟩:=x_ d.out.q;let⟨z0,y,C⟩:=Jm d.out.q;have x:b≠a:=(by have:=d.out.lt;omega);have D:a≠b:=(by have:=d.out.lt;omega)));go_wp2;refine gd (v:=.agg #[.bool (decide (N<0)),t,S]) (by simp[results,results305,go_sem,gg,l,m]) rfl ?_;exact⟨⟨t,rfl,aj⟩,((d.out.h.setCell (p:=⟨a,0,none⟩) i _).setCell (p:=⟨a,1,none⟩) i _).setCell (p:=⟨a,2,none⟩) i _⟩
def Az(neg:Bool)(a:Ψ)(n s m:Nat)(w:Γ)(aL:dG a n)(I:n<=1000000000000000)(E:s<=m)(H:m<=3):χ 573 #[.agg #[.bool neg,a,s],m] w λe w'=>nU neg (n*10^(m-s)) m e:=by
 obtain⟨d,hd⟩:∃d,d=m-s:=⟨_,rfl⟩;have l:(m:Int)-(s:Int)=d:=z;rw[<-hd];have ag:10^d<=10^3:=k5 z z;have u:Hid (∀w,χ 306 #[.int .i64 (IntKind.i64.wrap ((m:Int)-(s:Int)))] w λe w'=>h1 (10^d) e):=λw=>by rw[l,pU _ ⟨z,z⟩];exact Kp d w z
 have q:Hid (∀t w,dG t (10^d)->χ 199 #[a,t] w λe w'=>h1 (n*10^d) e):=λt w aj=>UL a t n (10^d) w aL aj z (H_ z) z;have T:=k0 w (.cells #[.bool neg,a,s] 338 (0,0)) (.cells #[.bool false,.string ⟨#[]⟩,.int .i64 0] 338 (0,0));have O:(0:Int)<=(m:Int)-(s:Int):=z;have P:(m:Int)-(s:Int)<=3:=z;clear hd l ag aL;go_enter func573,ntmps573;go_wp2;generalize (w.alloc (.cells #[.bool neg,a,s] 338 (0,0))).alloc (.cells #[.bool false,.string ⟨#[]⟩,.int .i64 0] 338 (0,0))=F at*;obtain⟨b,g⟩:∃b,b=w.heap.size+1:=⟨_,rfl⟩;obtain⟨c,i⟩:∃c,c=w.heap.size:=⟨_,rfl⟩;have j:w.heap.size<=b:=z;rw[<-g,<-i]at T;rw[<-g,<-i];have B:=A T.drew;let⟨bi,c1,c2⟩:=x_ T.p;clear g i T;go_region_held3 (λW=>W ⟨c,0,none⟩=some (.bool neg)/\W ⟨c,1,none⟩=a/\W ⟨c,2,none⟩=s) (first|exact⟨bi,c1,c2⟩|exact⟨D,b7,cw⟩|exact⟨C,bN,dx⟩|go_keep) (first|(have _:=k;go_at_call 199;(with_reducible refine(q.out _ _ k).mono ?_);rintro e w3 ⟨⟨t,rfl,aj⟩,r⟩;have f:=A (o.out.K r);let⟨D,b7,cw⟩:=x_ f.out.p;let⟨gg,x,y⟩:=x_ f.out.q;let⟨z0,K,M⟩:=Jm f.out.q;have J:c≠b:=(by have:=f.out.lt;omega);have N:b≠c:=(by have:=f.out.lt;omega))|(go_at_call 306;(with_reducible refine(u.out _).mono ?_);rintro e G ⟨⟨L,rfl,k⟩,g⟩;have o:=A (B.out.K g);let⟨C,bN,dx⟩:=x_ o.out.p));go_wp2;refine gd (v:=.agg #[.bool neg,t,m]) (by simp[results,results573,go_sem,gg,x,y]) rfl ?_;exact⟨⟨t,rfl,aj⟩,((f.out.h.setCell (p:=⟨b,0,none⟩) j _).setCell (p:=⟨b,1,none⟩) j _).setCell (p:=⟨b,2,none⟩) j _⟩
end Go.aM
namespace Go.bE
open Go Go.Proofs.Tryz Go.Proofs Go.RowKit Go.Lib Go.aM
attribute [local irreducible] wpStill in
def aKc(w:Γ)(a b:Θ)(c d:Nat)(l m:List Ψ)(h:g0 aD w a l)(g:g0 aD w b m): χ 146 #[.slice a l c,.slice b m d] w λe w'=>p7 (λr=>r=true↔l=m) e:=by
 by_cases f:l.length=m.length
 .have dA:((l.length:Int) !=(m.length:Int))=false:=by simp[f]
  have ig:=A (λW (i:β w W)=>(h.K i).2);have k9:=A (λW (i:β w W)=>(g.K i).2);have dT:=A f;have n:=h.1;clear h g f;go_enter func146,ntmps146;go_wp2;go_loopw [5] (λv wr=>∃k:Nat,k<=l.length/\v=.int .i64 k/\(∀(j:Nat) (H:j<l) (I:j<m),j<k->l[j]=m[j])/\β w wr) (λv _=>l.length-(RowKit.intOf v).toNat);case atStart=>exact⟨0,dh _,rfl,λ_ _ _ h=>absurd h (wu _),bl _ _⟩
  case round=>exact ao_
 .have dA:((l.length:Int) !=(m.length:Int))=true:=bw;have g8:Hid (l≠m):=A λe=>f (by rw[e]);clear h g;go_enter func146,ntmps146;exact Kd
def LB(P c':Γ->Ω->bs->Prop):Prop:=∀(w:Γ) (F a:Ω) (v u:bs),P w F v->c' w a u->
 Calls prog 66 #[.agg F,.agg a] w λe w'=>p7 (λr=>r=true↔v=u) e/\Below w.heap.size w w'
def arK{P c':Γ->Ω->bs->Prop}(M:qF aD P)(N:qF aD c')(s:LB P c')(w:Γ)(a b:Θ)(c d:Nat)(l m:List bs)(h:cm aD P w a l)(i:cm aD c' w b m): χ 32 #[.slice a l c,.slice b m d] w λe w'=>p7 (λr=>r=true↔l=m) e:=by
 by_cases g:l.length=m.length
 .have dA:((l.length:Int) !=(m.length:Int))=false:=by simp[g]
  have K:=A (λW (n:β w W)=>(cm.K M h n).2);have L:=A (λW (n:β w W)=>(cm.K N i n).2);have D:=A s;have dT:=A g;have e8:=h.1;clear h i g s;go_enter func32,ntmps32;go_wp2;go_loopw [5] (λv wr=>∃k:Nat,k<=l.length/\v=.int .i64 k/\(∀(j:Nat) (H:j<l) (I:j<m),j<k->l[j]=m[j])/\β w wr) (λv _=>l.length-(RowKit.intOf v).toNat);case atStart=>exact⟨0,dh _,rfl,λ_ _ _ h=>absurd h (wu _),bl _ _⟩
  case round=>
   obtain⟨k,S,rfl,u,G⟩:=hrel;have HEq:=A u;clear u;by_cases au:k<l
   .have bg:=G.drew;obtain⟨C,eL,rfl,_,F,q⟩:=K.out _ bg z;obtain⟨B,lX,rfl,_,J,t⟩:=L.out _ bg (by have:=dT.out;omega);let⟨bN,U,V,cL,X,fq,mB,fs,e5,mO,e6,ag,f⟩:=q k au;let⟨dx,g6,dd,eb,eW,nt,O,n0,ln,Q,lo,o,aj⟩:=t k (by have:=dT.out;omega);have gQ:(0:Int)<=(k:Int):=z;have gb:(k:Int)<l.length:=z;have jg:(k:Int)<m.length:=by have:=dT.out;omega
    have wb:C<wr.heap.size:=F;have R:B<wr.heap.size:=J;have gz:Hid (l[k]=m[k]'(by have:=dT.out;omega)->∀(j:Nat) (H:j<l) (I:j<m),j<k+1->l[j]=m[j]):=A λaP j H I x=>(by
     rcases Ll.1 x with h|h
     .exact HEq.out j H I h
     .subst h;exact aP)
    have g8:Hid (l[k]≠m[k]'(by have:=dT.out;omega)->l≠m):=A λy e=>y (by subst e;rfl);have E:=A (D.out _ _ _ _ _ ag o);have eQ:=f.bi;have dB:=f.c1;have dF:=f.c2;have gB:=f.c3;have hI:=f.c4;have h8:=f.c5;have iI:=f.fe;have fi:=aj.bi;have Y:=aj.c1;have cv:=aj.c2;have ek:=aj.c3;have il:=aj.c4;have lm:=aj.c5;have kJ:=aj.fe;clear q t f aj ag o;go_wp2;go_still_tail 8,aw;change wpList _ _ _ _ _ wr.drew;generalize wr.drew=T at*;go_wp2_with (go_at_call 66;refine E.out.mono ?_;rintro e Z ⟨⟨im,rfl,lh⟩,bq⟩);all_goals exact aoa
   exact Uz
 .have dA:((l.length:Int) !=(m.length:Int))=true:=bw;have g8:Hid (l≠m):=A λe=>g (by rw[e]);clear h i;go_enter func32,ntmps32;exact Kd
def Vm{P c':Γ->Ω->bs->Prop}(t:qF aD P)(x:qF aD c')(q:LB P c')(w:Γ)(a b:Θ)(c d:Nat)(l m:List (List bs))(h:fz aD P w a l)(f:fz aD c' w b m): χ 12 #[.slice a l c,.slice b m d] w λe w'=>p7 (λr=>r=true↔l=m) e:=by
 by_cases g:l.length=m.length
 .have dA:((l.length:Int) !=(m.length:Int))=false:=by simp[g]
  have N:=A (λW (i:β w W)=>(fz.K t h i).2);have O:=A (λW (i:β w W)=>(fz.K x f i).2);have J:=A (λW a b c d l m h f=>arK t x q W a b c d l m h f);have dT:=A g;have Y:=h.1;clear h f g q;go_enter func12,ntmps12;go_wp2;go_loopw [5] (λv wr=>∃k:Nat,k<=l.length/\v=.int .i64 k/\(∀(j:Nat) (H:j<l) (I:j<m),j<k->l[j]=m[j])/\β w wr) (λv _=>l.length-(RowKit.intOf v).toNat);case atStart=>exact⟨0,dh _,rfl,λ_ _ _ h=>absurd h (wu _),bl _ _⟩
  case round=>
   obtain⟨k,T,rfl,u,G⟩:=hrel;have HEq:=A u;clear u;by_cases au:k<l
   .have bg:=G.drew;obtain⟨D,Z,rfl,_,L,o⟩:=N.out _ bg z;obtain⟨C,lX,rfl,_,M,s⟩:=O.out _ bg (by have:=dT.out;omega);let⟨E,F,ag,n⟩:=o k au;let⟨Q,R,U,aj⟩:=s k (by have:=dT.out;omega);have gQ:(0:Int)<=(k:Int):=z;have gb:(k:Int)<l.length:=z;have jg:(k:Int)<m.length:=by have:=dT.out;omega
    have wb:D<wr.heap.size:=L;have S:C<wr.heap.size:=M;have gz:Hid (l[k]=m[k]'(by have:=dT.out;omega)->∀(j:Nat) (H:j<l) (I:j<m),j<k+1->l[j]=m[j]):=A λaP j H I y=>(by
     rcases Ll.1 y with h|h
     .exact HEq.out j H I h
     .subst h;exact aP)
    have g8:Hid (l[k]≠m[k]'(by have:=dT.out;omega)->l≠m):=A λB e=>B (by subst e;rfl);have K:=A (J.out _ E Q F R _ _ n aj);clear o s n aj;go_wp2;go_still_tail 8,aw;change wpList _ _ _ _ _ wr.drew;generalize wr.drew=V at*;go_wp2_with (go_at_call 32;refine K.out.mono ?_;rintro e X ⟨⟨im,rfl,lh⟩,bq⟩);all_goals exact aoa
   exact Uz
 .have dA:((l.length:Int) !=(m.length:Int))=true:=bw;have g8:Hid (l≠m):=A λe=>g (by rw[e]);clear h f;go_enter func12,ntmps12;exact Kd
def Zc(w:Γ)(k N S n f l m n':Int)(s o:Ψ)(ca ra g q:Θ)(cc rc x u:Nat)(cs c:List Ψ)(aG d:List (List bs))(h:g0 aD w ca cs)(C:g0 aD w g c) (a:∀W,β w W->χ 12 #[.slice ra aG rc,.slice q d u] W λe w'=>p7 (λr=>r=true↔aG=d) e): χ 66 #[.agg (bC k s N S n ca cs cc ra aG rc),.agg (bC f o l m n' g c x q d u)] w λe w'=>p7 (λr=>r=true↔bs.mk k s N S n cs aG=bs.mk f o l m n' c d) e:=by
 have jn:β w ((w.alloc (.cells (bC k s N S n ca cs cc ra aG rc) 44 (0,0))).alloc (.cells (bC f o l m n' g c x q d u) 44 (0,0))):= ((bl _ _).alloc (aY _) _).alloc aq _;by_cases dA:k=f
 .subst dA;by_cases ak:s=o
  .subst ak;have H:=qH s;by_cases aI:N=l
   .subst aI;by_cases bv:S=m
    .subst bv;by_cases cI:n=n'
     .subst cI;have F:=A (aKc _ ca g cc x cs c (h.K jn) (C.K jn));have T:=k0 w (.cells (bC k s N S n ca cs cc ra aG rc) 44 (0,0)) (.cells (bC k s N S n g c x q d u) 44 (0,0));have z:=A a;have I:=A jn;clear a jn h C;go_enter HS,K3
      go_wp2_with (first
       |(go_at_call 146;(with_reducible refine(F.out).mono ?_);rintro e M ⟨⟨K,rfl,E⟩,B⟩;have uc:=A E;clear E;have D:=T.K B;have R:=aN 6 D.p;have Q:=aN 6 D.q;have cu:=A (b3 I.out B);cases K)
       |(go_at_call 12;(with_reducible refine(z.out _ cu.out).mono ?_);rintro e G ⟨⟨L,rfl,j⟩,y⟩;have L2:=A j;clear j;have ex:=A (b3 cu.out y);clear cu))
      .exact an5
      .go_wp2_with (first
        |(go_at_call 12;(with_reducible refine(z.out _ cu.out).mono ?_);rintro e G ⟨⟨L,rfl,j⟩,y⟩;have L2:=Lib.hid j;clear j;have ex:=Lib.hid (b3 cu.out y);clear cu))
       exact aoT
     .have U:(n==n')=false:=by simpa using cI
      clear a;go_enter HS,K3;exact aoC
    .have P:(S==m)=false:=by simpa using bv
     clear a;go_enter HS,K3;exact aop
   .have O:(N==l)=false:=by simpa using aI
    clear a;go_enter HS,K3;exact an9
  .have H:=fX ak;clear a;go_enter HS,K3;exact ao'
 .have fi:(k==f)=false:=by simpa using dA
  clear a;go_enter HS,K3;exact aon
end Go.bE
