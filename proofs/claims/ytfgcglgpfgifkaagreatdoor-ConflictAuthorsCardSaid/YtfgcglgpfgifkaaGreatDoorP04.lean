/- ConflictAuthors. -/
import Derived.Test.YtfgcglgpfgifkaaGreatDoorP00
set_option linter.all false
set_option maxRecDepth 100000
set_option maxHeartbeats 16000000
namespace Go.aI
def aT(l:List UInt8):Nat:=l.foldl (fun n c=>n*256+c.toNat) 0
theorem NU(l:List UInt8):∀n,l.foldl (fun n c=>n*256+c.toNat) n=n*256^l.length+aT l:=by
 exact aj7
theorem xp(c:UInt8)(l:List UInt8):aT (c::l)=c.toNat*256^l.length+aT l:=by
 show(c::l).foldl _ 0=_;rw[HQ,NU];simp
theorem Ta(l:List UInt8)(c:UInt8):aT (l++[c])=aT l*256+c.toNat:=by
 unfold aT;rw[aa_];rfl
theorem wd:∀(l:List UInt8),aT l<256^l.length
 |[]=>by simp[aT]
 |c::l=>by
  rw[xp,mP,w4]
  have H:=wd l
  have I:=M4 c
  have a:c.toNat*256^l.length<=255*256^l.length:=oU _ z
  omega
theorem I_(l:List UInt8):∀(k:Nat),(∀i,i<k->l[i]? =some 0)->aT (l.drop k)=aT l
 |0,_=>by simp
 |k+1,h=>by
  have ab:=I_ l k fun i hi=>h i z
  have a:=h k z
  obtain⟨aq,a⟩:=j2.1 a
  rw[EY aq,xp,a]at ab
  simpa using ab
theorem ac'{c:UInt8}{l:List UInt8}(L:c≠0){n:Nat}(h:aT (c::l)<256^n):(c::l).length<=n:=by
 exact ajN
def Sg(s t:ByteArray):Prop:=aT t.data.toList=aT s.data.toList/\t.size<=s.size/\∀n,aT s.data.toList<256^n->t.size<=n
theorem YB(s t:ByteArray)(k:Nat)(ak:t.data.toList=s.data.toList.drop k)(a:k<=s.data.toList.length)(ax:∀j,j<k->s.data.toList[j]? =some 0)(aL:∀h:k<s.data.toList.length,s.data.toList[k]≠0):Sg s t:=by
 exact ai8
theorem ang{l:List UInt8}{k:Nat}(a:∀j,j<k->l[j]? =some 0)(h:l[k]? =some 0):∀j,j<k+1->l[j]? =some 0:=fun j b=>by
 by_cases e:j=k
 ·subst e;exact h
 ·exact a j z
def jI(n j:Nat):List Int:=(List.range j).map fun i=>(((n/2^(56-8*i))%256:Nat):Int)
theorem XY(k:Nat):(UInt8.ofNat (k%256)).toNat=k%256:=by
 rw[Rz];omega
theorem S'(n:Nat)(h:n<9223372036854775808):aT ((jI n 8).map fun x=>UInt8.ofNat x.toNat)=n:=by
 exact aj2
def dm(s:ByteArray)(n:Nat):Prop:=aT s.data.toList=n/\∀k,n<256^k->s.size<=k
theorem Sg.ah9{s t:ByteArray}(h:Sg s t):dm t (aT s.data.toList):=⟨h.1,h.2.2⟩
theorem dm.zero{s:ByteArray}{n:Nat}(h:dm s n):(s.size=0)↔n=0:=by
 constructor
 ·intro e;have:s.data.toList=[]:=yK (by rw[ji];exact e);rw[←h.1,this];rfl
 ·intro e;have:=h.2 0 (by rw[e];decide);omega
theorem dm.lt{s:ByteArray}{n:Nat}(h:dm s n):n<256^s.size:=by
 have:=wd s.data.toList;rw[h.1,ji]at this;exact this
theorem dm.kI{s:ByteArray}{n k:Nat}(h:dm s n)(a:256^k<=n):k<s.size:=by
 have H:=h.lt;have:256^k<256^s.size:=p2 a H;exact(Nat.pow_lt_pow_iff_right z).1 this
theorem ac9(a b:List UInt8):aT (a++b)=aT a*256^b.length+aT b:=by
 show(a++b).foldl _ 0=_;rw[aa_,NU];rfl
def D:List Nat->Nat
 |[]=>0
 |d::l=>d+16777216*D l
theorem abz(a b:List Nat):D (a++b)=D a+16777216^a.length*D b:=by
 induction a with
 |nil=>simp[D]
 |cons d a c=>show d+16777216*D (a++b)=d+16777216*D a+16777216^(a.length+1)*D b;rw[c,Cw,w4,E3 (16777216^a.length) 16777216,Cx];omega
theorem Ic(a:List Nat)(d:Nat):D (a++[d])=D a+16777216^a.length*d:=by
 rw[abz];simp[D]
def lx(l:List Nat):Prop:=∀d∈l,d<16777216
theorem lx.nil:lx []:=fun d h=>by cases h
theorem lx.vA{l:List Nat}{d:Nat}(h:lx l)(hd:d<16777216):lx (l++[d]):=fun e a=>by
 rcases nJ.1 a with a|a
 ·exact h e a
 ·simp at a;omega
theorem lx.take{l:List Nat}(h:lx l)(k:Nat):lx (l.take k):=fun d hd=>h d (MW hd)
theorem abA{l:List Nat}(h:lx l):D l<16777216^l.length:=by
 induction l with
 |nil=>simp[D]
 |cons d l b=>have H:=b fun e a=>h e (by simp[a]);have I:=h d am;simp only[D,mP,w4];omega
theorem Sa(l:List Nat)(k:Nat)(h:k<l.length):D (l.take (k+1))=D (l.take k)+16777216^k*l[k]:=by
 rw[tu h,Ic,n_,M1 (Ct h)]
theorem aAC(j:Nat):256^(3*j)=16777216^j:=by rw[Nat.pow_mul]
def ii(d:Nat):List UInt8:=[UInt8.ofNat (d/65536%256),UInt8.ofNat (d/256%256),UInt8.ofNat (d%256)]
def H8:List Nat->List UInt8
 |[]=>[]
 |d::l=>H8 l++ii d
theorem aql(d:Nat)(h:d<16777216):aT (ii d)=d:=by
 simp only[ii,aT,HQ,List.foldl_nil,XY];omega
theorem aqm{l:List Nat}(h:lx l):aT (H8 l)=D l:=by
 induction l with
 |nil=>rfl
 |cons d l b=>simp only[H8,D];rw[ac9,aql d (h d am),b fun e a=>h e (by simp[a])];simp[ii];omega
end Go.aI
namespace Go.aI
open Go Go.Proofs.Tryz Go.Proofs Go.RowKit
theorem lb{w:World}{b i:Nat}{cs:Array Value}{t:TypeId}{v:Value}(h:w.heap[b]? =some (.cells cs t (0,0)))(hi:cs[i]? =some v):w.cell? ⟨b,i,none⟩=some v:=by simp[World.cell?,h,hi]
theorem da(w:World)(o:Obj):(w.alloc o).heap[w.heap.size]? =some o:=p1 w o
theorem wB(w:World)(o:Obj){k:Nat}(h:k<w.heap.size):(w.alloc o).heap[k]? =w.heap[k]? :=Ck w o k h
theorem jC(w:World)(o:Obj):(w.alloc o).heap.size=w.heap.size+1:=am
theorem adU{c:UInt8}(h:(((c.toNat:Nat):Int)==0)=true):c=0:=by
 have:c.toNat=0:=by simpa using h
 exact RX.1 (by simpa using this)
theorem TF(s:ByteArray)(k:Nat)(h:k<s.size):s.data.toList[k]? =some s[k]:=by
 rw[ln (by rw[ji];exact h)];rfl
theorem Jx(s:ByteArray)(k:Nat)(a:k<=s.size)(c:∀j,j<k->s.data.toList[j]? =some 0)(b:∀h:k<s.size,s[k]≠0):Sg s (s.extract k s.size):=
 YB s _ k (aaS s k) (by rw[ji];exact a) c fun h=>b (by rw[ji]at h;exact h)
def hc(n:Nat)(e:Ending):Prop:=∃t:ByteArray,e=.returned (.string t)/\dm t n
theorem xu(s:ByteArray)(w:World)(b:s.size<=maxLen):Calls prog 172 #[.string s] w fun e w'=>hc (aT s.data.toList) e/\w=w':=by
 unfold maxLen at b;go_enter func172,ntmps172
 go_wp2;go_loop [3] (fun i=>∃k:Nat,k<=s.size/\i=.int .i64 k/\Hid (∀j,j<k->s.data.toList[j]? =some 0)) (fun i=>s.size-(RowKit.intOf i).toNat);case atStart=>exact⟨0,dq _,rfl,fun j c=>z⟩
 case round=>
  obtain⟨k,a,rfl,ax⟩:=hrel;by_cases aq:k<s.size
  ·go_wp2
   ·exact ajc
   ·have az:((((s[k]'aq).toNat:Nat):Int)==0)=false:=by assumption
    go_ret;exact⟨⟨_,rfl,(Jx s k a ax.out (fun h e=>by rw[e]at az;simp at az)).ah9⟩,rfl⟩
  ·go_wp2;go_ret;exact⟨⟨_,rfl,(Jx s k a ax.out (fun h=>absurd h aq)).ah9⟩,rfl⟩
theorem akY:(256:Nat)^16=340282366920938463463374607431768211456:=ai
theorem LW:(256:Nat)^7=72057594037927936:=ai
theorem dm.len{s:ByteArray}{n:Nat}(h:dm s n)(a:n<256^16):s.size<=maxLen:=db (h.2 16 a) ai
theorem A4(s:ByteArray)(n:Nat)(w:World)(h:dm s n)(a:n<256^16):Calls prog 172 #[.string s] w fun e w'=>hc n e/\w=w':=by
 have:=xu s w (h.len a);rw[h.1]at this;exact this
theorem ada(l:List UInt8)(k:Nat)(h:k<=6):aT (l.take k)<281474976710656:=by
 exact ajB
theorem adb(t:ByteArray)(k:Nat)(h:k<t.size):aT (t.data.toList.take (k+1))=aT (t.data.toList.take k)*256+t[k].toNat:=by
 exact ajH
def y_(n:Nat)(e:Ending):Prop:=e=.returned (.tuple #[.int .i64 n,.bool true])
theorem BI(s:ByteArray)(N:Nat)(w:World)(b:dm s N)(a:N<256^7):Calls prog 174 #[.string s] w fun e w'=>y_ N e/\w=w':=by
 have d:=G a;have c:=G b;have f:Hid (N<256^16):=iz a (ks z z);clear a b;go_enter func174,ntmps174
 go_wp2_with (go_at_call 172;refine(A4 s N _ c.out f.out).mono ?_;rintro e w' ⟨⟨t,rfl,T⟩,rfl⟩;have j:t.size<=7:=T.2 7 d.out;have l:decide (8<(t.size:Int))=false:=bu;have m:((t.size:Int)==8)=false:=bu);go_loop [4,5] (fun n i=>∃k:Nat,k<=t.size/\i=.int .i64 k/\n=.int .i64 (aT (t.data.toList.take k))) (fun _ i=>t.size-(RowKit.intOf i).toNat);case atStart=>exact⟨0,dq _,rfl,rfl⟩
 case round=>
  obtain⟨k,g,rfl,rfl⟩:=hrel;by_cases aq:k<t.size
  ·exact ajU
  ·have Pk:k=t.size:=z;have WH:aT (t.data.toList.take k)=N:=by rw[Pk,tt (by rw[ji];exact aZ _)];exact T.1
   exact ajI
theorem uu(s:ByteArray)(N n:Nat)(w:World)(b:dm s N)(f:n<=7)(a:N<256^n):Calls prog 88 #[.string s,.int .i64 n] w fun e w'=>y_ N e/\w=w':=by
 have d:Hid (N<256^7):=iz a (ks z f);have i:Hid (N<256^16):=iz a (ks z z);have g:=G a;have c:=G b;clear a b;go_enter func88,ntmps88
 go_wp2_with (first
  |(go_at_call 172;refine(A4 s N _ c.out i.out).mono ?_;rintro e w' ⟨⟨t,rfl,T⟩,rfl⟩;have j:t.size<=n:=T.2 n g.out;have k:decide (n<t.size)=false:=bu)
  |(go_at_call 174;refine(BI s N _ c.out d.out).mono ?_;rintro e w' ⟨rfl,rfl⟩))
 go_ret2
 exact⟨rfl,rfl⟩
theorem amk(s:ByteArray)(N n:Nat)(w:World)(a:dm s N)(i:n<=7)(b:256^n<=N)(c:N<256^16):Calls prog 88 #[.string s,.int .i64 n] w fun e w'=>e=.returned (.tuple #[.int .i64 0,.bool false])/\w=w':=by
 have g:=G c;have f:=G b;have d:=G a;clear b a c;go_enter func88,ntmps88
 go_wp2_with (go_at_call 172;refine(A4 s N _ d.out g.out).mono ?_;rintro e w' ⟨⟨t,rfl,T⟩,rfl⟩;have j:n<t.size:=T.kI f.out;have k:decide (n<t.size)=true:=bu);go_ret2
 exact⟨rfl,rfl⟩
theorem PM:(prog.info? 5).map (fun i=>(i.zero,i.size,i.bytes))=some (some (.int .u8 0),1,1):=au
theorem wQ(w:World)(t:TypeId)(v:Value):∀(j:Nat) (u:Value),[v][j]? =some u->(w.alloc (.cells #[v] t)).cell? ((⟨w.heap.size,0,none⟩:Addr).add j)=some u:=by
 exact Xv
theorem Tw(n j:Nat):jI n (j+1)=jI n j++[(((n/2^(56-8*j))%256:Nat):Int)]:=by
 simp[jI,MY]
theorem up{base k:Nat}{v:Value}{w:World}{aK:List Value}{e:TypeId}(h:w.ownsRow base e 1 v k aK):∀g,v.ownBlock=some g->base<=g:=by
 intro g al;obtain⟨a,aM⟩:=h;exact ajJ
theorem X6{w:World}{base k:Nat}{v:Value}{aK:List Value}{a b:Int}(h:w.ownsRow base 5 1 v k (aK++[.int .u8 a]))(e:a=b):w.ownsRow base 5 1 v k (aK++[.int .u8 b]):=e▸h
theorem akR{wr:World}{g k:Nat}{a:Array Value}(fh:List Int)(d:fh.length=k)(b:wr.heap[g]? =some (.cells a 5 (0,0)))(c:a.toList.take (k*1)=fh.map (Value.int .u8)):∀i,i<k->wr.cell? ⟨g,0+i,none⟩=some (.int .u8 (fh.getD i 0)):=fun i hi=>by
 have H:(a.toList.take (k*1))[i]? =(fh.map (Value.int .u8))[i]? :=by rw[c]
 rw[oS,cv z,pn]at H
 have I:i<fh.length:=z
 rw[ln I]at H
 simp only[World.cell?,b,gm]
 simp only[Cj]at H
 rw[H,pm,ln I]
 rfl
theorem X2(w:World):Calls prog 86 #[.int .i64 0] w fun e w'=>hc 0 e/\Below w.heap.size w w':=by
 have a:=fun(w:World) (l c:Nat)=>RF (P:=prog) (w:=w) 230 5 underlying230 underlying5 l c;have b:=fun(w:World) (l c:Nat)=>a w l c 91 underlying91;go_enter func86,ntmps86
 go_wp2;refine Cm 1 ?_;rw[rx]
 go_wp2_with (go_at_call 172;refine(xu _ _ (by simp[maxLen])).mono ?_;rintro e w' ⟨⟨t,rfl,T⟩,rfl⟩);go_ret;exact⟨⟨t,rfl,T⟩,bi _ _⟩
theorem X0(n:Nat)(w:World)(ab:0<n)(H:n<9223372036854775808):Calls prog 86 #[.int .i64 n] w fun e w'=>hc n e/\Below w.heap.size w w':=by
 obtain⟨A,I,K,C,F⟩:=jt PM;have ag:decide (0<(n:Int))=true:=bu;go_enter func86,ntmps86
 go_wp2;go_loopw [3,4] (fun v i wr=>∃j:Nat,j<=8/\i=.int .i64 (56-8*(j:Int))/\wr.ownsRow w.heap.size 5 1 v j ((jI n j).map (Value.int .u8))/\Below w.heap.size w wr) (fun _ i _=>(RowKit.intOf i+8).toNat);case atStart=>exact⟨0,z,rfl,mo _ _ _ _,bi _ _⟩
 case round=>
  obtain⟨j,L,rfl,c,b⟩:=hrel;by_cases aq:j<8
  ·have x:j=0∨j=1∨j=2∨j=3∨j=4∨j=5∨j=6∨j=7:=z;have d:=Tw n j;rcases x with rfl|rfl|rfl|rfl|rfl|rfl|rfl|rfl
   all_goals
    have s:=G d;clear d
    go_wp2_with (at_builtin;refine lP _ rfl _ _ 230 rfl w.heap.size 5 A (.int .u8 0) 1 1 underlying230 I K C F rfl ai _ _ _ rfl (c.alloc _) ⟨wr.heap.size,0,none⟩ 1 1 [_] rfl rfl (wQ _ _ _) (by simp[Value.oneCell']) (by unfold maxLen;omega) z (by have:=b.size;simp;omega) ?_;intro N y k l _);have a:Below w.heap.size w y:=(b.alloc b.size _).grown l (by have:=b.size;simp;omega) (up c);have D:=G k;clear k l
    go_wp2;first|(refine⟨⟨1,z,bM,?_,a⟩,by simp[RowKit.intOf]⟩)|(refine⟨⟨2,z,bM,?_,a⟩,by simp[RowKit.intOf]⟩)|(refine⟨⟨3,z,bM,?_,a⟩,by simp[RowKit.intOf]⟩)|(refine⟨⟨4,z,bM,?_,a⟩,by simp[RowKit.intOf]⟩)|(refine⟨⟨5,z,bM,?_,a⟩,by simp[RowKit.intOf]⟩)|(refine⟨⟨6,z,bM,?_,a⟩,by simp[RowKit.intOf]⟩)|(refine⟨⟨7,z,bM,?_,a⟩,by simp[RowKit.intOf]⟩)|(refine⟨⟨8,z,bM,?_,a⟩,by simp[RowKit.intOf]⟩)
    rw[s.out,w1,abd];exact X6 D.out (by first|omega|(simp;omega)|(simp))
  ·obtain rfl:j=8:=z;obtain⟨u,E⟩:=c;rcases E with⟨_,Q⟩|⟨g,cap,M,rfl,S,o,O,U,B,q⟩
   ·omega
   ·have m:=akR (jI n 8) (by simp[jI]) o q;have R:=MP (P:=prog) wr 230 5 underlying230 underlying5 g 0 8 cap (jI n 8) (by simp[jI]) m 91 underlying91;have J:=G (S' n H);have f:(strOfNums (jI n 8)).size=8:=by rw[MQ];simp[jI]
    have r:=G f;clear f m o B q u
    go_wp2_with (go_at_call 172;refine(xu _ _ (by rw[r.out];unfold maxLen;omega)).mono ?_;rintro e w' ⟨⟨t,rfl,T⟩,rfl⟩);go_ret;rw[RH,J.out]at T;exact⟨⟨t,rfl,T⟩,b⟩
theorem pe(n:Nat)(w:World)(H:n<9223372036854775808):Calls prog 86 #[.int .i64 n] w fun e w'=>hc n e/\Below w.heap.size w w':=by
 by_cases ab:n=0
 ·subst ab;exact X2 w
 ·exact X0 n w z H
end Go.aI
namespace Go.b3
open Go Go.Proofs Go.RowKit Go.Lib Go.aI
inductive bH where
 |mk (k:Int) (s:ByteArray) (N S n:Int) (cs:List ByteArray) (a_:List (List bH))
def be:Nat->Prop:=fun _=>True
def gR(n:Nat):Nat->Prop:=fun b=>n<=b
def he(B:Nat->Prop)(w:World)(a:Option Addr)(l:List ByteArray):Prop:=l.length<=40/\(0<l.length->∃b o,a=some ⟨b,o,none⟩/\B b/\b<w.heap.size/\∀i (hi:i<l.length),w.cell? ⟨b,o+i,none⟩=some (.string l[i]))
structure tH (w:World) (b o:Nat) (fj dy cW dj oP yD uy:Value):Prop where
 br:w.cell? ⟨b,o,none⟩=some fj
 c1:w.cell? ⟨b,o+1,none⟩=some dy
 c2:w.cell? ⟨b,o+2,none⟩=some cW
 c3:w.cell? ⟨b,o+3,none⟩=some dj
 c4:w.cell? ⟨b,o+4,none⟩=some oP
 c5:w.cell? ⟨b,o+5,none⟩=some yD
 fk:w.cell? ⟨b,o+6,none⟩=some uy
abbrev bY(k:Int)(s:ByteArray)(N S n:Int)(ca:Option Addr)(cl cc:Nat)(ra:Option Addr)(rl rc:Nat):Array Value:=#[.int .i64 k,.string s,.int .i64 N,.int .i64 S,.int .i64 n,.slice ca cl cc,.slice ra rl rc]
def cU(B:Nat->Prop)(P:World->Array Value->bH->Prop)(w:World)(a:Option Addr)(l:List bH):Prop:=l.length<=8/\(0<l.length->∃b o,a=some ⟨b,o,none⟩/\B b/\b<w.heap.size/\∀j (c:j<l.length),∃k s N S n ca cl cc ra rl rc,P w (bY k s N S n ca cl cc ra rl rc) l[j]/\tH w b (o+j*7) (.int .i64 k) (.string s) (.int .i64 N) (.int .i64 S) (.int .i64 n) (.slice ca cl cc) (.slice ra rl rc))
def hW(B:Nat->Prop)(P:World->Array Value->bH->Prop)(w:World)(a:Option Addr)(l:List (List bH)):Prop:=l.length<=100/\(0<l.length->∃b o,a=some ⟨b,o,none⟩/\B b/\b<w.heap.size/\∀i (hi:i<l.length),∃ra rc,w.cell? ⟨b,o+i,none⟩=some (.slice ra l[i].length rc)/\cU B P w ra l[i])
def aY(B:Nat->Prop):Nat->World->Array Value->bH->Prop
 |0,w,F,.mk k s N S n cs a_=>a_=[]/\∃ca cc ra rc,F=bY k s N S n ca cs.length cc ra 0 rc/\he B w ca cs
 |d+1,w,F,.mk k s N S n cs a_=>∃ca cc ra rc,F=bY k s N S n ca cs.length cc ra a_.length rc/\he B w ca cs/\hW B (aY B d) w ra a_
def fw(B:Nat->Prop)(w w':World):Prop:=w.heap.size<=w'.heap.size/\∀b,B b->b<w.heap.size->w'.heap[b]? =w.heap[b]?
theorem fw.cell{B:Nat->Prop}{w w':World}(h:fw B w w'){b o:Nat}(H:B b)(I:b<w.heap.size):w'.cell? ⟨b,o,none⟩=w.cell? ⟨b,o,none⟩:=by
 simp only[World.cell?];rw[h.2 b H I]
theorem fw.g0{B:Nat->Prop}{w w':World}(h:Below w.heap.size w w'):fw B w w':=⟨h.size,fun b _ I=>h.block b I⟩
theorem fw.refl(B:Nat->Prop)(w:World):fw B w w:=⟨aZ _,fun _ _ _=>rfl⟩
theorem fw.trans{B:Nat->Prop}{w c a:World}(h:fw B w c)(k:fw B c a):fw B w a:=⟨db h.1 k.1,fun b H I=>(k.2 b H (iz I h.1)).trans (h.2 b H I)⟩
theorem fw.set{B:Nat->Prop}{w a:World}(h:fw B w a){r:Nat}(c:¬B r)(i:Nat)(u:Value):fw B w (a.setCell ⟨r,i,none⟩ u):=
 ⟨by simpa using h.1,fun b H I=>by rw[hm _ _ _ _ (fun(e:b=r)=>c (e▸H))];exact h.2 b H I⟩
theorem fw.alloc{B:Nat->Prop}{w a:World}(h:fw B w a)(o:Obj):fw B w (a.alloc o):=h.trans (fw.g0 ((bi _ _).alloc (aZ _) o))
theorem he.gf{B:Nat->Prop}{w w':World}{a:Option Addr}{l:List ByteArray}(h:he B w a l)(A:fw B w w'):he B w' a l:=
 ⟨h.1,fun ab=>by
  obtain⟨b,o,e,d,c,f⟩:=h.2 ab
  exact⟨b,o,e,d,iz c A.1,fun i hi=>(A.cell d c).trans (f i hi)⟩⟩
theorem tH.gf{B:Nat->Prop}{w w':World}{b o:Nat}{g f d e i k j:Value}(h:tH w b o g f d e i k j)(c:B b)(a:b<w.heap.size)(A:fw B w w'):tH w' b o g f d e i k j:=
 ⟨(A.cell c a).trans h.br,(A.cell c a).trans h.c1,(A.cell c a).trans h.c2,(A.cell c a).trans h.c3,(A.cell c a).trans h.c4,(A.cell c a).trans h.c5,(A.cell c a).trans h.fk⟩
def vY(B:Nat->Prop)(P:World->Array Value->bH->Prop):Prop:=∀(w w':World) (F:Array Value) (v:bH),P w F v->fw B w w'->P w' F v
theorem cU.gf{B:Nat->Prop}{P:World->Array Value->bH->Prop}(m:vY B P){w w':World}{a:Option Addr}{l:List bH}(h:cU B P w a l)(A:fw B w w'):cU B P w' a l:=
 ⟨h.1,fun ab=>by
  obtain⟨b,o,e,d,c,f⟩:=h.2 ab
  refine⟨b,o,e,d,iz c A.1,fun j i=>?_⟩
  obtain⟨k,s,N,S,n,ca,cl,cc,ra,rl,rc,ag,g⟩:=f j i
  exact⟨k,s,N,S,n,ca,cl,cc,ra,rl,rc,m _ _ _ _ ag A,g.gf d c A⟩⟩
theorem hW.gf{B:Nat->Prop}{P:World->Array Value->bH->Prop}(g:vY B P){w w':World}{a:Option Addr}{l:List (List bH)}(h:hW B P w a l)(A:fw B w w'):hW B P w' a l:=
 ⟨h.1,fun ab=>by
  obtain⟨b,o,e,d,c,f⟩:=h.2 ab
  refine⟨b,o,e,d,iz c A.1,fun i hi=>?_⟩
  obtain⟨ra,rc,H,I⟩:=f i hi
  exact⟨ra,rc,(A.cell d c).trans H,cU.gf g I A⟩⟩
theorem aY.gf{B:Nat->Prop}:∀{d:Nat} {w w':World} {F:Array Value} {v:bH},aY B d w F v->fw B w w'->aY B d w' F v
 |0,w,w',F,.mk ..,h,A=>by
  obtain⟨ab,ca,cc,ra,rc,e,H⟩:=h
  exact⟨ab,ca,cc,ra,rc,e,H.gf A⟩
 |d+1,w,w',F,.mk ..,h,A=>by
  obtain⟨ca,cc,ra,rc,e,H,I⟩:=h
  exact⟨ca,cc,ra,rc,e,H.gf A,hW.gf (P:=aY B d) (fun _ _ _ _ ag A=>aY.gf ag A) I A⟩
theorem he.U{B:Nat->Prop}{w w':World}{a:Option Addr}{l:List ByteArray}(h:he B w a l)(A:Below w.heap.size w w'):he B w' a l:=h.gf (.g0 A)
theorem cU.U{B:Nat->Prop}{P:World->Array Value->bH->Prop}(b:vY B P){w w':World}{a:Option Addr}{l:List bH}(h:cU B P w a l)(A:Below w.heap.size w w'):cU B P w' a l:=h.gf b (.g0 A)
theorem hW.U{B:Nat->Prop}{P:World->Array Value->bH->Prop}(b:vY B P){w w':World}{a:Option Addr}{l:List (List bH)}(h:hW B P w a l)(A:Below w.heap.size w w'):hW B P w' a l:=h.gf b (.g0 A)
theorem aY.U{B:Nat->Prop}{d:Nat}{w w':World}{F:Array Value}{v:bH}(h:aY B d w F v)(A:Below w.heap.size w w'):aY B d w' F v:=h.gf (.g0 A)
theorem he.low{B c:Nat->Prop}(d:∀b,B b->c b){w:World}{a:Option Addr}{l:List ByteArray}(h:he B w a l):he c w a l:=
 ⟨h.1,fun ab=>by
  obtain⟨b,o,e,H,I⟩:=h.2 ab
  exact⟨b,o,e,d _ H,I⟩⟩
theorem cU.low{B c:Nat->Prop}(i:∀b,B b->c b){P P':World->Array Value->bH->Prop}(m:∀w F v,P w F v->P' w F v){w:World}{a:Option Addr}{l:List bH}(h:cU B P w a l):cU c P' w a l:=
 ⟨h.1,fun ab=>by
  obtain⟨b,o,e,H,I,d⟩:=h.2 ab
  refine⟨b,o,e,i _ H,I,fun j g=>?_⟩
  obtain⟨k,s,N,S,n,ca,cl,cc,ra,rl,rc,ag,f⟩:=d j g
  exact⟨k,s,N,S,n,ca,cl,cc,ra,rl,rc,m _ _ _ ag,f⟩⟩
theorem hW.low{B d:Nat->Prop}(c:∀b,B b->d b){P P':World->Array Value->bH->Prop}(k:∀w F v,P w F v->P' w F v){w:World}{a:Option Addr}{l:List (List bH)}(h:hW B P w a l):hW d P' w a l:=
 ⟨h.1,fun ab=>by
  obtain⟨b,o,e,H,I,f⟩:=h.2 ab
  refine⟨b,o,e,c _ H,I,fun i hi=>?_⟩
  obtain⟨ra,rc,j,g⟩:=f i hi
  exact⟨ra,rc,j,g.low c k⟩⟩
theorem aY.low{B c:Nat->Prop}(a:∀b,B b->c b):∀{d:Nat} {w:World} {F:Array Value} {v:bH},aY B d w F v->aY c d w F v
 |0,w,F,.mk ..,h=>by
  obtain⟨ab,ca,cc,ra,rc,e,H⟩:=h
  exact⟨ab,ca,cc,ra,rc,e,H.low a⟩
 |d+1,w,F,.mk ..,h=>by
  obtain⟨ca,cc,ra,rc,e,H,I⟩:=h
  exact⟨ca,cc,ra,rc,e,H.low a,hW.low a (P:=aY B d) (P':=aY c d) (fun _ _ _ ag=>aY.low a ag) I⟩
theorem he.lt{B:Nat->Prop}{w:World}{a:Option Addr}{l:List ByteArray}(h:he B w a l):he (fun b=>B b/\b<w.heap.size) w a l:=
 ⟨h.1,fun ab=>by
  obtain⟨b,o,e,H,I,c⟩:=h.2 ab
  exact⟨b,o,e,⟨H,I⟩,I,c⟩⟩
theorem cU.lt{B:Nat->Prop}{P P':World->Array Value->bH->Prop}{w:World}(g:∀F v,P w F v->P' w F v){a:Option Addr}{l:List bH}(h:cU B P w a l):cU (fun b=>B b/\b<w.heap.size) P' w a l:=
 ⟨h.1,fun ab=>by
  obtain⟨b,o,e,H,I,c⟩:=h.2 ab
  refine⟨b,o,e,⟨H,I⟩,I,fun j f=>?_⟩
  obtain⟨k,s,N,S,n,ca,cl,cc,ra,rl,rc,ag,d⟩:=c j f
  exact⟨k,s,N,S,n,ca,cl,cc,ra,rl,rc,g _ _ ag,d⟩⟩
theorem hW.lt{B:Nat->Prop}{P P':World->Array Value->bH->Prop}{w:World}(g:∀F v,P w F v->P' w F v){a:Option Addr}{l:List (List bH)}(h:hW B P w a l):hW (fun b=>B b/\b<w.heap.size) P' w a l:=
 ⟨h.1,fun ab=>by
  obtain⟨b,o,e,H,I,c⟩:=h.2 ab
  refine⟨b,o,e,⟨H,I⟩,I,fun i hi=>?_⟩
  obtain⟨ra,rc,f,d⟩:=c i hi
  exact⟨ra,rc,f,d.lt g⟩⟩
theorem aY.lt{B:Nat->Prop}:∀{d:Nat} {w:World} {F:Array Value} {v:bH},aY B d w F v->aY (fun b=>B b/\b<w.heap.size) d w F v
 |0,w,F,.mk ..,h=>by
  obtain⟨ab,ca,cc,ra,rc,e,H⟩:=h
  exact⟨ab,ca,cc,ra,rc,e,H.lt⟩
 |d+1,w,F,.mk ..,h=>by
  obtain⟨ca,cc,ra,rc,e,H,I⟩:=h
  exact⟨ca,cc,ra,rc,e,H.lt,hW.lt (P:=aY B d) (P':=aY (fun b=>B b/\b<w.heap.size) d) (fun _ _ ag=>aY.lt ag) I⟩
theorem aY.HC{B:Nat->Prop}{w:World}{F:Array Value}{v:bH}(h:aY B 0 w F v):aY B 1 w F v:=by
 obtain⟨k,s,N,S,n,cs,a_⟩:=v;obtain⟨rfl,ca,cc,ra,rc,e,H⟩:=h;exact⟨ca,cc,ra,rc,e,H,am,fun ab=>absurd ab am⟩
theorem aY.hz{B:Nat->Prop}{d:Nat}{w:World}{F:Array Value}{k N S n:Int}{s:ByteArray}{cs:List ByteArray}{a_:List (List bH)}(h:aY B d w F (.mk k s N S n cs a_)):∃ca cc ra rc,F=bY k s N S n ca cs.length cc ra a_.length rc/\he B w ca cs/\hW B (aY B (d-1)) w ra a_:=by
 cases d with
 |zero=>obtain⟨rfl,ca,cc,ra,rc,e,H⟩:=h;exact⟨ca,cc,ra,rc,e,H,am,fun ab=>absurd ab am⟩
 |succ d=>exact h
theorem aY.iE(B:Nat->Prop)(d:Nat)(w:World)(k:Int)(s:ByteArray)(N S n:Int)(ca:Option Addr)(cc:Nat)(ra:Option Addr)(rc:Nat):aY B d w (bY k s N S n ca 0 cc ra 0 rc) (.mk k s N S n [] []):=by
 cases d with
 |zero=>exact⟨rfl,ca,cc,ra,rc,rfl,am,fun ab=>absurd ab am⟩
 |succ d=>exact⟨ca,cc,ra,rc,rfl,⟨am,fun ab=>absurd ab am⟩,am,fun ab=>absurd ab am⟩
theorem cU.nil{B:Nat->Prop}{P:World->Array Value->bH->Prop}{w:World}{a:Option Addr}:cU B P w a []:=⟨am,fun ab=>absurd ab am⟩
theorem hW.nil{B:Nat->Prop}{P:World->Array Value->bH->Prop}{w:World}{a:Option Addr}:hW B P w a []:=⟨am,fun ab=>absurd ab am⟩
theorem aDK{x y:ByteArray}(h:x≠y):x.toList≠y.toList:=fun e=>h (by
 rw[yI,yI]at e
 exact HH (Array.toList_inj.1 e))
theorem qc(x:ByteArray):(x.toList==x.toList)=true:=am
theorem fy{x y:ByteArray}(h:x≠y):(x.toList==y.toList)=false:=by
 rw[l8];exact aDK h
def CX(p:Bool->Prop)(e:Ending):Prop:=∃r:Bool,e=.returned (.bool r)/\p r
end Go.b3
namespace Go.b3
open Go Go.Proofs.Tryz Go.Proofs Go.RowKit Go.Lib
def tD(w:World)(a:Option Addr)(c:List Int):Prop:=c.length<=maxLen/\(0<c.length->∃b o,a=some ⟨b,o,none⟩/\b<w.heap.size/\∀i (hi:i<c.length),w.cell? ⟨b,o+i,none⟩=some (.int .i64 c[i]))
theorem tD.U{w w':World}{a:Option Addr}{d:List Int}(h:tD w a d)(A:Below w.heap.size w w'):tD w' a d:=⟨h.1,fun ab=>by
 obtain⟨b,o,e,c,f⟩:=h.2 ab
 exact⟨b,o,e,cE A c,fun i hi=>(A.cell c).trans (f i hi)⟩⟩
theorem aw7(w:World)(a:Option Addr)(c:Nat)(d:List Int)(x:Int)(h:tD w a d): Calls prog 52 #[.slice a d.length c,.int .i64 x] w fun e w'=>(∃ae:Int,e=.returned (.int .i64 ae)/\(0<=ae↔x∈d))/\w'=w:=by
 have q:(d.length:Int)<=9223372036854775807:=by have:=h.1;unfold maxLen at this;omega
 have E:=G q;have C:=G h.2;clear h q;go_enter func52,ntmps52
 go_wp2;go_loopw [5,8] (fun _ i wr=>∃k:Nat,k<=d.length/\i=.int .i64 k/\(∀(j:Nat) (H:j<d.length),j<k->d[j]≠x)/\wr=w) (fun _ i _=>d.length-(RowKit.intOf i).toNat);case atStart=>exact⟨0,dq _,rfl,fun _ _ h=>absurd h (E4 _),rfl⟩
 case round=>
  obtain⟨k,F,rfl,n,rfl⟩:=hrel;have r:=G n;clear n;by_cases aq:k<d.length
  ·obtain⟨b,o,rfl,A,m⟩:=C.out z;have I:=m k aq;have y:(0:Int)<=(k:Int):=z;have B:(k:Int)<d.length:=z;have l:Hid (wrap64 ((k:Int)+1)=((k+1:Nat):Int)):=G (by have:=E.out;unfold wrap64;omega);clear m;by_cases f:x=d[k]
   ·have g:Hid (x∈d):=G (f▸fM _);have D:(x==d[k])=true:=by simpa using f
    clear f
    go_wp2;go_ret;exact⟨⟨_,rfl,fun _=>g.out,fun _=>y⟩,rfl⟩
   ·have g:Hid (∀(j:Nat) (H:j<d.length),j<k+1->d[j]≠x):=G fun j H t=>(by
     rcases M0.1 t with h|h
     ·exact r.out j H h
     ·subst h;exact fun e=>f e.symm)
    have D:(x==d[k])=false:=by simpa using f
    clear f
    go_wp2;go_roundw;case rel=>exact⟨k+1,z,by rw[l.out],g.out,h5⟩
    case measure=>rw[l.out];simp[RowKit.intOf];omega
  ·have B:¬(k:Int)<d.length:=z;have g:Hid (x∉d):=G fun u=>(by
    obtain⟨j,s,e⟩:=Cr.1 u
    exact r.out j s z e)
   go_wp2;go_ret;exact⟨⟨_,rfl,z,fun h=>absurd h g.out⟩,rfl⟩
theorem ar0(w:World)(a:Option Addr)(c:Nat)(b:List Int)(x:Int)(h:tD w a b): Calls prog 21 #[.slice a b.length c,.int .i64 x] w fun e w'=>e=.returned (.bool (decide (x∈b)))/\w'=w:=by
 have f:=G (aw7 w a c b x h);clear h;go_enter func21,ntmps21
 go_wp2_with (go_at_call 52;refine f.out.mono ?_;rintro e w' ⟨⟨ae,rfl,d⟩,rfl⟩;have g:=G d;clear d);go_ret;exact⟨by simp[←g.out],rfl⟩
theorem axh(w:World)(a b:Option Addr)(c d:Nat)(l:List Int)(I:l.length<=12)(g:tD w a l)(A:tD w b l): Calls prog 8 #[.slice a l.length c,.slice b l.length d] w fun e w'=>e=.returned (.bool true)/\Below w.heap.size w w':=by
 have u:((l.length:Int) !=(l.length:Int))=false:=am;have q:=G fun W (f:Below w.heap.size w W)=>(g.U f).2;have n:=G fun W (f:Below w.heap.size w W)=>(A.U f).2;clear g A;go_enter func8,ntmps8
 go_wp2;go_loopw [5] (fun i wr=>∃k:Nat,k<=l.length/\i=.int .i64 k/\Below w.heap.size w wr) (fun i _=>l.length-(RowKit.intOf i).toNat);case atStart=>exact⟨0,dq _,rfl,bi _ _⟩
 case round=>
  obtain⟨k,r,rfl,f⟩:=hrel;by_cases aq:k<l.length
  ·obtain⟨C,E,rfl,x,j⟩:=q.out _ f z;obtain⟨B,F,rfl,D,m⟩:=n.out _ f z;have s:=j k aq;have y:=m k aq;have H:(0:Int)<=(k:Int):=z;have o:(k:Int)<l.length:=z;have t:(l[k] !=l[k])=false:=am;clear j m
   go_wp2;go_quiet (fail)
   go_wp2;go_roundw;case rel=>exact⟨k+1,z,bM,f.trans ((oR (bi _ _) _).mono f.size)⟩
   case measure=>simp[RowKit.intOf];omega
  ·have o:¬(k:Int)<l.length:=z
   go_wp2;go_ret;exact⟨rfl,f⟩
end Go.b3
namespace Go.Proofs
open Go.Proofs.Tryz Go.Shelf
def sortA_ren:Go.Shelf.Ren:=⟨fun|5=>22|8=>54|7=>53|19=>117|20=>118|10=>108|11=>109|12=>110|13=>111|14=>112|15=>113|16=>114|17=>115|18=>116|30=>193|31=>194|32=>195|33=>196|34=>197|35=>153|40=>298|n=>n,fun|23=>22|25=>3|3=>3|32=>110|22=>22|0=>0|44=>171|46=>173|4=>4|36=>164|35=>163|41=>80|5=>5|9=>9|53=>252|57=>256|63=>327|64=>328|n=>n,fun|n=>n⟩
theorem sortA:Go.Proofs.SlLaysM.n5 prog sortA_ren:={
 mixed:=au
 f5:=⟨f22.name,ai,func22.trans (ih some au)⟩
 f7:=⟨f53.name,ai,func53.trans (ih some au)⟩
 f8:=func54.trans (ih some au)
 f10:=⟨f108.name,ai,func108.trans (ih some au)⟩
 f11:=⟨f109.name,ai,func109.trans (ih some au)⟩
 f12:=⟨f110.name,ai,func110.trans (ih some au)⟩
 f13:=⟨f111.name,ai,func111.trans (ih some au)⟩
 f14:=⟨f112.name,ai,func112.trans (ih some au)⟩
 f15:=⟨f113.name,ai,func113.trans (ih some au)⟩
 f16:=⟨f114.name,ai,func114.trans (ih some au)⟩
 f17:=⟨f115.name,ai,func115.trans (ih some au)⟩
 f18:=⟨f116.name,ai,func116.trans (ih some au)⟩
 f19:=func117.trans (ih some au)
 f20:=func118.trans (ih some au)
 f30:=⟨f193.name,ai,func193.trans (ih some au)⟩
 f31:=func194.trans (ih some au)
 f32:=func195.trans (ih some au)
 f33:=⟨f196.name,ai,func196.trans (ih some au)⟩
 f34:=⟨f197.name,ai,func197.trans (ih some au)⟩
 f35:=⟨f153.name,ai,func153.trans (ih some au)⟩
 f40:=⟨f298.name,ai,func298.trans (ih some au)⟩
 t0:=underlying0
 a0:=isAgg0
 z0:=sizeOf0
 v0:=zeroValue0
 t3:=aaV
 a3:=isAgg3
 z3:=sizeOf3
 v3:=aaX
 t4:=underlying4
 a4:=isAgg4
 z4:=sizeOf4
 v4:=zeroValue4
 t5:=underlying5
 a5:=isAgg5
 z5:=sizeOf5
 v5:=zeroValue5
 t9:=underlying9
 a9:=isAgg9
 z9:=sizeOf9
 v9:=zeroValue9
 t22:=aaU
 a22:=isAgg22
 z22:=sizeOf22
 v22:=aaW
 t23:=aaU
 a23:=isAgg22
 z23:=sizeOf22
 v23:=aaW
 t25:=aaV
 a25:=isAgg3
 z25:=sizeOf3
 v25:=aaX
 t32:=underlying110
 a32:=isAgg110
 z32:=sizeOf110
 v32:=zeroValue110
 t35:=underlying163
 a35:=isAgg163
 z35:=sizeOf163
 v35:=zeroValue163
 t36:=underlying164
 a36:=isAgg164
 z36:=sizeOf164
 v36:=zeroValue164
 t41:=underlying80
 a41:=isAgg80
 z41:=sizeOf80
 v41:=zeroValue80
 t44:=underlying171
 a44:=isAgg171
 z44:=sizeOf171
 v44:=zeroValue171
 t46:=underlying173
 a46:=isAgg173
 z46:=sizeOf173
 v46:=zeroValue173
 t53:=underlying252
 a53:=isAgg252
 z53:=sizeOf252
 v53:=zeroValue252
 t57:=underlying256
 a57:=isAgg256
 z57:=sizeOf256
 v57:=zeroValue256
 t63:=underlying327
 a63:=isAgg327
 z63:=sizeOf327
 v63:=zeroValue327
 t64:=underlying328
 a64:=isAgg328
 z64:=sizeOf328
 v64:=zeroValue328}
def compA_ren:Go.Shelf.Ren:=⟨fun|20=>23|n=>n,fun|22=>22|3=>3|4=>4|0=>0|n=>n,fun|n=>n⟩
theorem compA:Go.Proofs.Lays2.n20 prog compA_ren:={
 mixed:=au
 f20:=func23.trans (ih some au)
 t0:=underlying0
 a0:=isAgg0
 z0:=sizeOf0
 v0:=zeroValue0
 t3:=aaV
 a3:=isAgg3
 z3:=sizeOf3
 v3:=aaX
 t4:=underlying4
 a4:=isAgg4
 z4:=sizeOf4
 v4:=zeroValue4
 t22:=aaU
 a22:=isAgg22
 z22:=sizeOf22
 v22:=aaW
 i3:=au}
end Go.Proofs
namespace Go.aI
open Go Go.Proofs.Tryz Go.Proofs Go.RowKit
theorem oH{n m:Nat}(h:n<m)(a:m<=340282366920938463463374607431768211456):n<256^16:=by rw[akY];omega
theorem aqK(a b:ByteArray)(m n:Nat)(w:World)(c:dm a m)(A:dm b n)(d:m<72057594037927936)(f:n<72057594037927936):Calls prog 41 #[.string a,.string b] w fun e w'=>hc (m+n) e/\Below w.heap.size w w':=by
 have c1:∀w,Calls prog 88 #[.string a,.int .i64 7] w fun e w'=>e=.returned (.tuple #[.int .i64 m,.bool true])/\w=w':=fun w=>uu a m 7 w c z (by rw[LW];omega);have c2:∀w,Calls prog 88 #[.string b,.int .i64 7] w fun e w'=>e=.returned (.tuple #[.int .i64 n,.bool true])/\w=w':=fun w=>uu b n 7 w A z (by rw[LW];omega);have c3:∀w,Calls prog 86 #[.int .i64 ((m:Int)+(n:Int))] w fun e w'=>hc (m+n) e/\Below w.heap.size w w':=fun w=>by have:=pe (m+n) w z;rw[aa5]at this;exact this
 have bk:=G c1;have bK:=G c2;have h6:=G c3;clear c1 c2 c3 c A;go_enter func41,ntmps41;exact ajR
theorem ake(a b:ByteArray)(m n:Nat)(w:World)(c:dm a m)(A:dm b n)(d:m<16777216)(f:n<2147483648):Calls prog 173 #[.string a,.string b] w fun e w'=>hc (m*n) e/\Below w.heap.size w w':=by
 have i:m*n<36028797018963968:=by have H:m*n<=16777215*n:=oU _ z;omega
 have c1:∀w,Calls prog 88 #[.string a,.int .i64 3] w fun e w'=>e=.returned (.tuple #[.int .i64 m,.bool true])/\w=w':=fun w=>uu a m 3 w c z (iz d ai);have c2:∀w,Calls prog 88 #[.string b,.int .i64 4] w fun e w'=>e=.returned (.tuple #[.int .i64 n,.bool true])/\w=w':=fun w=>uu b n 4 w A z (iz f ai);have c3:∀w,Calls prog 86 #[.int .i64 ((m:Int)*(n:Int))] w fun e w'=>hc (m*n) e/\Below w.heap.size w w':=fun w=>by have:=pe (m*n) w z;rw[Cn]at this;exact this
 have bk:=G c1;have bK:=G c2;have h6:=G c3;have g:wrap64 ((m:Int)*(n:Int))=(m:Int)*(n:Int):=MN _ ⟨by rw[←Cn];omega,by rw[←Cn];omega⟩;clear c1 c2 c3 c A;go_enter func173,ntmps173;exact ajR
theorem ami(q:Nat)(h:q<36028797018963968):IntKind.i64.wrap (q:Int)=q:=oQ _ ⟨z,z⟩
theorem aCD(m n:Nat)(a:m<36028797018963968):IntKind.i64.wrap ((m:Int)/(n:Int))=(m:Int)/(n:Int):=
 ami (m/n) (p2 (E2 _ _) a)
theorem aCE(m n:Nat)(a:m<36028797018963968):IntKind.i64.wrap ((m:Int)%(n:Int))=(m:Int)%(n:Int):=
 ami (m%n) (p2 (Nat.mod_le _ _) a)
def I3(m n:Nat)(e:Ending):Prop:=∃q r:ByteArray,e=.returned (.tuple #[.string q,.string r,.bool true])/\dm q (m/n)/\dm r (m%n)
theorem yj(a b:ByteArray)(m n:Nat)(w:World)(g:dm a m)(A:dm b n)(d:m<36028797018963968)(j:n<36028797018963968)(ab:0<n):Calls prog 189 #[.string a,.string b] w fun e w'=>I3 m n e/\Below w.heap.size w w':=by
 have u:n<256^16:=oH j ai;have br:∀w,Calls prog 172 #[.string b] w fun e w'=>hc n e/\w=w':=fun w=>A4 b n w A u;have c1:∀w,Calls prog 88 #[.string a,.int .i64 7] w fun e w'=>e=.returned (.tuple #[.int .i64 m,.bool true])/\w=w':=fun w=>uu a m 7 w g z (by rw[LW];omega);have c3:∀w,Calls prog 86 #[.int .i64 ((m:Int)/(n:Int))] w fun e w'=>hc (m/n) e/\Below w.heap.size w w':=fun w=>by have:=pe (m/n) w (RT (p2 (E2 _ _) d) ai);exact this
 have c4:∀w,Calls prog 86 #[.int .i64 ((m:Int).tmod (n:Int))] w fun e w'=>hc (m%n) e/\Below w.heap.size w w':=fun w=>by have:=pe (m%n) w (RT (p2 (Nat.mod_le _ _) d) ai);exact this
 have i:=G br;have o:=G c1;have r:=G c3;have s:=G c4;have I:((n:Int)==0)=false:=bu;clear c1 c3 c4 br g A;go_enter func189,ntmps189
 go_wp2_with (first
  |(go_at_call 172;((with_reducible refine(i.out _).mono ?_);rintro e y ⟨⟨c,rfl,f⟩,rfl⟩;have F:¬(c.size=0):=(fun e=>by have:=f.zero.1 e;omega);have x:((c.size:Int)==0)=false:=(by rw[l8];omega);have l:Hid (∀w,Calls prog 88 #[.string c,.int .i64 7] w fun e w'=>e=.returned (.tuple #[.int .i64 n,.bool true])/\w=w'):=(fun w=>uu c n 7 w f z (by rw[LW];omega))))
  |(go_at_call 88;((with_reducible refine(o.out _).mono ?_);rintro e w' ⟨rfl,rfl⟩))
  |(go_at_call 88;((with_reducible refine(l.out _).mono ?_);rintro e w' ⟨rfl,rfl⟩)))
 have H:¬n=0:=z;have B:IntKind.i64.wrap ((m:Int)/(n:Int))=(m:Int)/(n:Int):=aCD m n d;have E:IntKind.i64.wrap ((m:Int)%(n:Int))=(m:Int)%(n:Int):=aCE m n d
 go_region_law (first
  |(go_simp;go_at_call 86;(with_reducible refine(r.out _).mono ?_);rintro e D ⟨⟨t,rfl,J⟩,A⟩)
  |(go_simp;go_at_call 86;(with_reducible refine(s.out _).mono ?_);rintro e C ⟨⟨t4,rfl,k⟩,q⟩))
 all_goals
  go_wp2;go_ret3
  exact⟨⟨t,t4,rfl,J,k⟩,((bi w.heap.size w).drew.trans A).trans (q.mono A.size)⟩
def ow(l:List Nat):List Value:=l.map fun(d:Nat)=>Value.int .i64 (d:Int)
theorem Dm(l:List Nat)(d:Nat):ow (l++[d])=ow l++[.int .i64 (d:Int)]:=by simp[ow]
def l_(w:World)(v:Value)(l:List Nat):Prop:=w.ownsRow 0 3 1 v l.length (ow l)
theorem az5{base k:Nat}{v:Value}{w w':World}{e:TypeId}{aK:List Value}(h:w.ownsRow base e 1 v k aK)(A:Below w.heap.size w w'):w'.ownsRow base e 1 v k aK:=by
 exact Xz
theorem l_.U{v:Value}{w w':World}{l:List Nat}(h:l_ w v l)(A:Below w.heap.size w w'):l_ w' v l:=az5 h A
theorem l_.g0{v:Value}{w:World}{l:List Nat}{base:Nat}(h:w.ownsRow base 3 1 v l.length (ow l)):l_ w v l:=by
 obtain⟨b,a⟩:=h;refine⟨b,?_⟩;rcases a with a|⟨g,cap,d,ak,e,c⟩
 ·exact .inl a
 ·exact .inr ⟨g,cap,d,ak,dq _,c⟩
theorem l_.open{v:Value}{w:World}{l:List Nat}(h:l_ w v l):∃a cap,v=.slice a l.length cap/\cap<=maxLen/\l.length<=cap/\(0<l.length->∃g,a=some ⟨g,0,none⟩/\g<w.heap.size)/\∀g,a=some ⟨g,0,none⟩->∀i (hi:i<l.length),w.cell? ⟨g,i,none⟩=some (.int .i64 (l[i]:Int)):=by
 obtain⟨n,d⟩:=h;rcases d with⟨rfl,e⟩|⟨g,cap,f,rfl,_,c,j,k,o,m⟩
 ·exact⟨none,0,by rw[e],ai,z,fun h=>z,fun g b=>by cases b⟩
 ·refine⟨_,cap,rfl,k,j,fun _=>⟨g,rfl,(hl.1 c).1⟩,fun q b i hi=>?_⟩;cases b;have H:(f.toList.take (l.length*1))[i]? =(ow l)[i]? :=by rw[m]
  rw[oS,cv z]at H;simp only[ow,pn,ln hi,ob]at H;simp only[Cj]at H;simp[World.cell?,c,H]
theorem PL:(prog.info? 3).map (fun i=>(i.zero,i.size,i.bytes))=some (some (.int .i64 0),1,8):=au
def apN(N:Nat)(e:Ending)(w':World):Prop:=∃v l,e=.returned v/\l_ w' v l/\D l=N/\lx l/\l.length<=6/\∀k,N<256^(3*k)->l.length<=k
theorem aqk{l:List UInt8}(h:l.length<=3):aT l<16777216:=by
 have H:=wd l;have b:256^l.length<=256^3:=ks z h;have a:(256:Nat)^3=16777216:=ai;omega
theorem aqo(t:ByteArray)(f m:Nat)(c:f<=m)(b:m<t.size):aT ((t.data.toList.drop f).take (m+1-f))=aT ((t.data.toList.drop f).take (m-f))*256+t[m].toNat:=by
 have e:m+1-f=(m-f)+1:=z;have a:t.data.toList.length=t.size:=ji;rw[e,tu (by rw[pp];omega),Ta];have I:(t.data.toList.drop f)[m-f]'(by rw[pp];omega)=t[m]:=by rw[anF];have:f+(m-f)=m:=z;simp only[this];rfl
 rw[I]
theorem aqn(l:List UInt8)(f E j:Nat)(c:f<=E)(d:E<=l.length)(b:l.length-E=3*j):aT (l.drop f)=aT (l.drop E)+16777216^j*aT ((l.drop f).take (E-f)):=by
 have e:l.drop f=(l.drop f).take (E-f)++l.drop E:=by have:=yR (E-f) (l.drop f);rw[List.drop_drop]at this;have a:f+(E-f)=E:=z;rw[a]at this;exact this.symm
 have:aT (l.drop f)=aT ((l.drop f).take (E-f))*256^(l.drop E).length+aT (l.drop E):=by
  conv=>lhs;rw[e]
  exact ac9 _ _
 rw[this,pp,b,aAC,E3];omega
theorem F6(s:ByteArray)(N:Nat)(w:World)(o:dm s N)(B:N<256^16):Calls prog 89 #[.string s] w fun e w'=>apN N e w'/\Below w.heap.size w w':=by
 obtain⟨S,kw,m8,X,Z⟩:=jt PL;have W:=G o;have y:=G B;clear o B;go_enter func89,ntmps89
 go_wp2_with (go_at_call 172;refine(A4 s N _ W.out y.out).mono ?_;rintro e w' ⟨⟨t,rfl,T⟩,rfl⟩;have eX:t.size<=16:=T.2 16 y.out);have F:t.data.toList.length=t.size:=ji;go_loopw [3,4] (fun v i wr=>∃(j:Nat) (l:List Nat),i=.int .i64 ((t.size:Int)-3*(j:Int))/\3*j<=t.size+2/\l.length=j/\D l=aT (t.data.toList.drop (t.size-3*j))/\lx l/\wr.ownsRow w.heap.size 3 1 v j (ow l)/\Below w.heap.size w wr) (fun _ i _=>(RowKit.intOf i).toNat);case atStart=>exact⟨0,[],am,z,rfl,by simp[F,D];rw[anA z];rfl,lx.nil,by simpa[ow]using mo w w.heap.size 3 1,bi _ _⟩
 case round=>
  obtain⟨j,l,rfl,aa,g,b,u,c,a⟩:=hrel;by_cases aq:3*j<t.size
  ·obtain⟨n,rfl⟩:∃n:World,n=wr:=⟨_,rfl⟩;obtain⟨E,cP⟩:∃E:Nat,E+3*j=t.size:=⟨t.size-3*j,z⟩;have M:(t.size:Int)-3*(j:Int)=E:=z;obtain⟨f,jQ,s1,s2⟩:∃f:Nat,f<=E/\E<=f+3/\(f=0∨f+3=E):=⟨E-3,z,z,z⟩;have C:max ((E:Int)-3) 0=(f:Int):=z;rw[M];have ad:0<(E:Int):=z;have ae:(E:Int)<=16:=z
   go_wp2;go_loop [5,6] (fun d k=>∃m:Nat,f<=m/\m<=E/\k=.int .i64 m/\d=.int .i64 (aT ((t.data.toList.drop f).take (m-f)))) (fun _ k=>E-(RowKit.intOf k).toNat);case atStart=>exact⟨f,aZ _,z,by first|rfl|(rw[←C])|(simp[←C]),by simp[aT]⟩
   case round=>
    obtain⟨m,x,r',rfl,rfl⟩:=hrel;by_cases ag:m<E
    ·have O:m<t.size:=z;have A:aT ((t.data.toList.drop f).take (m-f))<65536:=by
      have H:=wd ((t.data.toList.drop f).take (m-f));have I:((t.data.toList.drop f).take (m-f)).length<=2:=by rw[n_];omega
      have af:256^((t.data.toList.drop f).take (m-f)).length<=256^2:=ks z I;have aM:(256:Nat)^2=65536:=ai;omega
     have Q:=G (aqo t f m x O);have ab:=M4 t[m];generalize J:aT ((t.data.toList.drop f).take (m-f))=v at*;clear J
     go_wp2;go_round;case rel=>exact⟨m+1,z,z,bM,by rw[Q.out];go_num⟩
     case measure=>simp[RowKit.intOf];omega
    ·obtain rfl:m=E:=z;have A:aT ((t.data.toList.drop f).take (m-f))<16777216:=aqk (by rw[n_];omega);have hcut:=G (aqn t.data.toList f m j x z z);have V:=G b;clear b;generalize J:aT ((t.data.toList.drop f).take (m-f))=v at*;clear J
     go_wp2_with (at_builtin;refine lP _ rfl _ _ 22 rfl w.heap.size 3 S (.int .i64 0) 1 8 underlying22 kw m8 X Z rfl ai _ _ _ rfl (c.alloc _) ⟨n.heap.size,0,none⟩ 1 1 [_] rfl rfl (wQ _ _ _) (by simp[Value.oneCell']) (by unfold maxLen;omega) z (by have:=a.size;simp;omega) ?_;intro dO R q r _);have U:Below w.heap.size w R:=(a.alloc a.size _).grown r (by have:=a.size;simp;omega) (up c);have Y:=G q;clear q r
     go_wp2;refine⟨⟨j+1,l++[v],bM,z,by simp[g],?_,u.vA A,by rw[Dm];exact Y.out,U⟩,by simp[RowKit.intOf];omega⟩;have ak:t.size-3*j=m:=z;have L:t.size-3*(j+1)=f:=z;rw[Ic,g,V.out,ak,L,hcut.out]
  ·have P:t.size-3*j=0:=z;have dx:(t.size:Int)-3*(j:Int)<=0:=z;rw[P,HP,T.1]at b
   go_wp2;go_ret;refine⟨⟨_,l,rfl,l_.g0 (base:=w.heap.size) (by rw[g];exact c),b,u,z,fun k K=>?_⟩,a⟩;have:=T.2 (3*k) K;omega
theorem l_.take{w:World}{a:Option Addr}{c:Nat}{l:List Nat}(h:l_ w (.slice a l.length c) l)(k:Nat)(r:k<=l.length)(e:∃g,a=some ⟨g,0,none⟩):l_ w (.slice a k c) (l.take k):=by
 obtain⟨m,rfl⟩:=e;obtain⟨s,b⟩:=h;have d:(l.take k).length=k:=by rw[n_];omega
 refine⟨by simp[ow],.inr ?_⟩;rcases b with⟨b,_⟩|⟨g,cap,j,ak,f,i,t,n,o,q⟩
 ·cases b
 ·simp only[Cl,cb,Addr.mk.injEq]at ak;obtain⟨⟨rfl,_⟩,_,rfl⟩:=ak;refine⟨m,c,j,by rw[d],f,i,z,n,o,?_⟩;rw[d];have:ow (l.take k)=(ow l).take k:=by simp[ow]
  rw[this,←q,List.take_take];congr 1;omega
theorem an5(l:List Nat)(k:Nat)(h:k<l.length)(a:l[k]=0):D (l.take k)=D (l.take (k+1)):=by
 rw[Sa l k h,a];omega
def ap_(w:World)(l:List Nat)(e:Ending):Prop:=∃b a,e=.returned b/\l_ w b a/\D a=D l/\lx a/\a.length<=l.length
theorem aDM(v:Value)(l:List Nat)(w:World)(h:l_ w v l)(j':lx l):Calls prog 290 #[v] w fun e w'=>ap_ w l e/\w=w':=by
 obtain⟨a,cap,rfl,n,s,pN,hZ⟩:=h.open;unfold maxLen at n;go_enter func290,ntmps290
 go_wp2;go_loop [0] (fun v=>∃k:Nat,k<=l.length/\v=.slice a k cap/\Hid (D (l.take k)=D l)) (fun v=>match v with|.slice _ k _=>k|_=>0);case atStart=>exact⟨l.length,aZ _,rfl,by rw[tt (aZ _)];exact rfl⟩
 case round=>
  obtain⟨k,d,rfl,ev⟩:=hrel;by_cases o:0<k
  ·obtain⟨g,rfl,q⟩:=pN z;have f:=hZ g rfl (k-1) z;have t:(0:Int)<=(k:Int)-1:=z;have u:((k:Int)-1)<k:=z;have i3:((k:Int)-1).toNat=k-1:=z;have x:(k:Int)<=cap:=z;by_cases c:l[k-1]'z=0
   ·have b:=an5 l (k-1) z c;have e:k-1+1=k:=z;rw[e,ev.out]at b;have j:=G b;rw[c]at f;clear b c hZ pN
    go_wp2;go_round;case rel=>exact⟨k-1,z,bM,j⟩
    case measure=>simp;omega
   ·have r:(((l[k-1]'z:Nat):Int)==0)=false:=by rw[l8];omega
    have dC:=G (h.take k d ⟨g,rfl⟩);exact ai7
  ·obtain rfl:k=0:=z;have dC:Hid (l_ w (.slice a 0 cap) (l.take 0)):=by
    rcases RR l.length with e|e
    ·have i:=yK e;subst i;exact h
    ·obtain⟨g,m,_⟩:=pN e;exact h.take 0 d ⟨g,m⟩
   exact ai7
def co(d:Nat):List Int:=[((d/65536%256:Nat):Int),((d/256%256:Nat):Int),((d%256:Nat):Int)]
def bT:List Nat->List Int
 |[]=>[]
 |d::l=>bT l++co d
theorem arb(l:List Nat):(bT l).map (fun x=>UInt8.ofNat x.toNat)=H8 l:=by
 induction l with
 |nil=>rfl
 |cons d l a=>simp only[bT,H8,w1,a];rfl
theorem TC(l:List Nat):(bT l).length=3*l.length:=by
 induction l with
 |nil=>rfl
 |cons d l a=>simp[bT,co,a];omega
theorem arc(l:List Nat)(k:Nat)(h:k<l.length):bT (l.drop k)=bT (l.drop (k+1))++co l[k]:=by
 rw[EY h];rfl
theorem ay3(w:World)(t:TypeId)(x y ae:Value):∀(j:Nat) (u:Value),[x,y,ae][j]? =some u->(w.alloc (.cells #[x,y,ae] t)).cell? ((⟨w.heap.size,0,none⟩:Addr).add j)=some u:=by
 intro j u a;rcases j with _|_|_|j
 ·simp at a;subst a;exact aS 0 (da w _)
 ·simp at a;subst a;exact aS 1 (da w _)
 ·simp at a;subst a;exact aS 2 (da w _)
 ·simp at a
theorem Mu(n:Nat):IntKind.u8.wrap (n:Int)=((n%256:Nat):Int):=by first|rfl|(simp[IntKind.wrap];done)|(simp[IntKind.wrap];omega)
theorem az8{w:World}{base k:Nat}{v:Value}{aK:List Value}{a b c d f g:Int}(h:w.ownsRow base 5 1 v k (aK++[.int .u8 a,.int .u8 b,.int .u8 c]))(e:a=d)(i:b=f)(j:c=g):w.ownsRow base 5 1 v k (aK++[.int .u8 d,.int .u8 f,.int .u8 g]):=e▸i▸j▸h
theorem XU(v:Value)(l:List Nat)(w:World)(h:l_ w v l)(A:lx l)(eN:l.length<=8):Calls prog 90 #[v] w fun e w'=>hc (D l) e/\Below w.heap.size w w':=by
 obtain⟨U,kw,m8,Y,kU⟩:=jt PM;obtain⟨a,cap,rfl,X,dx,s,o⟩:=h.open;unfold maxLen at X;have k:=fun(w:World) (l c:Nat)=>RF (P:=prog) (w:=w) 230 5 underlying230 underlying5 l c;have u:=fun(w:World) (l c:Nat)=>k w l c 91 underlying91;go_enter func90,ntmps90
 go_wp2;go_loopw [3,4] (fun v i wr=>∃j:Nat,j<=l.length/\i=.int .i64 ((j:Int)-1)/\wr.ownsRow w.heap.size 5 1 v (3*(l.length-j)) ((bT (l.drop j)).map (Value.int .u8))/\Below w.heap.size w wr) (fun _ i _=>(RowKit.intOf i+1).toNat);case atStart=>exact⟨l.length,aZ _,rfl,by rw[anA (aZ _),Nat.sub_self];exact mo _ _ _ _,bi _ _⟩
 case round=>
  obtain⟨j,aa,rfl,f,b⟩:=hrel;by_cases aq:0<j
  ·obtain⟨m,rfl⟩:∃m,j=m+1:=⟨j-1,z⟩;obtain⟨g,rfl,O⟩:=s z;have B:=o g rfl m z;have M:wr.cell? ⟨g,m,none⟩=some (.int .i64 ((l[m]'z:Nat):Int)):=by rw[b.cell O];exact B
   have hd:=A _ (fM (l:=l) (n:=m) z);have K:=G (arc l m z);generalize L:l[m]'z=d at*;clear L B;have g4:(0:Int)<=((m+1:Nat):Int)-1:=z;have gx:((m+1:Nat):Int)-1<l.length:=z;have i3:(((m+1:Nat):Int)-1).toNat=m:=z;have mI:((m+1:Nat):Int)-1=(m:Int):=z;rw[mI];have ul:(0:Int)<=(m:Int):=z;have si:(m:Int)<l.length:=z
   go_wp2
   go_region_law (first
    |(refine HL _ (by rfl) _ _ _ (by rfl) w.heap.size 5 U _ 1 1 underlying230 kw m8 Y kU rfl ai _ (3*(l.length-(m+1))) _ (by rfl) (aa1 (World.ownsRow.drew f) _) ⟨wr.heap.size,0,none⟩ 3 3 [_,_,_] (by rfl) rfl (ay3 _ _ _ _ _) (by simp[Value.oneCell']) ai (by unfold maxLen;omega) z (by have:=b.size;simp;omega) (wr.heap.size+1) am ?_;intro S sR w7 q E V V_))
   all_goals
    have uC:Below w.heap.size w w7:=(b.drew.alloc b.size _).grown E (by have:=b.size;simp;omega) (up f);have r:3*(l.length-(m+1))+3=3*(l.length-m):=z;have Q:Hid (w7.ownsRow w.heap.size 5 1 (.slice (some ⟨S,0,none⟩) (3*(l.length-m)) sR) (3*(l.length-m)) ((bT (l.drop m)).map (Value.int .u8))):=by rw[K.out,w1];rw[r]at q;exact az8 q (Mu (d/65536)) (Mu (d/256)) (Mu d)
    rw[r];clear q E k u o s V M f r
    go_wp2;exact⟨⟨m,z,bM,Q,uC⟩,by simp[RowKit.intOf]⟩
  ·obtain rfl:j=0:=z;rw[HP,abh]at f;obtain⟨N,Z⟩:=f;rcases Z with⟨rfl,ab⟩|⟨g,wh,cj,rfl,jR,C,af,ae,W,F⟩
   ·have H:=yK (show l.length=0 by omega);subst H
    go_wp2_with (go_at_call 172;refine(xu _ _ (by simp[maxLen])).mono ?_;rintro e w' ⟨⟨t,rfl,T⟩,rfl⟩);go_ret;exact⟨⟨t,rfl,T⟩,b⟩
   ·have x:=akR (bT l) (TC l) C F;have ad:=MP (P:=prog) wr 230 5 underlying230 underlying5 g 0 (3*l.length) wh (bT l) (TC l) x 91 underlying91;have J:aT (strOfNums (bT l)).data.toList=D l:=by rw[RH,arb];exact aqm A
    have R:=G J;have y:(strOfNums (bT l)).size=3*l.length:=by rw[MQ,TC]
    have I:=G y;clear y x C W F N k u o s J
    go_wp2_with (go_at_call 172;refine(xu _ _ (by rw[I.out];unfold maxLen;omega)).mono ?_;rintro e w' ⟨⟨t,rfl,T⟩,rfl⟩);go_ret;rw[R.out]at T;exact⟨⟨t,rfl,T⟩,b⟩
def tU(l:List Nat)(k:Nat):Nat:=l.getD k 0
theorem Oq{l:List Nat}(h:lx l)(k:Nat):tU l k<16777216:=by
 unfold tU;rw[pm];rcases vI k l.length with a|a
 ·rw[ln a];exact h _ (fM a)
 ·rw[E0 a];decide
theorem F5{l:List Nat}{k:Nat}(h:k<l.length):tU l k=l[k]:=by
 unfold tU;rw[pm,ln h];rfl
theorem JR{l:List Nat}{k:Nat}(h:¬k<l.length):tU l k=0:=by
 unfold tU;rw[pm,E0 z];rfl
theorem Nd(l:List Nat)(k:Nat):D (l.take (k+1))=D (l.take k)+16777216^k*tU l k:=by
 rcases vI k l.length with a|a
 ·rw[Sa l k a,F5 a]
 ·rw[tt z,tt a,JR z];omega
theorem an4(l:List Nat)(n:Nat)(h:D l<16777216^n):D (l.take n)=D l:=by
 rcases vI n l.length with a|a
 ·have e:=abz (l.take n) (l.drop n);rw[yR,n_,M1 (Ct a)]at e;rcases RR (D (l.drop n))with ab|ab
  ·rw[e,ab];omega
  ·have:16777216^n<=16777216^n*D (l.drop n):=anS _ ab;omega
 ·rw[tt a]
theorem ayE{a b l:List Nat}{x:Nat}(c:lx a)(g:lx l)(d:l.length=a.length)(e:D b<=D a)(h:x<=1)(f:D l+D (b.take a.length)=D (a.take a.length)+16777216^a.length*x):D l=D a-D b:=by
 have H:=abA c;have I:=abA g;rw[d]at I;rw[an4 b _ (p2 e H),tt (aZ _)]at f;rcases(show x=0∨x=1 by omega)with rfl|rfl<;>omega
def apW(N:Nat)(m:Nat)(e:Ending)(w':World):Prop:=∃v l,e=.returned v/\l_ w' v l/\D l=N/\lx l/\l.length<=m
theorem ayD(u v:Value)(a b:List Nat)(w:World)(hu:l_ w u a)(J:l_ w v b)(K:lx a)(bJ:lx b)(eN:a.length<=8)(ad:b.length<=8)(T:D b<=D a):Calls prog 293 #[u,v] w fun e w'=>apW (D a-D b) a.length e w'/\Below w.heap.size w w':=by
 obtain⟨ex,kw,m8,jg,kU⟩:=jt PL;obtain⟨aP,ca,rfl,V,Pl,m,n⟩:=hu.open;obtain⟨dJ,ed,rfl,U,kx,j,q⟩:=J.open;unfold maxLen at V U;clear hu J;go_enter func293,ntmps293
 go_wp2;go_loopw [5,6,7] (fun o c i wr=>∃(k x:Nat) (l:List Nat),k<=a.length/\x<=1/\i=.int .i64 k/\c=.int .i64 x/\l.length=k/\lx l/\D l+D (b.take k)=D (a.take k)+16777216^k*x/\wr.ownsRow w.heap.size 3 1 o k (ow l)/\Below w.heap.size w wr) (fun _ _ i _=>a.length-(RowKit.intOf i).toNat);case atStart=>exact⟨0,0,[],z,z,rfl,rfl,rfl,lx.nil,by simp[D],by simpa[ow]using mo w w.heap.size 3 1,bi _ _⟩
 case round=>
  obtain⟨k,x,l,ab,O,rfl,rfl,dh,j',g,cQ,bc⟩:=hrel;by_cases aq:k<a.length
  ·obtain⟨M,rfl,N⟩:=m z;have aa:wr.cell? ⟨M,k,none⟩=some (.int .i64 ((a[k]'aq:Nat):Int)):=by rw[bc.cell N];exact n M rfl k aq
   have ul:(0:Int)<=(k:Int):=z;have si:(k:Int)<a.length:=z;have r:=Nd a k;have F:=Nd b k;have ju:=Oq K k;have B:=Oq bJ k;rw[F5 aq]at r ju;have C:16777216^(k+1)=16777216^k*16777216:=w4 ..;have key:∀d f:Nat,d+tU b k+x=a[k]+16777216*f->D (l++[d])+D (b.take (k+1))=D (a.take (k+1))+16777216^(k+1)*f:=fun d f h=>by
    rw[Ic,dh,r,F,C];have H:16777216^k*(d+tU b k+x)=16777216^k*(a[k]+16777216*f):=by rw[h]
    simp only[Cw]at H;have I:16777216^k*(16777216*f)=16777216^k*16777216*f:=by rw[Cx]
    omega
   have qP:=G key;have Fi:=G g;clear r F key C g;generalize E:a[k]'aq=y at*;by_cases A:k<b.length
   ·obtain⟨L,rfl,X⟩:=j z;have Bn:wr.cell? ⟨L,k,none⟩=some (.int .i64 ((b[k]'A:Nat):Int)):=by rw[bc.cell X];exact q L rfl k A
    rw[F5 A]at qP B;generalize Q:b[k]'A=ae at*;have Y:(k:Int)<b.length:=z;clear E Q n q m j;by_cases W:y<ae+x
    ·have s:(y:Int)-(x:Int)-(ae:Int)<0:=z;obtain⟨d,hd⟩:∃d:Nat,d+ae+x=y+16777216:=⟨y+16777216-ae-x,z⟩;have t:(y:Int)-(x:Int)-(ae:Int)+16777216=(d:Int):=z;exact aiW
    ·have s:¬((y:Int)-(x:Int)-(ae:Int)<0):=z;obtain⟨d,hd⟩:∃d:Nat,d+ae+x=y:=⟨y-ae-x,z⟩;have t:(y:Int)-(x:Int)-(ae:Int)=d:=z;exact ajQ
   ·rw[JR A]at qP B;have Y:¬(k:Int)<b.length:=z;clear E n q m j;by_cases W:y<x
    ·have s:(y:Int)-(x:Int)<0:=z;obtain⟨d,hd⟩:∃d:Nat,d+x=y+16777216:=⟨y+16777216-x,z⟩;have t:(y:Int)-(x:Int)+16777216=(d:Int):=z;exact aiW
    ·have s:¬((y:Int)-(x:Int)<0):=z;obtain⟨d,hd⟩:∃d:Nat,d+x=y:=⟨y-x,z⟩;have t:(y:Int)-(x:Int)=d:=z;exact ajQ
  ·obtain rfl:k=a.length:=z;have R:=G (ayE K j' dh T O g);have S:Hid (l_ wr u5 l):=l_.g0 (base:=w.heap.size) (by rw[dh];exact cQ);clear g n q m j cQ
   go_wp2_with (go_at_call 290;refine(aDM _ l _ S.out j').mono ?_;rintro e w' ⟨⟨dO,Z,rfl,H,I,P,aM⟩,rfl⟩);go_ret;exact⟨⟨dO,Z,rfl,H,I.trans R.out,P,z⟩,bc⟩
theorem adW:∀(a b:List UInt8),a.length=b.length->Op.bytesLess a b=decide (aT a<aT b)
 |[],[],_=>by simp[Op.bytesLess,aT]
 |x::a,y::b,h=>by
  have d:a.length=b.length:=by simpa using h
  have g:=adW a b d
  have H:=wd a
  have I:=wd b
  rw[←d]at I
  simp only[Op.bytesLess,g]
  rw[xp,xp,←d]
  generalize 256^a.length=p at*
  rcases RU x.toNat y.toNat with c|c|c
  ·have ak:x<y:=c
   have:(x.toNat+1)*p<=y.toNat*p:=oU _ c
   rw[vH]at this
   have f:x.toNat*p+aT a<y.toNat*p+aT b:=z
   simp[ak,f]
  ·have ak:x=y:=RX.1 c
   subst ak
   have e:¬x<x:=fun h=>H1 _ h
   simp[e]
  ·have ak:¬x<y:=fun h=>Nat.lt_asymm c h
   have e:¬x=y:=fun h=>by rw[h]at c;exact H1 _ c
   have:(y.toNat+1)*p<=x.toNat*p:=oU _ c
   rw[vH]at this
   have f:¬x.toNat*p+aT a<y.toNat*p+aT b:=z
   simp[ak,e,f]
theorem ac_:∀(a b:List UInt8),a.length=b.length->aT a=aT b->a=b
 |[],[],_,_=>rfl
 |x::a,y::b,h,J=>by
  have d:a.length=b.length:=by simpa using h
  have H:=wd a
  have I:=wd b
  rw[xp,xp,←d]at J
  rw[←d]at I
  generalize 256^a.length=p at*
  have e:x.toNat=y.toNat:=by
   rcases RU x.toNat y.toNat with c|c|c
   ·have:(x.toNat+1)*p<=y.toNat*p:=oU _ c
    rw[vH]at this
    omega
   ·exact c
   ·have:(y.toNat+1)*p<=x.toNat*p:=oU _ c
    rw[vH]at this
    omega
  rw[e]at J
  have:=ac_ a b d z
  rw[RX.1 e,this]
theorem dm.aiK{s t:ByteArray}{m n:Nat}(a:dm s m)(ah:dm t n)(h:s.size<t.size):m<n:=by
 rcases vI m n with H|H
 ·exact H
 ·have:=ah.2 s.size (p2 H a.lt);omega
theorem dm.Xe{s t:ByteArray}{m n:Nat}(a:dm s m)(ah:dm t n)(h:((s.size:Int) !=(t.size:Int))=false):Op.bytesLess s.toList t.toList=decide (m<n):=by
 have b:s.size=t.size:=by simp at h;omega
 rw[yI,yI,adW _ _ (by rw[ji,ji];exact b),a.1,ah.1]
theorem dm.same{s t:ByteArray}{m n:Nat}(a:dm s m)(ah:dm t n)(h:((s.size:Int) !=(t.size:Int))=false):(!s.toList==t.toList)=decide (m≠n):=by
 have b:s.size=t.size:=by simp at h;omega
 rw[yI,yI];by_cases e:m=n
 ·have:s.data.toList=t.data.toList:=ac_ _ _ (by rw[ji,ji];exact b) (by rw[a.1,ah.1,e]);rw[this];simp[e]
 ·have:¬s.data.toList=t.data.toList:=fun h=>e (by rw[←a.1,←ah.1,h]);have I:(s.data.toList==t.data.toList)=false:=by rw[l8];exact this
  rw[I];simp[e]
def xx(m n:Nat):Int:=if m<n then-1 else if n<m then 1 else 0
def CY(m n:Nat)(e:Ending):Prop:=e=.returned (.int .i64 (xx m n))
theorem JG(a b:ByteArray)(m n:Nat)(w:World)(g:dm a m)(A:dm b n)(i:m<256^16)(j:n<256^16):Calls prog 618 #[.string a,.string b] w fun e w'=>CY m n e/\w=w':=by
 have l:=G fun w=>A4 a m w g i;have k:=G fun w=>A4 b n w A j;clear g A;go_enter func618,ntmps618
 go_wp2_with (first
  |(go_at_call 172;((with_reducible refine(l.out _).mono ?_);rintro e w' ⟨⟨s,rfl,c⟩,rfl⟩;have zs:s.size<=16:=c.2 16 i))
  |(go_at_call 172;((with_reducible refine(k.out _).mono ?_);rintro e w' ⟨⟨t,rfl,ah⟩,rfl⟩;have q:t.size<=16:=ah.2 16 j)))
 all_goals go_ret
 all_goals refine⟨?_,rfl⟩
 ·rename_i H _ _ _ I;have:=c.aiK ah I;show Ending.returned _=_;unfold xx;rw[cv this];rfl
 ·rename_i H I;have:=ah.aiK c (by simp at H;omega);show Ending.returned _=_;unfold xx;rw[bn z,cv this];rfl
 ·skip
  have H:((s.size:Int) !=(t.size:Int))=false:=by assumption
  have I:Op.bytesLess s.toList t.toList=true:=by assumption
  rw[c.Xe ah H]at I;have:=anU I;show Ending.returned _=_;unfold xx;rw[cv this];rfl
 ·skip
  have H:((s.size:Int) !=(t.size:Int))=false:=by assumption
  have I:Op.bytesLess s.toList t.toList=false:=by assumption
  have d:(!s.toList==t.toList)=true:=by assumption
  rw[c.Xe ah H]at I;rw[c.same ah H]at d;have f:=abo I;have o:=anU d;show Ending.returned _=_;unfold xx;rw[bn f,cv z];rfl
 ·skip
  have H:((s.size:Int) !=(t.size:Int))=false:=by assumption
  have I:Op.bytesLess s.toList t.toList=false:=by assumption
  have d:(!s.toList==t.toList)=false:=by assumption
  rw[c.Xe ah H]at I;rw[c.same ah H]at d;have f:=abo I;have o:=abo d;show Ending.returned _=_;unfold xx;rw[bn f,bn z];rfl
def aoo(n:Nat)(e:Ending):Prop:=∃t:ByteArray,e=.returned (.tuple #[.string t,.bool true])/\dm t n
theorem Rb(a b:ByteArray)(m n:Nat)(w:World)(d:dm a m)(A:dm b n)(f:m<256^16)(j:n<=m):Calls prog 619 #[.string a,.string b] w fun e w'=>aoo (m-n) e/\Below w.heap.size w w':=by
 have i:n<256^16:=p2 j f;have y:=G fun w=>JG a b m n w d A f i;have r:=G fun w=>F6 a m w d f;have D:=G fun w=>F6 b n w A i;have I:decide (xx m n<0)=false:=by unfold xx;rw[bn z];split<;>decide
 clear d A;go_enter func619,ntmps619
 go_wp2_with (first
  |(go_at_call 618;((with_reducible refine(y.out _).mono ?_);rintro e w' ⟨rfl,rfl⟩))
  |(go_at_call 89;((with_reducible refine(r.out _).mono ?_);rintro e K ⟨⟨u,l,rfl,B,k,E,O,P⟩,g⟩))
  |(go_at_call 89;((with_reducible refine(D.out _).mono ?_);rintro e J ⟨⟨u2,cL,rfl,C,o,H,Q,f5⟩,c⟩))
  |(go_at_call 293;((with_reducible refine(ayD _ _ l cL _ (B.U c) C E H z z (by rw[k,o];exact j)).mono ?_);rintro e M ⟨⟨u3,hp,rfl,q,x,s,N⟩,co⟩))
  |(go_at_call 90;((with_reducible refine(XU _ hp _ q s z).mono ?_);rintro e L ⟨⟨t,rfl,ah⟩,F⟩)))
 go_ret2
 rw[x,k,o]at ah;exact⟨⟨t,rfl,ah⟩,((b_ g c).trans (co.mono (db g.size c.size))).trans (F.mono (db (db g.size c.size) co.size))⟩
theorem aqL{p b a Z y ae x s:Nat}(d:b+p*x=a+Z)(c:s=x+y+ae):b+p*(s%16777216)+p*16777216*(s/16777216)=(a+p*y)+(Z+p*ae):=by
 have H:p*(s%16777216)+p*16777216*(s/16777216)=p*s:=by rw[Cx,←Cw];congr 1;omega
 have I:p*s=p*x+p*y+p*ae:=by rw[c,Cw,Cw]
 omega
theorem abB{l:List Nat}{k:Nat}(h:l.length<=k):D (l.take k)=D l:=by rw[tt h]
def NR(a:ByteArray)(m:Nat)(p:Bool)(x:Nat):Prop:=∀w,Calls prog 88 #[.string a,.int .i64 7] w fun e w'=>e=.returned (.tuple #[.int .i64 x,.bool p])/\w=w'
theorem aqJ(a b:ByteArray)(m n:Nat)(p q:Bool)(fj el:Nat)(w:World)(aH:dm a m)(A:dm b n)(an:m<256^16)(aw:n<256^16)(c1:NR a m p fj)(c2:NR b n q el)(Pt:(p&&q)=false):Calls prog 41 #[.string a,.string b] w fun e w'=>hc (m+n) e/\Below w.heap.size w w':=by
 obtain⟨W,Z,m8,X,Y⟩:=jt PL;unfold NR at c1 c2;have bk:=G c1;have bK:=G c2;have h6:=G fun w=>F6 a m w aH an;have k1:=G fun w=>F6 b n w A aw;clear c1 c2 aH A;go_enter func41,ntmps41;cases p<;>cases q<;>try(cases Pt;done)
 all_goals
  go_wp2_with (first
   |(go_at_call 88;((with_reducible refine(bk.out _).mono ?_);rintro e w' ⟨rfl,rfl⟩))
   |(go_at_call 88;((with_reducible refine(bK.out _).mono ?_);rintro e w' ⟨rfl,rfl⟩))
   |(go_at_call 89;((with_reducible refine(h6.out _).mono ?_);rintro e ap ⟨⟨u,K,rfl,et,fA,bd,lV,np⟩,bN⟩))
   |(go_at_call 89;((with_reducible refine(k1.out _).mono ?_);rintro e f ⟨⟨u2,g,rfl,g2,hg,bJ,u',f5⟩,bF⟩)))
  have A6:=et.U bF;have eT:Below w.heap.size w f:=b_ bN bF;obtain⟨aP,ca,rfl,o7,Pl,R,S⟩:=A6.open;obtain⟨dJ,ed,rfl,l1,kx,O,P⟩:=g2.open;unfold maxLen at o7 l1;have lu:=G eT;clear et g2 A6 bk bK h6 k1 bN bF eT;go_loopw [11,12,13] (fun o c i wr=>∃(k x:Nat) (l:List Nat),k<=7/\x<=1/\(6<k->x=0)/\i=.int .i64 k/\c=.int .i64 x/\l.length=k/\lx l/\D l+16777216^k*x=D (K.take k)+D (g.take k)/\wr.ownsRow f.heap.size 3 1 o k (ow l)/\Below f.heap.size f wr) (fun _ _ i _=>8-(RowKit.intOf i).toNat);case atStart=>exact⟨0,0,[],z,z,z,rfl,rfl,rfl,lx.nil,by simp[D],by simpa[ow]using mo f f.heap.size 3 1,bi _ _⟩
  case round=>
   obtain⟨k,x,l,ad,af,ag,rfl,rfl,Q,U,ev,J,d⟩:=hrel;have ju:=Oq bd k;have V:=Oq bJ k;have JX:16777216^(k+1)=16777216^k*16777216:=w4 ..;have key:∀s:Nat,s=x+tU K k+tU g k->D (l++[s%16777216])+16777216^(k+1)*(s/16777216)=D (K.take (k+1))+D (g.take (k+1)):=fun s h=>by rw[Ic,Q,Nd K k,Nd g k,JX];exact aqL ev h
   have F:=G key;have Fi:=G ev;have ul:(0:Int)<=(k:Int):=z;clear key JX ev;by_cases H:k<K.length
   ·obtain⟨wm,rfl,KL⟩:=R z;have aa:wr.cell? ⟨wm,k,none⟩=some (.int .i64 ((K[k]'H:Nat):Int)):=by rw[d.cell KL];exact S wm rfl k H
    have si:(k:Int)<K.length:=z;rw[F5 H]at F ju;generalize aR:K[k]'H=y at*;by_cases I:k<g.length
    ·obtain⟨T,rfl,r8⟩:=O z;have Bn:wr.cell? ⟨T,k,none⟩=some (.int .i64 ((g[k]'I:Nat):Int)):=by rw[d.cell r8];exact P T rfl k I
     have sj:(k:Int)<g.length:=z;rw[F5 I]at F V;generalize ax:g[k]'I=ae at*;clear aR ax S P R O;obtain⟨r,B⟩:∃r:Nat,Hid (r=(x+y+ae)%16777216):=⟨_,rfl⟩;obtain⟨c,j⟩:∃c:Nat,Hid (c=(x+y+ae)/16777216):=⟨_,rfl⟩;have cg:((x:Int)+(y:Int)+(ae:Int):Int)%16777216=(r:Int):=by have:=B.out;omega
     have jq:((x:Int)+(y:Int)+(ae:Int):Int)/16777216=(c:Int):=by have:=j.out;omega
     have ph:(0:Int)<=(x:Int)+(y:Int)+(ae:Int):=z;have qB:(x:Int)+(y:Int)+(ae:Int)<16777216*3:=z
     go_wp2_with (at_builtin;refine lP _ rfl _ _ 22 rfl f.heap.size 3 W (.int .i64 0) 1 8 underlying22 Z m8 X Y rfl ai _ _ _ rfl (J.alloc _) ⟨wr.heap.size,0,none⟩ 1 1 [_] rfl rfl (wQ _ _ _) (by simp[Value.oneCell']) (by unfold maxLen;omega) z (by have:=d.size;simp;omega) ?_;intro dO L C E _;have M:Below f.heap.size f L:=((d.alloc d.size _).grown E (by have:=d.size;simp;omega) (up J));have N:=G C;clear C E);exact⟨⟨k+1,c,l++[r],z,by have:=j.out;omega,by have:=j.out;omega,bM,bM,by simp[Q],U.vA (by have:=B.out;omega),by rw[B.out,j.out];exact F.out _ z,by rw[Dm];exact N.out,M⟩,by simp[RowKit.intOf];omega⟩
    ·have sj:¬(k:Int)<g.length:=z;rw[JR I]at F V;clear aR S P R O;obtain⟨r,B⟩:∃r:Nat,Hid (r=(x+y)%16777216):=⟨_,rfl⟩;obtain⟨c,j⟩:∃c:Nat,Hid (c=(x+y)/16777216):=⟨_,rfl⟩;have cg:((x:Int)+(y:Int):Int)%16777216=(r:Int):=by have:=B.out;omega
     have jq:((x:Int)+(y:Int):Int)/16777216=(c:Int):=by have:=j.out;omega
     have ph:(0:Int)<=(x:Int)+(y:Int):=z;have qB:(x:Int)+(y:Int)<16777216*3:=z
     go_wp2_with (at_builtin;refine lP _ rfl _ _ 22 rfl f.heap.size 3 W (.int .i64 0) 1 8 underlying22 Z m8 X Y rfl ai _ _ _ rfl (J.alloc _) ⟨wr.heap.size,0,none⟩ 1 1 [_] rfl rfl (wQ _ _ _) (by simp[Value.oneCell']) (by unfold maxLen;omega) z (by have:=d.size;simp;omega) ?_;intro dO L C E _;have M:Below f.heap.size f L:=((d.alloc d.size _).grown E (by have:=d.size;simp;omega) (up J));have N:=G C;clear C E);exact⟨⟨k+1,c,l++[r],z,by have:=j.out;omega,by have:=j.out;omega,bM,bM,by simp[Q],U.vA (by have:=B.out;omega),by rw[B.out,j.out];exact F.out _ z,by rw[Dm];exact N.out,M⟩,by simp[RowKit.intOf];omega⟩
   ·have si:¬(k:Int)<K.length:=z;rw[JR H]at F ju;by_cases I:k<g.length
    ·obtain⟨T,rfl,r8⟩:=O z;have Bn:wr.cell? ⟨T,k,none⟩=some (.int .i64 ((g[k]'I:Nat):Int)):=by rw[d.cell r8];exact P T rfl k I
     have sj:(k:Int)<g.length:=z;rw[F5 I]at F V;generalize ax:g[k]'I=ae at*;clear ax S P R O;obtain⟨r,B⟩:∃r:Nat,Hid (r=(x+ae)%16777216):=⟨_,rfl⟩;obtain⟨c,j⟩:∃c:Nat,Hid (c=(x+ae)/16777216):=⟨_,rfl⟩;have cg:((x:Int)+(ae:Int):Int)%16777216=(r:Int):=by have:=B.out;omega
     have jq:((x:Int)+(ae:Int):Int)/16777216=(c:Int):=by have:=j.out;omega
     have ph:(0:Int)<=(x:Int)+(ae:Int):=z;have qB:(x:Int)+(ae:Int)<16777216*3:=z
     go_wp2_with (at_builtin;refine lP _ rfl _ _ 22 rfl f.heap.size 3 W (.int .i64 0) 1 8 underlying22 Z m8 X Y rfl ai _ _ _ rfl (J.alloc _) ⟨wr.heap.size,0,none⟩ 1 1 [_] rfl rfl (wQ _ _ _) (by simp[Value.oneCell']) (by unfold maxLen;omega) z (by have:=d.size;simp;omega) ?_;intro dO L C E _;have M:Below f.heap.size f L:=((d.alloc d.size _).grown E (by have:=d.size;simp;omega) (up J));have N:=G C;clear C E);exact⟨⟨k+1,c,l++[r],z,by have:=j.out;omega,by have:=j.out;omega,bM,bM,by simp[Q],U.vA (by have:=B.out;omega),by rw[B.out,j.out];exact F.out _ z,by rw[Dm];exact N.out,M⟩,by simp[RowKit.intOf];omega⟩
    ·have sj:¬(k:Int)<g.length:=z;rw[JR I]at F V;by_cases ab:x=0
     ·have cP:Hid (D l=m+n):=by have:=Fi.out;rw[abB z,abB z,fA,hg,ab]at this;show D l=m+n;omega
      have cV:Hid (l_ wr u11 l):=l_.g0 (base:=f.heap.size) (by rw[Q];exact J);subst ab;clear S P R O J F Fi
      go_wp2_with (go_at_call 90;refine(XU _ l _ cV.out U z).mono ?_;rintro e bh ⟨⟨t,rfl,ah⟩,nQ⟩);go_ret;rw[cP.out]at ah;exact⟨⟨t,rfl,ah⟩,(b_ lu.out d).trans (nQ.mono (db lu.out.size d.size))⟩
     ·obtain rfl:x=1:=z;clear S P R O
      go_wp2_with (at_builtin;refine lP _ rfl _ _ 22 rfl f.heap.size 3 W (.int .i64 0) 1 8 underlying22 Z m8 X Y rfl ai _ _ _ rfl (J.alloc _) ⟨wr.heap.size,0,none⟩ 1 1 [_] rfl rfl (wQ _ _ _) (by simp[Value.oneCell']) (by unfold maxLen;omega) z (by have:=d.size;simp;omega) ?_;intro dO L C E _;have M:Below f.heap.size f L:=((d.alloc d.size _).grown E (by have:=d.size;simp;omega) (up J));have N:=G C;clear C E);exact⟨⟨k+1,0,l++[1],z,z,z,bM,bM,by simp[Q],U.vA z,F.out 1 z,by rw[Dm];exact N.out,M⟩,by simp[RowKit.intOf];omega⟩
theorem amj(a:ByteArray)(m:Nat)(b:dm a m)(c:m<256^16):∃p x,NR a m p x/\(p=true↔m<256^7):=by
 by_cases h:m<256^7
 ·exact⟨true,m,fun w=>uu a m 7 w b z h,by simp[h]⟩
 ·exact⟨false,0,fun w=>amk a m 7 w b z z c,by simp[h]⟩
theorem C6(a b:ByteArray)(m n:Nat)(w:World)(c:dm a m)(A:dm b n)(g:m<18446744073709551616)(i:n<18446744073709551616):Calls prog 41 #[.string a,.string b] w fun e w'=>hc (m+n) e/\Below w.heap.size w w':=by
 have d:m<256^16:=oH g ai;have f:n<256^16:=oH i ai;by_cases h:m<72057594037927936/\n<72057594037927936
 ·exact aqK a b m n w c A h.1 h.2
 ·obtain⟨p,x,c1,H⟩:=amj a m c d;obtain⟨q,y,c2,I⟩:=amj b n A f;refine aqJ a b m n p q x y w c A d f c1 c2 ?_;rw[LW]at H I;cases p with
  |false=>rfl
  |true=>
   cases q with
   |false=>rfl
   |true=>exact absurd ⟨H.1 rfl,I.1 rfl⟩ h
def pt(w:World)(B n:Nat)(f:Nat->Nat):Prop:=B<w.heap.size/\∃cs:Array Value,w.heap[B]? =some (.cells cs 3 (0,0))/\cs.size=n/\∀i,i<n->cs[i]? =some (.int .i64 (f i:Int))
theorem pt.cell{w:World}{B n:Nat}{f:Nat->Nat}(h:pt w B n f){i:Nat}(hi:i<n):w.cell? ⟨B,i,none⟩=some (.int .i64 (f i:Int)):=by
 obtain⟨_,cs,H,_,a⟩:=h;exact lb H (a i hi)
theorem pt.free{w:World}{B n:Nat}{f:Nat->Nat}(h:pt w B n f)(i:Nat):w.frozen? ⟨B,i,none⟩=false:=by
 obtain⟨_,cs,H,_⟩:=h;simp[World.frozen?,H]
def dD(f:Nat->Nat)(j x:Nat):Nat->Nat:=fun i=>if i=j then x else f i
theorem am1{f:Nat->Nat}{M j x:Nat}(h:∀i,f i<M)(a:x<M):∀i,dD f j x i<M:=fun i=>by
 unfold dD
 split
 ·exact a
 ·exact h i
theorem pt.set{w:World}{B n:Nat}{f:Nat->Nat}(h:pt w B n f){j x:Nat}(b:j<n):pt (w.setCell ⟨B,j,none⟩ (.int .i64 (x:Int))) B n (dD f j x):=by
 obtain⟨ab,cs,H,I,a⟩:=h;refine⟨by simpa using ab,cs.setIfInBounds j (.int .i64 (x:Int)),hS H _,by simpa using I,fun i hi=>?_⟩;unfold dD;by_cases e:i=j
 ·subst e;simp[I,hi]
 ·rw[bn e,yG (ht e)];exact a i hi
theorem pt.drew{w:World}{B n:Nat}{f:Nat->Nat}(h:pt w B n f):pt w.drew B n f:=h
theorem pt.zero(w:World)(n:Nat):pt (w.alloc (.cells (Array.replicate n (.int .i64 0)) 3)) w.heap.size n (fun _=>0):=
 ⟨am,_,da w _,am,fun i hi=>by simp[hi]⟩
theorem pt.tU{w:World}{B n c:Nat}{f:Nat->Nat}(h:pt w B n f)(d:n<=100):l_ w (.slice (some ⟨B,0,none⟩) n n) ((List.range n).map f):=by
 obtain⟨ab,cs,H,I,b⟩:=h;have a:((List.range n).map f).length=n:=am;refine⟨by simp[ow],.inr ⟨B,n,cs,by rw[a],dq _,H,by rw[a];exact aZ _,db d ai,z,?_⟩⟩;rw[a,tv];apply anB;intro i;rw[oS];by_cases hi:i<n
 ·rw[cv hi];simp[ow,hi,b i hi]
 ·rw[bn hi];simp[ow,hi]
def S(f:Nat->Nat):Nat->Nat
 |0=>0
 |k+1=>S f k+16777216^k*f k
theorem ac7(f:Nat->Nat):∀n,D ((List.range n).map f)=S f n
 |0=>rfl
 |n+1=>by
  rw[MY,w1,abd,Ic,ac7 f n]
  simp[S]
theorem S8(f:Nat->Nat)(j x:Nat):∀k,k<=j->S (dD f j x) k=S f k
 |0,_=>rfl
 |k+1,h=>by
  show S (dD f j x) k+16777216^k*dD f j x k=S f k+16777216^k*f k
  rw[S8 f j x k z]
  unfold dD
  rw[bn z]
theorem ayW{f:Nat->Nat}{i bD u ae s:Nat}(c:S f (i+1)=bD*ae)(a:s=f i+u*ae):S (dD (dD f i (s%16777216)) (i+1) (s/16777216)) (i+2)=(bD+16777216^i*u)*ae:=by
 show S (dD (dD f i (s%16777216)) (i+1) (s/16777216)) (i+1)+16777216^(i+1)*dD (dD f i (s%16777216)) (i+1) (s/16777216) (i+1)=_;rw[S8 _ _ _ _ (aZ _)];show S (dD f i (s%16777216)) i+16777216^i*dD f i (s%16777216) i+_=_;rw[S8 _ _ _ _ (aZ _)];have ak:dD f i (s%16777216) i=s%16777216:=by simp[dD]
 have b:dD (dD f i (s%16777216)) (i+1) (s/16777216) (i+1)=s/16777216:=by simp[dD]
 rw[ak,b,w4];have H:16777216^i*(s%16777216)+16777216^i*16777216*(s/16777216)=16777216^i*s:=by rw[Cx,←Cw];congr 1;omega
 have I:S f i+16777216^i*f i=bD*ae:=c;have e:16777216^i*s=16777216^i*f i+16777216^i*(u*ae):=by rw[a,Cw]
 have d:16777216^i*u*ae=16777216^i*(u*ae):=Cx ..;rw[vH,←I];omega
theorem below_drewN{B:Nat}{w w':World}(h:Below B w w'):∀n,Below B w (w'.drewN n)
 |0=>h
 |n+1=>(below_drewN h n).drew
theorem ayF(w:World):(Instr.makeSlice 22 (.int .i64 1) (.int .i64 1)).run prog w=.ok (.slice (some ⟨w.heap.size,0,none⟩) 1 1) (w.alloc (.cells (Array.replicate 1 (.int .i64 0)) 3)):=au
theorem ayG(w:World):(Instr.makeSlice 22 (.int .i64 2) (.int .i64 2)).run prog w=.ok (.slice (some ⟨w.heap.size,0,none⟩) 2 2) (w.alloc (.cells (Array.replicate 2 (.int .i64 0)) 3)):=au
theorem ayJ(w:World):(Instr.makeSlice 22 (.int .i64 3) (.int .i64 3)).run prog w=.ok (.slice (some ⟨w.heap.size,0,none⟩) 3 3) (w.alloc (.cells (Array.replicate 3 (.int .i64 0)) 3)):=au
theorem ayK(w:World):(Instr.makeSlice 22 (.int .i64 4) (.int .i64 4)).run prog w=.ok (.slice (some ⟨w.heap.size,0,none⟩) 4 4) (w.alloc (.cells (Array.replicate 4 (.int .i64 0)) 3)):=au
theorem ayL(w:World):(Instr.makeSlice 22 (.int .i64 5) (.int .i64 5)).run prog w=.ok (.slice (some ⟨w.heap.size,0,none⟩) 5 5) (w.alloc (.cells (Array.replicate 5 (.int .i64 0)) 3)):=au
theorem ayM(w:World):(Instr.makeSlice 22 (.int .i64 6) (.int .i64 6)).run prog w=.ok (.slice (some ⟨w.heap.size,0,none⟩) 6 6) (w.alloc (.cells (Array.replicate 6 (.int .i64 0)) 3)):=au
theorem ayN(w:World):(Instr.makeSlice 22 (.int .i64 7) (.int .i64 7)).run prog w=.ok (.slice (some ⟨w.heap.size,0,none⟩) 7 7) (w.alloc (.cells (Array.replicate 7 (.int .i64 0)) 3)):=au
theorem ayR:∀(a:Nat) (_:a<=6) (w:World),(Instr.makeSlice 22 (.int .i64 ((a:Int)+1)) (.int .i64 ((a:Int)+1))).run prog w=.ok (.slice (some ⟨w.heap.size,0,none⟩) (a+1) (a+1)) (w.alloc (.cells (Array.replicate (a+1) (.int .i64 0)) 3))
 |0,_,w=>by exact ayF w
 |1,_,w=>by exact ayG w
 |2,_,w=>by exact ayJ w
 |3,_,w=>by exact ayK w
 |4,_,w=>by exact ayL w
 |5,_,w=>by exact ayM w
 |6,_,w=>by exact ayN w
 |n+7,h,_=>absurd h z
theorem azZ{l:List Nat}{n:Nat}(a:D l=n)(H:0<n)(b:l.length<=1):l=[n]:=by
 match l,a,b with
 |[],a,_=>simp[D]at a;omega
 |[d],a,_=>simp[D]at a;rw[a]
theorem ayU(a b:ByteArray)(m n:Nat)(w:World)(N:dm a m)(A:dm b n)(uc:16777216<=m)(an:m<18446744073709551616)(nz:0<n)(O:n<16777216):Calls prog 173 #[.string a,.string b] w fun e w'=>hc (m*n) e/\Below w.heap.size w w':=by
 have D4:m<256^16:=oH an ai;have KY:n<256^16:=oH O ai;have bk:Hid (∀w,Calls prog 88 #[.string a,.int .i64 3] w fun e w'=>e=.returned (.tuple #[.int .i64 0,.bool false])/\w=w'):=fun w=>amk a m 3 w N z (db ai uc) D4;have bK:Hid (∀w,Calls prog 88 #[.string b,.int .i64 4] w fun e w'=>e=.returned (.tuple #[.int .i64 n,.bool true])/\w=w'):=fun w=>uu b n 4 w A z (iz O ai);have h6:=G fun w=>F6 a m w N D4;have k1:=G fun w=>F6 b n w A KY;clear N A;go_enter func173,ntmps173
 go_wp2_with (first
  |(go_at_call 88;((with_reducible refine(bk.out _).mono ?_);rintro e w' ⟨rfl,rfl⟩))
  |(go_at_call 88;((with_reducible refine(bK.out _).mono ?_);rintro e w' ⟨rfl,rfl⟩))
  |(go_at_call 89;((with_reducible refine(h6.out _).mono ?_);rintro e ap ⟨⟨u,g,rfl,et,fA,bd,lV,np⟩,bN⟩))
  |(go_at_call 89;((with_reducible refine(k1.out _).mono ?_);rintro e x ⟨⟨u2,cF,rfl,g2,hg,bJ,u',f5⟩,Q⟩;have Z:=et.U Q;have kx:=azZ hg nz (f5 1 (iz O ai));have sa:=ayR g.length lV;obtain⟨aP,ca,rfl,o7,Pl,W,X⟩:=Z.open;obtain⟨dJ,ed,rfl,l1,Pm,ky,r6⟩:=g2.open)))
 subst kx;have Y:=ky am;obtain⟨U,rfl,Y⟩:=Y;have ab:=r6 U rfl 0 am;have Bn:x.cell? ⟨U,0,none⟩=some (.int .i64 (n:Int)):=ab;have lu:Hid (Below w.heap.size w x):=b_ bN Q;have j4:=pt.zero x (g.length+1);have kF:Below x.heap.size x (x.alloc (.cells (Array.replicate (g.length+1) (.int .i64 0)) 3)):=(bi _ _).alloc (aZ _) _;generalize x.alloc (.cells (Array.replicate (g.length+1) (.int .i64 0)) 3)=bz at*;obtain⟨B,bG⟩:∃B:Nat,Hid (B=x.heap.size):=⟨_,rfl⟩;clear sa et g2 Z bk bK h6 k1 bN Q ky r6 ab;unfold maxLen at o7 l1;go_loopw [12] (fun i wr=>∃(k:Nat) (f:Nat->Nat),k<=g.length/\i=.int .i64 k/\pt wr x.heap.size (g.length+1) f/\(∀j,f j<16777216)/\S f (k+1)=D (g.take k)*n/\Below x.heap.size x wr) (fun i _=>g.length-(RowKit.intOf i).toNat);case atStart=>exact⟨0,fun _=>0,z,rfl,j4,fun j=>(ai:(0:Nat)<16777216),by simp[S,D],kF⟩
 case round=>
  obtain⟨E,rfl⟩:∃E:World,E=wr:=⟨_,rfl⟩;obtain⟨k,f,ag,rfl,C,R,J,F⟩:=hrel;by_cases aq:k<g.length
  ·obtain⟨wm,rfl,KL⟩:=W z;have aa:E.cell? ⟨wm,k,none⟩=some (.int .i64 ((g[k]'aq:Nat):Int)):=by rw[F.cell KL];exact X wm rfl k aq
   have VS:E.cell? ⟨U,0,none⟩=some (.int .i64 (n:Int)):=by rw[F.cell Y];exact Bn
   have wy:=C.cell (i:=k) z;have kh:=C.free k;have ju:=bd _ (fM (l:=g) (n:=k) aq);have af:=R k;have L:=Sa g k aq;obtain⟨y,aR⟩:∃y,Hid (y=g[k]'aq):=⟨_,rfl⟩;rw[←aR.out]at aa ju L;obtain⟨o,bI⟩:∃o,Hid (o=f k):=⟨_,rfl⟩;rw[←bI.out]at wy af;obtain⟨q,P⟩:∃q,Hid (q=y*n):=⟨_,rfl⟩;have ak:q<=281474943156225:=by have H:y*n<=16777215*16777215:=w3 z z;rw[P.out];omega
   have al:(y:Int)*(n:Int)=q:=by rw[P.out,Cn]
   obtain⟨s,K⟩:∃s,Hid (s=o+q):=⟨_,rfl⟩;have jV:s<281474976710656:=by have:=K.out;omega
   have ar:(o:Int)+(q:Int)=s:=by have:=K.out;omega
   obtain⟨r,M⟩:∃r:Nat,Hid (r=s%16777216):=⟨_,rfl⟩;obtain⟨c,V⟩:∃c:Nat,Hid (c=s/16777216):=⟨_,rfl⟩;have cg:(s:Int)%16777216=(r:Int):=by have:=M.out;omega
   have jq:(s:Int)/16777216=(c:Int):=by have:=V.out;omega
   have hI:Hid (S (dD (dD f k r) (k+1) c) (k+2)=D (g.take (k+1))*n):=by rw[M.out,V.out,L];exact ayW J (by rw[K.out,P.out,bI.out])
   have ul:(0:Int)<=(k:Int):=z;have si:(k:Int)<g.length:=z;have zP:(g.length:Int)<=6:=z;have ae:=G C;clear L J C W X
   go_wp2;go_loopw [13,14] (fun gr j T=>(gr=.int .i64 0/\j=.int .i64 0/\T=E)∨(gr=.int .i64 c/\j=.int .i64 1/\pt T x.heap.size (g.length+1) (dD f k r)/\Below x.heap.size x T)) (fun _ j _=>1-(RowKit.intOf j).toNat);case atStart=>exact .inl ⟨rfl,rfl,rfl⟩
   case round=>
    rcases hrel with⟨rfl,rfl,rfl⟩|⟨rfl,rfl,I,bm⟩
    ·go_wp2;go_quiet (fail)
     go_wp2;exact⟨.inr ⟨rfl,rfl,pt.set (w:=World.drewN _ _) ae.out z,(below_drewN F _).setCell (aZ _) _⟩,by simp[RowKit.intOf]⟩
    ·have au:=I.free (k+1);have aj:=I.cell (i:=k+1) z;have zQ:((k:Int)+1).toNat=k+1:=z;have zN:(0:Int)<=(k:Int)+1:=z;have zO:(k:Int)+1<(g.length:Int)+1:=z;have ad:=G I;clear I wy aa VS kh
     go_wp2;have s0:∀j,dD (dD f k r) (k+1) c j<16777216:=am1 (am1 R (by have:=M.out;omega)) (by have:=V.out;omega);exact⟨⟨k+1,dD (dD f k r) (k+1) c,z,bM,ad.out.set z,s0,hI.out,bm.setCell (aZ _) _⟩,by simp[RowKit.intOf];omega⟩
  ·obtain rfl:k=g.length:=z;have cV:Hid (l_ E (.slice (some ⟨x.heap.size,0,none⟩) (g.length+1) (g.length+1)) ((List.range (g.length+1)).map f)):=C.tU (c:=0) z;have cP:Hid (D ((List.range (g.length+1)).map f)=m*n):=by rw[ac7,J,tt (aZ _),fA];exact rfl
   have j':Hid (lx ((List.range (g.length+1)).map f)):=fun d hd=>by obtain⟨j,_,rfl⟩:=yQ.1 hd;exact R j
   have dh:((List.range (g.length+1)).map f).length=g.length+1:=am;clear C J W X
   go_wp2_with (go_at_call 90;refine(XU _ _ _ cV.out j'.out z).mono ?_;rintro e bh ⟨⟨t,rfl,ah⟩,nQ⟩);go_ret;rw[cP.out]at ah;exact⟨⟨t,rfl,ah⟩,(b_ lu.out F).trans (nQ.mono (db lu.out.size F.size))⟩
theorem P_(a b:ByteArray)(m n:Nat)(w:World)(c:dm a m)(A:dm b n)(d:m<18446744073709551616)(g:0<n)(f:n<16777216):Calls prog 173 #[.string a,.string b] w fun e w'=>hc (m*n) e/\Below w.heap.size w w':=by
 by_cases h:m<16777216
 ·exact ake a b m n w c A h z
 ·exact ayU a b m n w c A z d g f
end Go.aI
namespace Go.aI
open Go Go.Proofs.Tryz Go.Proofs Go.RowKit Go.Lib
def Fz(l:List UInt8)(e:Ending):Prop:=∃t:ByteArray,e=.returned (.string t)/\t.data.toList=l
def FH(n q:Nat)(l:List UInt8):Prop:=(0<q->decDigits n=decDigits q++l)/\(q=0->decDigits n=l)
theorem FH.step{n q:Nat}{l:List UInt8}(h:FH n q l)(b:0<q):FH n (q/10) (UInt8.ofNat (48+q%10)::l):=by
 have H:=h.1 b;rw[show decDigits q=if h:q<10 then [UInt8.ofNat (48+q)]else decDigits (q/10)++[UInt8.ofNat (48+q%10)]from by rw[decDigits]]at H;by_cases a:q<10
 ·rw[dif_pos a]at H;refine⟨fun ab=>z,fun _=>?_⟩;rw[H];have:q%10=q:=z;rw[this];rfl
 ·rw[dif_neg a]at H;refine⟨fun _=>by rw[H];simp,fun ab=>z⟩
theorem Qa:∀(k u:Nat),u<=k->nDigits u<=u+1
 |0,u,h=>by
  obtain rfl:u=0:=z
  rw[aaT z]
  omega
 |k+1,u,h=>by
  by_cases a:u<10
  ·rw[aaT a];omega
  ·rw[nDigits_big a]
   have:=Qa k (u/10) z
   omega
theorem FH.len{n q:Nat}{l:List UInt8}(h:FH n q l):l.length<=n+1:=by
 have H:=aaR n;have I:=Qa n n (aZ _);rcases RR q with ab|ab
 ·rw[h.2 ab]at H;omega
 ·rw[h.1 ab,ie]at H;omega
theorem Oa(a b:ByteArray):(a++b).data.toList=a.data.toList++b.data.toList:=am
theorem akK(w:World)(x:Int):(convert 230 9 (.slice (some ⟨w.heap.size,0,none⟩) 1 1)).run prog (w.alloc (.cells #[.int .u8 x] 5))=.ok (.string (strOfNums [x])) (w.alloc (.cells #[.int .u8 x] 5)):=
 MP (P:=prog) (w.alloc (.cells #[.int .u8 x] 5)) 230 5 underlying230 underlying5 w.heap.size 0 1 1 [x] rfl (fun i hi=>by
  obtain rfl:i=0:=z
  exact aS 0 (da w _)) 9 underlying9
theorem B_(a:ByteArray)(n:Nat)(w:World)(j:dm a n)(H:n<36028797018963968):Calls prog 190 #[.string a] w fun e w'=>Fz (decDigits n) e/\Below w.heap.size w w':=by
 have E:n<256^16:=oH H ai;have f:=G fun w=>A4 a n w j E;have J:Hid (∀w,Calls prog 86 #[.int .i64 10] w fun e w'=>hc 10 e/\Below w.heap.size w w'):=fun w=>pe 10 w z;clear j E;by_cases ab:n=0
 ·subst ab;go_enter func190,ntmps190
  go_wp2_with (go_at_call 172;((with_reducible refine(f.out _).mono ?_);rintro e F ⟨⟨t,rfl,ah⟩,rfl⟩;have c:=ah.zero.2 rfl;have C:((t.size:Int)==0)=true:=(by rw[c];rfl)));go_ret;exact⟨⟨_,rfl,by rw[decDigits];rfl⟩,bi _ _⟩
 ·go_enter func190,ntmps190
  go_wp2_with (go_at_call 172;((with_reducible refine(f.out _).mono ?_);rintro e F ⟨⟨t,rfl,ah⟩,rfl⟩;have c:¬t.size=0:=(fun e=>ab (ah.zero.1 e));have C:((t.size:Int)==0)=false:=(by rw[l8];omega)));clear f c C;go_loopw [0,3] (fun x y wr=>∃(q:Nat) (t s:ByteArray),q<=n/\x=.string t/\y=.string s/\dm t q/\FH n q s.data.toList/\Below w.heap.size w wr) (fun x _ _=>match x with|.string t=>aT t.data.toList|_=>0);case atStart=>exact⟨n,t,_,aZ _,rfl,rfl,ah,⟨fun _=>am,fun h=>absurd h ab⟩,bi _ _⟩
  case round=>
   obtain⟨q,t,s,S,rfl,rfl,ah,g,d⟩:=hrel;have l:=G ah.zero;have k:=G ah;have A:=G g;have U:s.size<=n+1:=by have:=g.len;rw[ji]at this;exact this
   clear ah g;by_cases P:0<q
   ·have L:0<(t.size:Int):=by
     have:¬t.size=0:=fun e=>by have:=l.out.1 e;omega
     omega
    have i:q%10<10:=w2 _ z;obtain⟨r,b⟩:∃r,Hid (r=q%10):=⟨_,rfl⟩;rw[←b.out]at i
    go_wp2_with (first
     |(go_at_call 86;((with_reducible refine(J.out _).mono ?_);rintro e R ⟨⟨K,rfl,I⟩,m⟩))
     |(go_at_call 189;((with_reducible refine(yj t K q 10 _ k.out I z z z).mono ?_);rintro e o ⟨⟨u,N,rfl,D,B⟩,co⟩;rw[←b.out]at B))
     |(go_at_call 174;((with_reducible refine(BI N r _ B (iz i ai)).mono ?_);rintro e T ⟨rfl,rfl⟩;have V:=akK o (48+(r:Int));have O:(strOfNums [48+(r:Int)]).size=1:=(by rw[MQ];rfl);have Q:(strOfNums [48+(r:Int)]).size+s.size<=9223372036854775807:=(by rw[O];omega))))
    have ii:Below w.heap.size w o:=(b_ d m).trans (co.mono (db d.size m.size));refine⟨⟨q/10,u,_,z,rfl,rfl,D,?_,ii.alloc ii.size _⟩,?_⟩
    ·have e:(strOfNums [48+(r:Int)]++s).data.toList=UInt8.ofNat (48+q%10)::s.data.toList:=by rw[Oa,RH,←b.out];have:(48+(r:Int)).toNat=48+r:=z;simp[this]
     rw[e];exact A.out.step P
    ·show aT u.data.toList<aT t.data.toList;rw[D.1,k.out.1];omega
   ·obtain rfl:q=0:=z;have z0:t.size=0:=l.out.2 rfl;have L:¬0<(t.size:Int):=z;have M:=G (A.out.2 rfl)
    go_wp2;go_ret;exact⟨⟨s,rfl,M.out.symm⟩,d⟩
theorem akk(n:Int)(w:World)(ab: -9007199254740992<=n)(H:n<=9007199254740992):Calls prog 286 #[.int .i64 n] w fun e w'=>hc n.natAbs e/\Below w.heap.size w w':=by
 by_cases s:0<=n
 ·obtain⟨m,rfl⟩:∃m:Nat,n=(m:Int):=⟨n.toNat,z⟩;have b:=G fun w=>pe m w z;go_enter func286,ntmps286
  go_wp2_with (go_at_call 86;((with_reducible refine(b.out _).mono ?_);rintro e g ⟨⟨t,rfl,ah⟩,a⟩));go_ret;exact⟨⟨t,rfl,ah⟩,a⟩
 ·obtain⟨m,d⟩:∃m:Nat,n= -((m:Int)+1):=⟨(-n-1).toNat,z⟩;have ak: -(n+1)=(m:Int):=z;have c:n.natAbs=m+1:=z;have b:=G fun w=>pe m w z;have i:Hid (∀w,Calls prog 86 #[.int .i64 1] w fun e w'=>hc 1 e/\Below w.heap.size w w'):=fun w=>pe 1 w z;rw[c];clear c;have q:n<0:=z;have l:=G d;clear d;go_enter func286,ntmps286
  go_wp2_with (first
   |(go_at_call 86;((with_reducible refine(b.out _).mono ?_);rintro e g ⟨⟨t,rfl,ah⟩,a⟩))
   |(go_at_call 86;((with_reducible refine(i.out _).mono ?_);rintro e r ⟨⟨j,rfl,k⟩,f⟩))
   |(go_at_call 41;((with_reducible refine(C6 t j m 1 _ ah k (by have:=l.out;omega) z).mono ?_);rintro e u ⟨⟨t3,rfl,o⟩,co⟩)))
  go_ret;exact⟨⟨t3,rfl,o⟩,(b_ a f).trans (co.mono (db a.size f.size))⟩
def g1(N S:Int):Prop:=0<=S/\S<=6/\ -1000000000000000<=N/\N<=1000000000000000/\(S=0∨N.tmod 10≠0)
theorem alF(N S:Int)(w:World)(h:g1 N S):Calls prog 184 #[.agg #[.int .i64 N,.int .i64 S]] w fun e w'=>e=.returned (.bool true)/\Below w.heap.size w w':=by
 obtain⟨H,I,f,d,a⟩:=h;by_cases b:S=0
 ·subst b;go_enter func184,ntmps184
  go_wp2;go_ret;exact LF
 ·have c:N.tmod 10≠0:=by
   rcases a with a|a
   ·exact absurd a b
   ·exact a
  have g:(S==0)=false:=by rw[l8];exact b
  have i:(N.tmod 10 !=0)=true:=by simpa using c
  go_enter func184,ntmps184
  go_wp2;go_ret;exact LF
theorem Hj(n:Nat)(w:World)(r:n<=6):Calls prog 188 #[.int .i64 n] w fun e w'=>hc (10^n) e/\Below w.heap.size w w':=by
 have d:Hid (∀w,Calls prog 86 #[.int .i64 1] w fun e w'=>hc 1 e/\Below w.heap.size w w'):=fun w=>pe 1 w z;have g:Hid (∀w,Calls prog 86 #[.int .i64 10] w fun e w'=>hc 10 e/\Below w.heap.size w w'):=fun w=>pe 10 w z;go_enter func188,ntmps188
 go_wp2_with (go_at_call 86;((with_reducible refine(d.out _).mono ?_);rintro e q ⟨⟨t,rfl,ah⟩,j⟩));clear d;go_loopw [3,4] (fun x i wr=>∃(k:Nat) (t:ByteArray),k<=n/\i=.int .i64 k/\x=.string t/\dm t (10^k)/\Below w.heap.size w wr) (fun _ i _=>n-(RowKit.intOf i).toNat);case atStart=>exact⟨0,t,z,rfl,rfl,ah,j⟩
 case round=>
  obtain⟨k,t,m,rfl,rfl,ah,a⟩:=hrel;have b:=G ah;clear ah;by_cases aq:k<n
  ·have u:(k:Int)<n:=z;have ag:10^k<=10^6:=ks z z
   go_wp2_with (first
    |(go_at_call 86;((with_reducible refine(g.out _).mono ?_);rintro e o ⟨⟨l,rfl,I⟩,c⟩))
    |(go_at_call 173;((with_reducible refine(P_ t l (10^k) 10 _ b.out I z z z).mono ?_);rintro e s ⟨⟨t3,rfl,f⟩,co⟩)))
   exact⟨⟨k+1,t3,z,bM,rfl,by rw[w4];exact f,(b_ a c).trans (co.mono (db a.size c.size))⟩,by simp[RowKit.intOf];omega⟩
  ·obtain rfl:k=n:=z
   go_wp2;go_ret;exact⟨⟨t,rfl,b.out⟩,a⟩
structure C4 (w W:World) (c_ dL:Obj) (bN bF:Nat):Prop where
 p:W.heap[bN]? =some c_
 q:W.heap[bF]? =some dL
 h:Below w.heap.size w W
 H:w.heap.size<=bN
 I:w.heap.size<=bF
 lt:bN<bF/\bF<W.heap.size
theorem kZ(w:World)(a b:Obj):C4 w ((w.alloc a).alloc b) a b w.heap.size (w.heap.size+1):=by
 have c:=jC w a;have d:=jC (w.alloc a) b;refine⟨?_,?_,((bi _ w).alloc (aZ _) a).alloc z b,z,z,z⟩
 ·rw[wB (w.alloc a) b z];exact da w a
 ·rw[←c];exact da (w.alloc a) b
def mX(neg:Bool)(n s:Nat)(e:Ending):Prop:=∃t:ByteArray,e=.returned (.agg #[.bool neg,.string t,.int .i64 s])/\dm t n
theorem C4.U{w W W':World}{c d:Obj}{b a:Nat}(T:C4 w W c d b a)(h:Below W.heap.size W W'):C4 w W' c d b a:=
 ⟨(h.block b (by have:=T.lt;omega)).trans T.p,(h.block a (by have:=T.lt;omega)).trans T.q,b_ T.h h,T.H,T.I,T.lt.1,cE h T.lt.2⟩
theorem C4.drew{w W:World}{c d:Obj}{b a:Nat}(T:C4 w W c d b a):C4 w W.drew c d b a:=T.U ((bi _ _).drew)
theorem cB{w:World}{b i:Nat}{cs:Array Value}{t:TypeId}(h:w.heap[b]? =some (.cells cs t (0,0))):w.frozen? ⟨b,i,none⟩=false:=by simp[World.frozen?,h]
theorem wf(N:Int)(S:Nat)(w:World)(h:g1 N S):Calls prog 187 #[.agg #[.int .i64 N,.int .i64 S]] w fun e w'=>mX (decide (N<0)) N.natAbs S e/\Below w.heap.size w w':=by
 have l:=G fun w=>alF N S w h;have k:=G fun w=>akk N w (by have:=h.2.2.1;omega) (by have:=h.2.2.2.1;omega);have T:=kZ w (.cells #[.int .i64 N,.int .i64 S] 40 (0,0)) (.cells #[.bool false,.string ⟨#[]⟩,.int .i64 0] 244 (0,0));clear h;go_enter func187,ntmps187
 go_wp2_with (go_at_call 184;(with_reducible refine(l.out _).mono ?_);rintro e u ⟨rfl,c⟩);have g:=T.U c;have x:=G g.h;clear T c;obtain⟨a,f⟩:∃a,a=w.heap.size+1:=⟨_,rfl⟩;obtain⟨b,c⟩:∃b,b=w.heap.size:=⟨_,rfl⟩;have q:w.heap.size<=b:=z;have i:w.heap.size<=a:=z;have r:=G i;rw[←f,←c]at g;rw[←f,←c];have n:=G g.drew;obtain⟨br,c1⟩:=jK g.p;clear f c g
 go_region_held3 (fun W=>W.cell? ⟨b,0,none⟩=some (.int .i64 N)/\W.cell? ⟨b,1,none⟩=some (.int .i64 S)) (first|exact⟨br,c1⟩|exact⟨o,ce⟩|go_keep) (first|(go_at_call 286;(with_reducible refine(k.out _).mono ?_);rintro e s ⟨⟨t,rfl,ah⟩,f⟩;have d:=G (n.out.U f);obtain⟨o,ce⟩:=jK d.out.p;obtain⟨fu,j,m⟩:=wj d.out.q;obtain⟨z0,y,B⟩:=Ge d.out.q;have A:b≠a:=(by have:=d.out.lt;omega);have C:a≠b:=(by have:=d.out.lt;omega)))
 go_wp2;refine fL (v:=.agg #[.bool (decide (N<0)),.string t,.int .i64 S]) (by simp[results,results187,go_sem,fu,j,m]) rfl ?_;exact⟨⟨t,rfl,ah⟩,((d.out.h.setCell (p:=⟨a,0,none⟩) i _).setCell (p:=⟨a,1,none⟩) i _).setCell (p:=⟨a,2,none⟩) i _⟩
theorem yB(neg:Bool)(a:ByteArray)(n s m:Nat)(w:World)(k:dm a n)(J:n<=1000000000000000)(E:s<=m)(F:m<=3):Calls prog 617 #[.agg #[.bool neg,.string a,.int .i64 s],.int .i64 m] w fun e w'=>mX neg (n*10^(m-s)) m e/\Below w.heap.size w w':=by
 obtain⟨d,hd⟩:∃d,d=m-s:=⟨_,rfl⟩;have o:(m:Int)-(s:Int)=d:=z;rw[←hd];have ag:10^d<=10^3:=ks z z;have y:Hid (∀w,Calls prog 188 #[.int .i64 (IntKind.i64.wrap ((m:Int)-(s:Int)))] w fun e w'=>hc (10^d) e/\Below w.heap.size w w'):=fun w=>by rw[o,oQ _ ⟨z,z⟩];exact Hj d w z
 have u:Hid (∀t w,dm t (10^d)->Calls prog 173 #[.string a,.string t] w fun e w'=>hc (n*10^d) e/\Below w.heap.size w w'):=fun t w ah=>P_ a t n (10^d) w k ah z (E5 z) z;have T:=kZ w (.cells #[.bool neg,.string a,.int .i64 s] 244 (0,0)) (.cells #[.bool false,.string ⟨#[]⟩,.int .i64 0] 244 (0,0));have P:(0:Int)<=(m:Int)-(s:Int):=z;have R:(m:Int)-(s:Int)<=3:=z;clear hd o ag k;go_enter func617,ntmps617
 go_wp2;generalize (w.alloc (.cells #[.bool neg,.string a,.int .i64 s] 244 (0,0))).alloc (.cells #[.bool false,.string ⟨#[]⟩,.int .i64 0] 244 (0,0))=I at*;obtain⟨b,g⟩:∃b,b=w.heap.size+1:=⟨_,rfl⟩;obtain⟨c,i⟩:∃c,c=w.heap.size:=⟨_,rfl⟩;have j:w.heap.size<=b:=z;rw[←g,←i]at T;rw[←g,←i];have B:=G T.drew;obtain⟨br,c1,c2⟩:=wj T.p;clear g i T
 go_region_held3 (fun W=>W.cell? ⟨c,0,none⟩=some (.bool neg)/\W.cell? ⟨c,1,none⟩=some (.string a)/\W.cell? ⟨c,2,none⟩=some (.int .i64 s)) (first|exact⟨br,c1,c2⟩|exact⟨D,b2,cL⟩|exact⟨C,ce,eb⟩|go_keep) (first|(have _:=l;go_at_call 173;(with_reducible refine(u.out _ _ l).mono ?_);rintro e K ⟨⟨t,rfl,ah⟩,x⟩;have f:=G (q.out.U x);obtain⟨D,b2,cL⟩:=wj f.out.p;obtain⟨fu,r,A⟩:=wj f.out.q;obtain⟨z0,M,O⟩:=Ge f.out.q;have N:c≠b:=(by have:=f.out.lt;omega);have Q:b≠c:=(by have:=f.out.lt;omega))|(go_at_call 188;(with_reducible refine(y.out _).mono ?_);rintro e H ⟨⟨L,rfl,l⟩,g⟩;have q:=G (B.out.U g);obtain⟨C,ce,eb⟩:=wj q.out.p))
 go_wp2;refine fL (v:=.agg #[.bool neg,.string t,.int .i64 m]) (by simp[results,results617,go_sem,fu,r,A]) rfl ?_;exact⟨⟨t,rfl,ah⟩,((f.out.h.setCell (p:=⟨b,0,none⟩) j _).setCell (p:=⟨b,1,none⟩) j _).setCell (p:=⟨b,2,none⟩) j _⟩
end Go.aI
