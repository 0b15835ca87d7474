/- ConflictAuthors. -/
import Derived.Test.YtfgcglgpfgifkaaGreatDoorP09
set_option linter.all false
set_option maxRecDepth 100000
set_option maxHeartbeats 16000000
namespace Go.b3
open Go Go.Proofs.Tryz Go.Proofs Go.RowKit Go.Lib Go.aI
def apK(e:Ending):Prop:=∃y m d:Int,e=.returned (.tuple #[.int .i64 y,.int .i64 m,.int .i64 d,.bool true])/\1<=y/\y<=9999/\1<=m/\m<=4000000/\ -5000000<=d/\d<=4000000
theorem aBi(n:Int)(w:World)(ab:0<=n)(H:n<=3652058):Calls prog 295 #[.int .i64 n] w fun e w'=>e=.returned (.bool true)/\w=w':=by
 go_enter func295,ntmps295
 go_wp2;exact LD
theorem arH(n:Int)(w:World)(ab:0<=n)(H:n<=3652058):Calls prog 191 #[.int .i64 n] w fun e w'=>apK e/\w=w':=by
 have k:=G (aBi n w ab H);have ps:=G fun y (a:1<=y) (b:y<=9999)=>atD y w a b;have pr:=G fun y m (a:1<=y) (b:y<=9999)=>aso y m w a b;go_enter func191,ntmps191;go_upto_region 3 with(go_at_call 295;(with_reducible refine k.out.mono ?_);rintro e c ⟨rfl,rfl⟩)
 go_wp2;go_loopw [6,7] (fun x y wr=>∃ee hi:Int,x=.int .i64 ee/\y=.int .i64 hi/\1<=ee/\ee<=hi/\hi<=9999/\w=wr) (fun x y _=>(RowKit.intOf y-RowKit.intOf x).toNat);case atStart=>exact⟨1,9999,rfl,rfl,ai,ai,ai,rfl⟩
 case round=>
  obtain⟨ee,hi,rfl,rfl,b2,cL,hp,rfl⟩:=hrel;by_cases aq:ee<hi
  ·have I:ee<(ee+hi+1).tdiv 2:=by rw[HN z];omega
   have J:(ee+hi+1).tdiv 2<=hi:=by rw[HN z];omega
   go_upto_region 7 with fail
   generalize (ee+hi+1).tdiv 2=mid at*;have g:=G (ps.out mid z z)
   go_wp2_with (go_at_call 296;(with_reducible refine g.out.mono ?_);rintro e c ⟨⟨f,rfl,t,q⟩,rfl⟩;rcases RD (decide (f<=n))with l|l)
   ·exact⟨⟨mid,hi,rfl,rfl,z,z,z,h5⟩,by simp only[RowKit.intOf];omega⟩
   ·exact⟨⟨ee,mid-1,rfl,rfl,z,z,z,h5⟩,by simp only[RowKit.intOf];omega⟩
  ·have g:=G (ps.out ee z z);go_upto_region 11 with(go_at_call 296;(with_reducible refine g.out.mono ?_);rintro e c ⟨⟨f,rfl,t,q⟩,rfl⟩)
   go_wp2;go_loopw [9,10] (fun x y wr=>∃r m:Int,x=.int .i64 r/\y=.int .i64 m/\ -4000100<=r/\r<=3652158/\1<=m/\m+r.toNat<=3652200/\w=wr) (fun x _ _=>(RowKit.intOf x).toNat);case atStart=>exact⟨n-f,1,rfl,rfl,z,z,ai,z,rfl⟩
   case round=>
    obtain⟨r,m,rfl,rfl,fu,C,s,E,rfl⟩:=hrel;have j:=G (pr.out ee m z z);go_upto_region 13 with(go_at_call 297;(with_reducible refine j.out.mono ?_);rintro e c ⟨⟨d,rfl,F,D⟩,rfl⟩;rcases RD (decide (d<=r))with i|i)
    ·go_wp2_with (go_at_call 297;(with_reducible refine j.out.mono ?_);rintro e c ⟨⟨o,rfl,B,u⟩,rfl⟩);have A:d<=r:=by simpa using i
     exact⟨⟨r-o,m+1,rfl,rfl,z,z,z,z,h5⟩,by simp only[RowKit.intOf];omega⟩
    ·refine fL (by simp[results,results191,go_sem];rfl) rfl ?_;exact⟨⟨ee,m,r+1,rfl,z,z,s,z,z,z⟩,rfl⟩
theorem aDv(n:Int)(w:World)(ab:0<=n)(H:n<=3652058):Calls prog 105 #[.int .i64 n] w fun e w'=>I5 20000000 e/\Below w.heap.size w w':=by
 have nL:=G (arH n w ab H);have f:=G fun n i (W:World) (a: -6000000<=n) (b:n<=4000000) (c:i<=4)=>asJ n i W a b c;go_enter func105,ntmps105;go_upto_region 4 with(go_at_call 191;(with_reducible refine nL.out.mono ?_);rintro e k ⟨⟨y,m,d,rfl,A,x,D,C,E,B⟩,rfl⟩)
 have q:Hid (∀W,Calls prog 192 #[.int .i64 y,.int .i64 4] W fun e w'=>I5 4000010 e/\Below W.heap.size W w'):=G fun W=>f.out y 4 W z z ai;have l:Hid (∀W,Calls prog 192 #[.int .i64 m,.int .i64 2] W fun e w'=>I5 4000010 e/\Below W.heap.size W w'):=G fun W=>f.out m 2 W z z ai;have r:Hid (∀W,Calls prog 192 #[.int .i64 d,.int .i64 2] W fun e w'=>I5 4000010 e/\Below W.heap.size W w'):=G fun W=>f.out d 2 W z z ai
 go_wp2_with (first
  |(go_at_call 192;(with_reducible refine(q.out _).mono ?_);rintro e k ⟨⟨u,rfl,F⟩,g⟩)
  |(go_at_call 192;(with_reducible refine(l.out _).mono ?_);rintro e s ⟨⟨I,rfl,J⟩,j⟩)
  |(go_at_call 192;(with_reducible refine(r.out _).mono ?_);rintro e t ⟨⟨K,rfl,L⟩,o⟩))
 go_ret;refine⟨⟨_,rfl,?_⟩,(b_ g j).trans (o.mono (b_ g j).size)⟩;have hd:(⟨#[45]⟩:ByteArray).size=1:=rfl;rw[HI,HI,HI,HI,hd];omega
def I4(e:Ending):Prop:=∃s:ByteArray,e=.returned (.string s)/\1<=s.size
inductive p8:bH->Prop
 |g8 (s:ByteArray) (h:j5 s):p8 (g8 s)
 |gi (N:Int) (S:Nat) (h:g1 N S) (bx:S<=3):p8 (gi N S)
 |ju (d:Int) (ab:0<=d) (H:d<=3652058):p8 (ju d)
theorem p8.right{v:bH}(J:p8 v)(w:World)(F:Array Value)(h:aY be 1 w F v):Calls prog 101 #[.agg F] w fun e w'=>py e/\Below w.heap.size w w':=by
 cases J with
 |g8 s a=>obtain⟨ca,cc,ra,rc,rfl,_⟩:=h;exact Yr s ca cc ra rc w a
 |gi N S a _=>obtain⟨ca,cc,ra,rc,rfl,_⟩:=h;exact Yq N S ca cc ra rc w a
 |ju d ab H=>obtain⟨ca,cc,ra,rc,rfl,_⟩:=h;exact alI d ca cc ra rc w ab H
theorem aeB(n:Nat)(a:n<=1000000000000000):(decDigits n).length<=1000000000000001:=by
 have H:=aaR n;have I:=Qa n n (aZ _);omega
theorem aDP(neg:Bool)(n S:Nat)(a:n<=1000000000000000)(b:S<=3):(wW neg n S).length<=4000000000000004:=by
 unfold wW;have ag:10^S<=10^3:=ks z b;have c:0<10^S:=E5 z;have H:=aeB (n/10^S) (db (E2 _ _) a);have I:=w2 n c;have e:=aeB (10^S+n%10^S) z;have d:(List.drop 1 (decDigits (10^S+n%10^S))).length<=1000000000000001:=by rw[pp];omega
 rw[ie,ie];have f:(if neg=true then [(45:UInt8)]else []).length<=1:=by split<;>simp
 have g:(if 0<S then 46::List.drop 1 (decDigits (10^S+n%10^S))else []).length<=1000000000000002:=by
  split
  ·rw[mP];omega
  ·simp
 omega
theorem aAM(s:ByteArray)(w:World)(h:j5 s):Calls prog 103 #[.string s] w fun e w'=>I4 e/\w=w':=by
 have g:(s.size:Int)<=200:=by have:=h.1;omega
 clear h;go_enter func103,ntmps103
 go_wp2;go_loopw [3,4] (fun x i wr=>∃(k:Nat) (t:ByteArray),k<=s.size/\i=.int .i64 k/\x=.string t/\1<=t.size/\t.size<=1+2*k/\w=wr) (fun _ i _=>s.size-(RowKit.intOf i).toNat);case atStart=>exact⟨0,_,dq _,rfl,rfl,ai,ai,rfl⟩
 case round=>
  obtain⟨k,t,c,rfl,rfl,t0,f,rfl⟩:=hrel;by_cases aq:k<s.size
  ·have b:(k:Int)<s.size:=z;have ah:t.size<=401:=z;have d:(s.extract k (k+1)).size<=1:=by rw[ByteArray.size_extract];omega
   go_wp2;all_goals
    refine⟨⟨k+1,_,z,bM,rfl,?_,?_,h5⟩,by simp[RowKit.intOf];omega⟩;all_goals
     have a:(⟨#[39]⟩:ByteArray).size=1:=rfl;simp only[HI,a];omega
  ·have b:¬(k:Int)<s.size:=z;have ah:t.size<=401:=z
   go_wp2;go_ret;exact⟨⟨_,rfl,by rw[HI];omega⟩,rfl⟩
theorem aDz(s:ByteArray)(ca:Option Addr)(cc:Nat)(ra:Option Addr)(rc:Nat)(w:World)(b:j5 s):Calls prog 50 #[.agg (bY 1 s 0 0 0 ca 0 cc ra 0 rc)] w fun e w'=>I4 e/\Below w.heap.size w w':=by
 have j:=G fun W=>(p8.g8 s b).right W (bY 1 s 0 0 0 ca 0 cc ra 0 rc) (aY.iE be 1 W _ _ _ _ _ _ _ _ _);have i:=G fun W=>aAM s W b;have c:=da w (.cells (bY 1 s 0 0 0 ca 0 cc ra 0 rc) 44 (0,0));have d:=Below.alloc (bi w.heap.size w) (aZ _) (.cells (bY 1 s 0 0 0 ca 0 cc ra 0 rc) 44 (0,0));have g:=G c;have k:=G d;clear c d;go_enter func50,ntmps50
 go_wp2_with (first
  |(go_at_call 101;(with_reducible refine(j.out _).mono ?_);rintro e o ⟨rfl,a⟩;have f:=(a.block _ am).trans g.out;obtain⟨u,r,t,x,y,z,A⟩:=eU f;have l:=G (k.out.trans (a.mono am));clear f a)
  |(go_at_call 103;(with_reducible refine(i.out _).mono ?_);rintro e n ⟨⟨q,rfl,m⟩,rfl⟩))
 go_ret;exact⟨⟨_,rfl,m⟩,l.out⟩
theorem aDx(N:Int)(S:Nat)(ca:Option Addr)(cc:Nat)(ra:Option Addr)(rc:Nat)(w:World)(h:g1 N S)(b:S<=3):Calls prog 50 #[.agg (bY 2 bL N S 0 ca 0 cc ra 0 rc)] w fun e w'=>I4 e/\Below w.heap.size w w':=by
 have k:=G fun W=>(p8.gi N S h b).right W (bY 2 bL N S 0 ca 0 cc ra 0 rc) (aY.iE be 1 W _ _ _ _ _ _ _ _ _);have j:=G fun W=>aDA N S W h b;have i:=G (Go.b3.aDP (decide (N<0)) N.natAbs S (by have:=h.2.2;omega) b);have c:=da w (.cells (bY 2 bL N S 0 ca 0 cc ra 0 rc) 44 (0,0));have d:=Below.alloc (bi w.heap.size w) (aZ _) (.cells (bY 2 bL N S 0 ca 0 cc ra 0 rc) 44 (0,0));have g:=G c;have n:=G d;clear c d;go_enter func50,ntmps50
 go_wp2_with (first
  |(go_at_call 101;(with_reducible refine(k.out _).mono ?_);rintro e s ⟨rfl,a⟩;have f:=(a.block _ am).trans g.out;obtain⟨x,t,u,y,z,B,C⟩:=eU f;have o:=G (n.out.trans (a.mono am));clear f a)
  |(go_at_call 104;(with_reducible refine(j.out _).mono ?_);rintro e r ⟨⟨m,rfl,q⟩,l⟩;have eT:=G (b_ o.out l);have A:m.size<=4000000000000004:=(by have:=i.out;rw[←q,ji]at this;exact this)))
 exact ajY
theorem aDw(d:Int)(ca:Option Addr)(cc:Nat)(ra:Option Addr)(rc:Nat)(w:World)(ab:0<=d)(H:d<=3652058):Calls prog 50 #[.agg (bY 3 bL 0 0 d ca 0 cc ra 0 rc)] w fun e w'=>I4 e/\Below w.heap.size w w':=by
 have j:=G fun W=>(p8.ju d ab H).right W (bY 3 bL 0 0 d ca 0 cc ra 0 rc) (aY.iE be 1 W _ _ _ _ _ _ _ _ _);have i:=G fun W=>aDv d W ab H;have b:=da w (.cells (bY 3 bL 0 0 d ca 0 cc ra 0 rc) 44 (0,0));have c:=Below.alloc (bi w.heap.size w) (aZ _) (.cells (bY 3 bL 0 0 d ca 0 cc ra 0 rc) 44 (0,0));have g:=G b;have l:=G c;clear b c;go_enter func50,ntmps50
 go_wp2_with (first
  |(go_at_call 101;(with_reducible refine(j.out _).mono ?_);rintro e o ⟨rfl,a⟩;have f:=(a.block _ am).trans g.out;obtain⟨t,r,s,x,y,z,A⟩:=eU f;have m:=G (l.out.trans (a.mono am));clear f a)
  |(go_at_call 105;(with_reducible refine(i.out _).mono ?_);rintro e n ⟨⟨q,rfl,u⟩,k⟩;have eT:=G (b_ m.out k)))
 exact ajY
theorem aad{v:bH}(J:p8 v)(w:World)(F:Array Value)(h:aY be 1 w F v):Calls prog 50 #[.agg F] w fun e w'=>I4 e/\Below w.heap.size w w':=by
 cases J with
 |g8 s a=>obtain⟨ca,cc,ra,rc,rfl,_⟩:=h;exact aDz s ca cc ra rc w a
 |gi N S a I=>obtain⟨ca,cc,ra,rc,rfl,_⟩:=h;exact aDx N S ca cc ra rc w a I
 |ju d ab H=>obtain⟨ca,cc,ra,rc,rfl,_⟩:=h;exact aDw d ca cc ra rc w ab H
def aqb(e:Ending):Prop:=∃s:ByteArray,e=.returned (.agg (bY 1 s 0 0 0 none 0 0 none 0 0))/\j5 s
theorem aEP(w:World)(b:Nat)(a:Option Addr)(len:Nat)(d:len<=maxLen)(h:ef w b a len):Calls prog 49 #[.pointer (some ⟨b,0,none⟩),.int .i64 1] w fun e w'=>aqb e/\ef w' b a len/\fP b w w':=by
 have k:Hid (∀w,ef w b a len->Calls prog 98 #[.pointer (some ⟨b,0,none⟩)] w fun e w'=>S4 e/\mV w w' b a len):=G fun w i=>aDy w b a len d i;have q:=G h;have g:=G (rL.eI h aaM 44);have j:Hid (w.heap.size≠b):=(by have:=h.lt;show w.heap.size≠b;omega);clear h d;go_enter func49,ntmps49
 go_wp2_with (first
  |(go_at_call 98;(with_reducible refine(k.out _ g.out.n).mono ?_);rintro e z ⟨⟨m,rfl,f⟩,_,r,y⟩;have o:=G f;clear f;have c:=G (g.out.yp r y j.out);obtain⟨p,l,n,s,t,u,x⟩:=eU c.out.r;obtain⟨D,C,B,A,E,F,H⟩:=gI c.out.r))
 refine fL (by simp[results,results49,go_sem,p,l,n,s,t,u,x];rfl) rfl ?_;exact⟨⟨m,rfl,o.out⟩,q.out.Ae c.out.n _ _ _ _ _ _ _,c.out.s.Ae _ _ _ _ _ _ _⟩
def apS(k:Int)(e:Ending):Prop:=∃(s:ByteArray) (N S n:Int),e=.returned (.agg (bY k s N S n none 0 0 none 0 0))/\p8 (.mk k s N S n [] [])
theorem aEN(w:World)(b:Nat)(a:Option Addr)(len:Nat)(f:len<=maxLen)(h:ef w b a len)(k:Int)(g:k=1∨k=2∨k=3):Calls prog 49 #[.pointer (some ⟨b,0,none⟩),.int .i64 k] w fun e w'=>apS k e/\mV w w' b a len:=by
 rcases g with rfl|rfl|rfl
 ·refine(aEP w b a len f h).mono ?_;rintro e w' ⟨⟨s,rfl,i⟩,c,d⟩;exact⟨⟨s,0,0,0,rfl,.g8 s i⟩,h,c,d⟩
 ·refine(aEO w b a len f h).mono ?_;rintro e w' ⟨⟨N,S,rfl,l,j⟩,c,d⟩;exact⟨⟨bL,N,S,0,rfl,.gi N S l j⟩,h,c,d⟩
 ·refine(aEM w b a len f h).mono ?_;rintro e w' ⟨⟨N,rfl,ab,H⟩,c,d⟩;exact⟨⟨bL,0,0,N,rfl,.ju N ab H⟩,h,c,d⟩
end Go.b3
namespace Go.bj.N
open Go Go.Proofs.Tryz Go.Proofs Go.RowKit Go.c0
theorem _root_.Go.c0.p5.ah6{w:World}{a:Option Addr}{l:List Nat}(h:p5 w a l)(d:l.length<=1000):AR w a l.length:=
 ⟨d,fun ab=>by
  obtain⟨b,o,e,A,c⟩:=h ab
  exact⟨b,o,e,A,fun i hi=>⟨_,c i hi⟩⟩⟩
theorem aoj(r q:bA)(d f:Option Addr)(ac g:Nat)(w:World)(i:p5 w d r.args)(A:p5 w f q.args)(H:r.args.length<=3)(I:q.args.length<=3)(hd:Ie r q): Calls prog 124 #[.agg #[.int .i64 r.h,.string r.op,.string r.aF,.slice d r.args.length ac],.agg #[.int .i64 q.h,.string q.op,.string q.aF,.slice f q.args.length g]] w fun e w'=>e=.returned (.bool false)/\Below w.heap.size w w':=by
 by_cases a:r.args=q.args
 ·have lS:=G (fun W (c:Below w.heap.size w W)=>axl d f r.args.length q.args.length ac g W ((i.U c).ah6 z) ((A.U c).ah6 z));by_cases ak:r.h=q.h
  ·have c1:((r.h:Int)==(q.h:Int))=true:=by simp[ak]
   by_cases b:r.op=q.op
   ·have k:(r.op.toList==q.op.toList)=true:=by simp[b]
    have j:r.aF≠q.aF:=by
     rcases hd with h|h|h|h
     ·exact absurd ak h
     ·exact absurd b h
     ·exact h
     ·exact absurd a h
    have l:(r.aF.toList==q.aF.toList)=false:=TG j;clear hd ak b j a;exact XB
   ·have k:(r.op.toList==q.op.toList)=false:=TG b;clear hd ak b a;exact XB
  ·have c1:((r.h:Int)==(q.h:Int))=false:=bu;clear hd ak a;exact XB
 ·have lS:=G (fun W (c:Below w.heap.size w W)=>axo d f ac g r.args q.args W (i.U c) (A.U c) z z a);clear hd a;go_enter func124,ntmps124
  go_wp2_with (go_at_call 199;refine(lS.out _ (N3 _ _ _)).mono ?_;rintro e w' ⟨rfl,Up,rfl⟩);all_goals(go_ret;exact⟨by first|rfl|simp,(N3 _ _ _).trans (p6.U ⟨Up,rfl⟩ _)⟩)
theorem am0(a:Option Addr)(n c:Nat)(w:World)(N:Nat->ByteArray)(H:n<=1000)(h:0<n->∃b o,a=some ⟨b,o,none⟩/\b<w.heap.size/\∀i,i<n->w.cell? ⟨b,o+i,none⟩=some (.string (N i)))(f:∀i,i<n->sH (N i))(hd:∀i j,i<j->j<n->N i≠N j):Calls prog 83 #[.slice a n c] w fun e w'=>e=.returned (.bool true)/\p6 w w':=by
 have l:=G f;have r:=G hd;clear f hd;go_enter func83,ntmps83
 go_wp2;go_loopw [3] (fun i wr=>∃k:Nat,k<=n/\i=.int .i64 k/\p6 w wr) (fun i _=>n-(RowKit.intOf i).toNat);case atStart=>exact⟨0,dq _,rfl,0,rfl⟩
 case round=>
  obtain⟨k,t,rfl,q,rfl⟩:=hrel;by_cases aq:k<n
  ·obtain⟨b,o,rfl,A,d⟩:=h z;have u:=d k aq;have g:=G (l.out k aq);have D:(k:Int)<n:=z
   go_wp2_with (go_at_call 81;refine(LJ _ _ g.out).mono ?_;rintro e w' ⟨rfl,rfl⟩)
   ·go_loopw [5] (fun j wr=>∃m:Nat,m<=k/\j=.int .i64 m/\p6 w wr) (fun j _=>k-(RowKit.intOf j).toNat);case atStart=>exact⟨0,dq _,rfl,q,rfl⟩
    case round=>
     obtain⟨m,y,rfl,C,rfl⟩:=hrel;by_cases s:m<k
     ·have x:=d m z;have B:=TG (r.out m k s aq);have F:(0:Int)<=(m:Int):=z;have E:(m:Int)<n:=z;have I:(0:Int)<=(k:Int):=z
      go_wp2;go_quiet (fail)
      go_wp2;all_goals first
       |(
        go_roundw
        case rel=>exact⟨m+1,z,bM,_,(by first|rfl|exact World.drewN_drewN _ _ _)⟩
        case measure=>simp[RowKit.intOf];omega)
       |(refine⟨⟨m+1,z,bM,_,rfl⟩,?_⟩;simp[intOf];omega)
     ·exact ayp
  ·go_wp2;all_goals(go_ret;exact⟨rfl,q,rfl⟩)
theorem aoi(bo cZ cs aj:Value)(l ra:Option Addr)(ss:List (ByteArray×Nat))(M:Nat->Nat)(rs:List bA)(u rc k:Nat)(w:World)(U:rT w l ss M)(R:∀c∈ss,sH c.1)(wo:ss.length<=12)(dV:uK w ra rs)(ug:rs.length<=40)(D:∀r∈rs,ac4 ss.length r)(T:∀i j (hi:i<rs.length) (aa:j<rs.length),i<j->Ie rs[i] rs[j])(B:k<rs.length): Calls prog 84 #[.agg #[bo,cZ,cs,.slice l ss.length u,.slice ra rs.length rc,aj],.int .i64 k] w fun e w'=>e=.returned (.bool true)/\Below w.heap.size w w':=by
 obtain⟨b,o,rfl,A,y⟩:=dV;obtain⟨F,ac,r⟩:=y k B;have P:=G (fun W (x:Below w.heap.size w W) (i:Nat) (hi:i<ss.length)=>aDi bo cZ cs (.slice (some ⟨b,o,none⟩) rs.length rc) aj l ss M u i W (U.U x) R hi wo);have a:=D _ (fM B);have ae:=G a.op;have O:=G a.aF;have af:=G a.args;have ah:=a.h7;have b7:=a.h;have Y:=G (fun i (hi:i<rs.length)=>(D _ (fM hi)).h7);have g':=G T;have hn:=G y;have L:=G r.args;have g4:(k:Int)<rs.length:=z;have ex:(0:Int)<=(k:Int):=z;have br:=r.br;have c1:=r.c1;have c2:=r.c2;have c3:=r.c3;have nT:decide (3<(rs[k].args.length:Int))=false:=bu;have V:∀Q S,Below w.heap.size w ((w.alloc Q).alloc S):=fun Q S=>((bi _ _).alloc (aZ _) _).alloc am _;clear U R D a T y r;go_enter func84,ntmps84
 go_wp2_with (first
  |(go_at_call 81;refine(LJ _ _ ae.out).mono ?_;rintro e w' ⟨rfl,rfl⟩)
  |(go_at_call 123;refine(aAa _ _ O.out.1 O.out.2).mono ?_;rintro e w' ⟨rfl,rfl⟩)
  |(go_at_call 165;refine(P.out _ (V _ _) _ b7).mono ?_;rintro e q ⟨⟨Z,rfl,iq⟩,ba⟩))
 have PH:w.heap.size+2<=q.heap.size:=by have:=ba.size;simp at this;omega
 have aQ:H7 q w.heap.size (w.heap.size+1) #[bo,cZ,cs,.slice l ss.length u,.slice (some ⟨b,o,none⟩) rs.length rc,aj] #[.int .i64 rs[k].h,.string rs[k].op,.string rs[k].aF,.slice F rs[k].args.length ac]:=by
  refine⟨z,z,?_,?_⟩
  ·exact ayu
  ·rw[ba.block _ (by simp only[jC];omega)];have:=da (w.alloc (.cells #[bo,cZ,cs,.slice l ss.length u,.slice (some ⟨b,o,none⟩) rs.length rc,aj] 29)) (.cells #[.int .i64 rs[k].h,.string rs[k].op,.string rs[k].aF,.slice F rs[k].args.length ac] 86);exact ajO
 have sD:Below w.heap.size w q:=(V _ _).trans (ba.mono bu);clear ba;try rw[show(Z.toList==[32])=false by assumption]
 go_loopw [8] (fun i wr=>∃j:Nat,j<=rs[k].args.length/\i=.int .i64 j/\Below q.heap.size q wr) (fun i _=>rs[k].args.length-(RowKit.intOf i).toNat);case atStart=>exact⟨0,dq _,rfl,bi _ _⟩
 case round=>
  obtain⟨s,rfl⟩:∃s:World,s=wr:=⟨_,rfl⟩;obtain⟨j,aa,rfl,d⟩:=hrel;have H:=aQ.U d;have I:Below w.heap.size w s:=sD.trans (d.mono z);have hL:=aS 3 H.2.2.2;by_cases aq:j<rs[k].args.length
  ·obtain⟨dJ,eH,rfl,ja,X⟩:=(L.out.U I) z;have jA:=X j aq;have ai:=af.out _ (fM aq);obtain⟨eg,ak,aJ,bv,cT,jw⟩:=fZ H.2.2.1;have mj:(0:Int)<=(j:Int):=z;have lj:(j:Int)<(rs[k].args.length:Int):=z;have n0:(j:Int)<=1000:=z;clear X
   go_wp2;go_still_tail 6,au
   go_wp2_with (go_at_call 165;refine(P.out _ I.drew _ ai).mono ?_;rintro e bh ⟨⟨ao,rfl,al⟩,n⟩);all_goals(
    go_roundw
    case rel=>first|exact⟨j+1,z,bM,(d.drew).trans (n.mono d.size)⟩|((repeat apply Exists.intro);refine⟨?_,rfl⟩;exact⟨j+1,z,bM,(d.drew).trans (n.mono d.size)⟩)
    case measure=>simp[RowKit.intOf];omega)
  ·go_wp2;go_loopw [9] (fun i cR=>∃m:Nat,m<=k/\i=.int .i64 m/\Below s.heap.size s cR) (fun i _=>k-(RowKit.intOf i).toNat);case atStart=>exact⟨0,dq _,rfl,bi _ _⟩
   case round=>
    obtain⟨m,an,rfl,f⟩:=hrel;have N:=H.U f;have K:Below w.heap.size w wr:=b_ I f;by_cases pL:m<k
    ·have E:m<rs.length:=z;obtain⟨ab,ad,C⟩:=hn.out m E;have g:=C.U A K;have lE:=g.br;have g2:=g.c1;have hg:=g.c2;have q6:=g.c3;have ag:=G (fun W (x:Below w.heap.size w W)=>aoj rs[m] rs[k] ab F ad ac W (C.args.U x) (L.out.U x) (Y.out m E) ah (g'.out m k E B pL));have cT:=aS 4 N.2.2.1;obtain⟨cp,aW,bb,bR⟩:=T' N.2.2.2;have mj:(0:Int)<=(m:Int):=z;have lj:(m:Int)<rs.length:=z;have n0:(m:Int)<=1000:=z;clear g C
     go_wp2;go_still_tail 6,au
     go_wp2_with (go_at_call 124;refine(ag.out _ K.drew).mono ?_;rintro e bh ⟨rfl,n⟩);all_goals(
      go_roundw
      case rel=>first|exact⟨m+1,z,bM,(f.drew).trans (n.mono f.size)⟩|((repeat apply Exists.intro);refine⟨?_,rfl⟩;exact⟨m+1,z,bM,(f.drew).trans (n.mono f.size)⟩)
      case measure=>simp[RowKit.intOf];omega)
    ·go_wp2;all_goals(go_ret;exact⟨rfl,K⟩)
def nO(base:Nat)(l:List (ByteArray×Nat))(k:Nat)(v:Value)(w:World):Prop:=w.ownsRow base 9 1 v k ((l.take k).map fun c=>.string c.1)
theorem nO.U{base:Nat}{l:List (ByteArray×Nat)}{k:Nat}{v:Value}{w w':World}(h:nO base l k v w)(A:Below w.heap.size w w'):nO base l k v w':=ye h A
theorem nO.kI{base:Nat}{l:List (ByteArray×Nat)}{k:Nat}{v:Value}{w:World}(h:nO base l k v w):∀g,v.ownBlock=some g->base<=g:=fun g b=>by
 rcases vI g base with a|a
 ·exact absurd b.symm (wV h a)
 ·exact a
theorem nO.hz{base:Nat}{l:List (ByteArray×Nat)}{k:Nat}{v:Value}{w:World}(h:nO base l k v w):∃a c,v=.slice a k c:=by
 rcases h.2 with⟨e,ab⟩|⟨g,cap,b,e,_⟩
 ·exact⟨_,_,by rw[e,ab]⟩
 ·exact⟨_,_,e⟩
theorem nO.vA{base:Nat}{l:List (ByteArray×Nat)}{k:Nat}{v:Value}{w:World}(a:k<l.length)(h:w.ownsRow base 9 1 v (k+1) (((l.take k).map fun c=>.string c.1)++[.string l[k].1])):nO base l (k+1) v w:=by
 unfold nO;rw[tu a,w1];exact h
theorem nO.amC{base:Nat}{l:List (ByteArray×Nat)}{w:World}{a:Option Addr}{c:Nat}(h:nO base l l.length (.slice a l.length c) w):0<l.length->∃b o,a=some ⟨b,o,none⟩/\b<w.heap.size/\∀i,i<l.length->w.cell? ⟨b,o+i,none⟩=some (.string (l.getD i (⟨#[]⟩,0)).1):=fun ab=>by
 unfold nO at h
 rw[vG]at h
 rcases h.2 with⟨_,eg⟩|⟨g,cap,e,ak,j,d,k,m,n,f⟩
 ·omega
 ·cases ak
  refine⟨g,0,rfl,cX d,fun i hi=>?_⟩
  have:(e.toList.take (l.length*1))[i]? =some (Value.string (l.getD i (⟨#[]⟩,0)).1):=by
   rw[f,pn,ln hi,pm,ln hi];rfl
  rw[oS,cv z]at this
  rw[gm]
  exact lb d (by simpa using this)
theorem Ys(S:cO)(a:qb S)(dG:C0 S)(w:World)(M:Nat->Nat)(fp:∀i,1<=M i/\M i<=5)(rs:List bA)(y:rs.Sublist S.c8)(ca f ra:Option Addr)(cc l rc:Nat)(eu:iM w ca S.bs)(P:rT w f S.aB M)(dV:uK w ra rs): Calls prog 38 #[.agg #[.string S.bo,.int .i64 S.cZ,.slice ca S.bs.length cc,.slice f S.aB.length l,.slice ra rs.length rc,.int .i64 S.aj]] w fun e w'=>e=.returned (.bool true)/\Below w.heap.size w w':=by
 obtain⟨gL,cz,gs,gt,R,n5,sp,ae⟩:=dG;have ci:=G cz;have dr:=G gs;have y6:=G gt;have V:=G R;have SY:=G n5;have X:=fun r (ag:r∈rs)=>sp r (y.subset ag);have ab:=RQ.1 (ae.sublist y);have NF:=G (fun W (d:Below w.heap.size w W) (q:Nat) (az:q<rs.length)=>aoi (.string S.bo) (.int .i64 S.cZ) (.slice ca S.bs.length cc) (.int .i64 S.aj) f ra S.aB M rs l rc q W (P.U d) (fun c af=>(R c af).1) a.aB (dV.U d) (db y.length_le a.c8) X ab az);have VS:=G a.asg;have dN:=G a.lm;have aC:=a.cZ;have VQ:=a.bs;have s8:=a.vB;have rf:=a.aB;have ug:rs.length<=40:=db y.length_le a.c8;have eE:=a.aj;have al:=G fp;have hn:=G (fun W (d:Below w.heap.size w W)=>eu.U d);have SQ:=G (fun W (d:Below w.heap.size w W)=>P.U d);clear gL cz gs gt R n5 sp ae X ab a eu P dV fp y;have eJ:decide ((S.cZ:Int)<0)=false:=am;have eO:decide (1000000000<(S.cZ:Int))=false:=bu;have v3:decide (8<(S.bs.length:Int))=false:=bu;have v4:decide ((S.aB.length:Int)<1)=false:=bu;have v5:decide (12<(S.aB.length:Int))=false:=bu;have h4:decide (40<(rs.length:Int))=false:=bu;have tl:decide ((S.aj:Int)<0)=false:=am;have rr:decide ((S.aB.length:Int)<=(S.aj:Int))=false:=bu;have v9:decide (S.aB.length<=S.aj)=false:=bu;have i7:∀c_,Below w.heap.size w (w.alloc c_):=fun c_=>(bi _ _).alloc (aZ _) _;obtain⟨ex,kw,m8,jg,kU⟩:=jt axb;go_enter func38,ntmps38
 go_wp2_with (go_at_call 81;refine(LJ _ _ ci.out).mono ?_;rintro e w' ⟨rfl,rfl⟩);have aQ:yT (w.alloc (.cells #[.string S.bo,.int .i64 S.cZ,.slice ca S.bs.length cc,.slice f S.aB.length l,.slice ra rs.length rc,.int .i64 S.aj] 29)) w.heap.size #[.string S.bo,.int .i64 S.cZ,.slice ca S.bs.length cc,.slice f S.aB.length l,.slice ra rs.length rc,.int .i64 S.aj]:=⟨am,da w _⟩;have cS:=i7 (.cells #[.string S.bo,.int .i64 S.cZ,.slice ca S.bs.length cc,.slice f S.aB.length l,.slice ra rs.length rc,.int .i64 S.aj] 29);have h_:=jC w (.cells #[.string S.bo,.int .i64 S.cZ,.slice ca S.bs.length cc,.slice f S.aB.length l,.slice ra rs.length rc,.int .i64 S.aj] 29);generalize w.alloc (.cells #[.string S.bo,.int .i64 S.cZ,.slice ca S.bs.length cc,.slice f S.aB.length l,.slice ra rs.length rc,.int .i64 S.aj] 29)=ap at*;try rw[v9]
 go_loopw [4,5] (fun v i wr=>∃k:Nat,k<=S.bs.length/\i=.int .i64 k/\nO (w.heap.size+1) S.bs k v wr/\Below (w.heap.size+1) ap wr) (fun _ i _=>S.bs.length-(RowKit.intOf i).toNat);case atStart=>exact⟨0,dq _,rfl,mo _ _ _ _,bi _ _⟩
 case round=>
  obtain⟨k,ay,rfl,B,N⟩:=hrel;have C:=aQ.U z N;have kG:Below w.heap.size w wr:=cS.trans (N.mono z);have aJ:=aS 2 C.2;have D2:=C.1;by_cases aq:k<S.bs.length
  ·obtain⟨ed,fY,rfl,l1,x⟩:=iM.cell (hn.out _ kG);obtain⟨lE,g2⟩:=x k aq;obtain⟨_,Q,T⟩:=dr.out _ (fM aq);have mj:(0:Int)<=(k:Int):=z;have lj:(k:Int)<S.bs.length:=z;have n0:(k:Int)<=1000:=z;clear x
   go_wp2_with (first
    |(go_at_call 82;refine(abG _ _ Q T).mono ?_;rintro e s ⟨⟨ah,rfl,iq⟩,bC⟩;obtain⟨VO,KG⟩:=adM bC;have gw:=B.U bC)
    |(at_builtin;refine lP _ rfl _ _ 41 rfl (w.heap.size+1) 9 ex (.string ⟨#[]⟩) 1 16 underlying41 kw m8 jg kU rfl ai _ _ _ rfl (aa1 gw _) ⟨s.heap.size,0,none⟩ 1 1 [.string S.bs[k].1] rfl rfl ?c1 ?c2 ?c3 ?c4 ?c5 ?_))
   case c1=>exact akl s _
   case c2=>simp[Value.oneCell']
   case c3=>unfold maxLen;omega
   case c4=>omega
   case c5=>have:=bC.size;simp;omega
   intro O u f' fD _;have fO:Below (w.heap.size+1) ap u:=((N.trans (bC.mono z)).alloc (by have:=bC.size;omega) _).grown fD (by have:=bC.size;simp;omega) B.kI;have k4:nO (w.heap.size+1) S.bs (k+1) O u:=nO.vA aq (by rw[MT];exact f');clear f' fD gw VO KG bC
   go_wp2;go_roundw;case rel=>first|exact⟨k+1,z,bM,k4,fO⟩|((repeat apply Exists.intro);refine⟨?_,rfl⟩;exact⟨k+1,z,bM,k4,fO⟩)
   case measure=>simp[RowKit.intOf];omega
  ·obtain⟨g,rfl⟩:∃g:World,g=wr:=⟨_,rfl⟩;obtain rfl:k=S.bs.length:=z;obtain⟨a4,c4,rfl⟩:=B.hz;have ax:=C.1
   go_wp2;go_loopw [6,7] (fun v i cR=>∃m:Nat,m<=S.aB.length/\i=.int .i64 m/\nO g.heap.size S.aB m v cR/\Below g.heap.size g cR) (fun _ i _=>S.aB.length-(RowKit.intOf i).toNat);case atStart=>exact⟨0,dq _,rfl,mo _ _ _ _,bi _ _⟩
   case round=>
    obtain⟨m,an,rfl,A,n⟩:=hrel;have E:=C.U ax n;have lR:Below w.heap.size w wr:=b_ kG n;have bv:=aS 3 E.2;have aD:=E.1;by_cases I:m<S.aB.length
    ·obtain⟨bJ,eB,rfl,jV,x⟩:=SQ.out _ lR;obtain⟨lE,g2,hg⟩:=x m I;obtain⟨_,Q,T⟩:=V.out _ (fM I);have aE:=al.out m;have mj:(0:Int)<=(m:Int):=z;have lj:(m:Int)<S.aB.length:=z;have n0:(m:Int)<=1000:=z;have aF:¬(M m:Int)<1:=z;have aG:¬9<(M m:Int):=z;clear x
     go_wp2_with (first
      |(go_at_call 82;refine(abG _ _ Q T).mono ?_;rintro e s ⟨⟨ah,rfl,iq⟩,bC⟩;obtain⟨VO,KG⟩:=adM bC;have gw:=A.U bC)
      |(at_builtin;refine lP _ rfl _ _ 41 rfl g.heap.size 9 ex (.string ⟨#[]⟩) 1 16 underlying41 kw m8 jg kU rfl ai _ _ _ rfl (aa1 gw _) ⟨s.heap.size,0,none⟩ 1 1 [.string S.aB[m].1] rfl rfl ?c1 ?c2 ?c3 ?c4 ?c5 ?_))
     case c1=>exact akl s _
     case c2=>simp[Value.oneCell']
     case c3=>unfold maxLen;omega
     case c4=>omega
     case c5=>have:=bC.size;have:=n.size;simp;omega
     intro O u f' fD _;have fO:Below g.heap.size g u:=((b_ n bC).alloc (by have:=bC.size;have:=n.size;omega) _).grown fD (by have:=bC.size;have:=n.size;simp;omega) A.kI;have k4:nO g.heap.size S.aB (m+1) O u:=nO.vA I (by rw[MT];exact f');exact ayn
    ·obtain⟨wp,rfl⟩:∃wp:World,wp=wr:=⟨_,rfl⟩;obtain rfl:m=S.aB.length:=z;obtain⟨eL,fk,rfl⟩:=A.hz;have au:=G (fun W (d:Below wp.heap.size wp W)=>am0 a4 S.bs.length c4 W (fun i=>(S.bs.getD i (⟨#[]⟩,0)).1) z (nO.amC ((B.U n).U d)) (fun i hi=>by
      rw[pm,ln hi];exact(dr.out _ (fM hi)).1) (fun i j F L=>by
      rw[pm,ln z,pm,ln L];exact y6.out i j _ _ F))
     have av:=G (fun W (d:Below wp.heap.size wp W)=>am0 eL S.aB.length fk W (fun i=>(S.aB.getD i (⟨#[]⟩,0)).1) z (nO.amC (A.U d)) (fun i hi=>by
      rw[pm,ln hi];exact(V.out _ (fM hi)).1) (fun i j F L=>by
      rw[pm,ln z,pm,ln L];exact SY.out i j _ _ F))
     go_wp2_with (first
      |(have _:=ad;go_at_call 83;((with_reducible refine(av.out _ (p6.U ad _)).mono ?_);rintro e w' ⟨rfl,K,rfl⟩))
      |(go_at_call 83;((with_reducible refine(au.out _ (bi _ _)).mono ?_);rintro e w' ⟨rfl,o,rfl⟩;have ad:p6 wp (wp.drewN o):=⟨o,rfl⟩)))
     have H:yT (wp.drewN (o+K)) w.heap.size #[.string S.bo,.int .i64 S.cZ,.slice ca S.bs.length cc,.slice f S.aB.length l,.slice ra rs.length rc,.int .i64 S.aj]:=E;have Z:Below w.heap.size w (wp.drewN (o+K)):=lR.trans (p6.U ⟨_,rfl⟩ _);generalize wp.drewN (o+K)=U at H Z⊢;go_loopw [10] (fun i aj=>∃q:Nat,q<=rs.length/\i=.int .i64 q/\Below U.heap.size U aj) (fun i _=>rs.length-(RowKit.intOf i).toNat);case atStart=>exact⟨0,dq _,rfl,bi _ _⟩
     case round=>
      obtain⟨q,az,rfl,D⟩:=hrel;have ao:=H.U H.1 D;have Y:Below w.heap.size w wr:=b_ Z D;obtain⟨eg,ak,aA,aB,cT,jw⟩:=fZ ao.2;by_cases aw:q<rs.length
      ·have n0:(q:Int)<=1000:=z
       go_wp2_with (go_at_call 84;refine(NF.out _ Y q aw).mono ?_;rintro e w7 ⟨rfl,ip⟩);go_roundw;case rel=>first|exact⟨q+1,z,bM,b_ D ip⟩|((repeat apply Exists.intro);refine⟨?_,rfl⟩;exact⟨q+1,z,bM,b_ D ip⟩)
       case measure=>simp[RowKit.intOf];omega
      ·go_wp2;all_goals(go_ret;exact⟨rfl,Y⟩)
end Go.bj.N
namespace Go.b3
open Go Go.Proofs.Tryz Go.Proofs Go.RowKit Go.c0 Go.bj
section
variable {S:cO} {M:Nat->Nat} {rs:List bA} {ca bd:Option Addr} {cc aV rb aC rc:Nat} {w:World}
structure AX (rs:List bA) (s:Nat) (p:List Int):Prop where
 gc:gc rs [s] p=some p.length
 ok:∀x∈p,0<=x/\x<(rs.length:Int)
theorem AX.first{s:Nat}{p:List Int}(h:AX rs s p):∃(k:Nat) (a:k<rs.length) (q:List Int),p=(k:Int)::q/\rs[k].h=s/\Go.bj.gc rs rs[k].args q=some q.length:=by
 obtain⟨x,q,rfl,e⟩:=Dp h.gc;rcases e with⟨rfl,_⟩|⟨k,a,rfl,d,m,b,c⟩
 ·exact absurd (h.ok _ (mQ)).1 ai
 ·refine⟨k,a,q,rfl,d,?_⟩;rw[qK]at c;simp at b;rw[c,b]
attribute [local irreducible] wpStill in
theorem amO(h:oX S M rs ca bd cc aV rb aC rc w)(aF:Option Addr)(C s:Nat)(p:List Int)(ag:k5 w aF p)(r:p.length<=100)(m:AX rs s p): Calls prog 178 #[.agg (eh S rs ca bd cc aV rb aC rc),.slice aF p.length C] w fun e w'=>e=.returned (.tuple #[.int .i64 s,.bool true])/\Below w.heap.size w w':=by
 have Q:=G fun W (l:Below w.heap.size w W)=>Go.bj.N.Ys S h.ok h.Qd W M h.oG rs h.sub ca bd (some ⟨rb,aC,none⟩) cc aV rc (h.c.U l) (h.y.U l) (h.r.U l);have K:=G (aac (.string S.bo) (.int .i64 S.cZ) (.slice ca S.bs.length cc) (.slice bd S.aB.length aV) (.int .i64 S.aj) rs rb aC rc aF C p w h.r ag h.h7 h.qA r p.length 0 s p.length);have j:=hw.eI w (eh S rs ca bd cc aV rb aC rc);obtain⟨k,X,q,rfl,u,cP⟩:=m.first;have P:=G m.gc;obtain⟨pb,po,rfl,O,R⟩:=ag am;have o:=R 0 am;rw[yN,hG]at o;have T:=h.r;obtain⟨tg,Hp,cw,L,N⟩:=T;cases cw;obtain⟨aP,ac,x⟩:=N k X;have fV:=x.br;rw[u]at fV;rw[mP]at r;have ab:q.length<=99:=z;have gx:0<(q.length:Int)+1:=z;have z0:((q.length:Int)+1==0)=false:=bu;have i3:(0:Int)<=(k:Int):=z;have mI:(k:Int)<rs.length:=z;have ug:=h.qA;clear R cP h ag r N x u m;rw[mP]at*;go_enter func178,ntmps178;go_upto_region 2 with(go_at_call 38;refine(Q.out _ j.b).mono ?_;rintro e c ⟨rfl,A⟩)
 have g:=j.U A;have aJ:decide ((k:Int)<0)=false:=am;have bv:decide ((rs.length:Int)<=(k:Int))=false:=bu;have cT:decide ((k:Int)<rs.length)=true:=bu;have jw:decide ((0:Int)<=(k:Int))=true:=am;clear j A Q;go_upto_region 4 with fail
 have a5:=aS 5 g.g;go_upto_region 5 with fail
 have d:=g.F7;have U:c.drew.cell? ⟨pb,po,none⟩=_:=(d.b.cell O).trans o;have V:c.drew.cell? ⟨rb,aC+k*4,none⟩=_:=(d.b.cell L).trans fV;refine tq au au ?_;change wpStill _ _ c.drew (fun n=>Exit.then _ _ Exit.normal n c.drew) _ _;clear g a5;generalize c.drew=a at*;obtain⟨F,B,E,D,H,I⟩:=fZ d.g;repeat still_step
 refine qJ ?_
 go_wp2;have f:=d.F7;have aa:a.drew.cell? ⟨pb,po,none⟩=_:=(f.b.cell O).trans o;have ad:a.drew.cell? ⟨rb,aC+k*4,none⟩=_:=(f.b.cell L).trans fV;refine tq au au ?_;change wpStill _ _ a.drew (fun n=>Exit.then _ _ Exit.normal n a.drew) _ _;clear d U V F B E D H I;generalize a.drew=bz at*;obtain⟨F,B,E,D,H,I⟩:=fZ f.g;repeat still_step
 refine qJ ?_;have Y:=G (K.out bz (abg _ _) (by rw[HP];exact P.out) f.b);clear K P;have cy:(((0+(q.length+1):Nat):Int))=(q.length:Int)+1:=z
 go_wp2_with (go_at_call 94;refine(Y.out).mono ?_;rintro e bh ⟨y,Z⟩;rw[cy]at y;subst y);go_ret2
 exact⟨rfl,b_ f.b Z⟩
end
theorem arJ(w:World)(aF:Option Addr)(f:Nat)(p:List Int)(ag:k5 w aF p)(r:p.length<=100)(ab:∀x∈p,0<=x): Calls prog 179 #[.slice aF p.length f] w fun e w'=>e=.returned (.bool true)/\Below w.heap.size w w':=by
 have g:=G fun W (d:Below w.heap.size w W)=>ag.U d;have c:=G ab;clear ag ab;go_enter func179,ntmps179
 go_wp2;go_loopw [3] (fun i wr=>∃k:Nat,k<=p.length/\i=.int .i64 k/\Below w.heap.size w wr) (fun i _=>p.length-(RowKit.intOf i).toNat);case atStart=>exact⟨0,dq _,rfl,bi _ _⟩
 case round=>
  obtain⟨k,j,rfl,a⟩:=hrel;by_cases aq:k<p.length
  ·obtain⟨pb,po,rfl,q,b⟩:=g.out _ a z;have o:=b k aq;have l:=c.out _ (fM aq);have m:(0:Int)<=(k:Int):=z;have n:(k:Int)<p.length:=z;clear b;generalize p[k]=x at*;have eg:(x== -1)=false:=bu
   go_wp2;go_roundw;case rel=>first|exact⟨k+1,z,bM,a⟩|exact⟨k+1,z,z⟩|exact⟨k+1,z,z,a⟩|((repeat apply Exists.intro);refine⟨?_,rfl⟩;exact⟨k+1,z,bM,a⟩)
   case measure=>simp[RowKit.intOf];omega
  ·go_wp2;go_ret;exact⟨rfl,a⟩
end Go.b3
namespace Go.bj
open Go Go.Proofs.Tryz Go.Proofs Go.RowKit Go.c0
def aok(e:Ending):Prop:=∃r:Bool,e=.returned (.bool r)
attribute [local irreducible] wpStill in
theorem axU(aF n:Option Addr)(B D:Nat)(p q:List Int)(w:World)(ag:k5 w aF p)(g:k5 w n q)(T:p.length<=100)(P:q.length<=100): Calls prog 177 #[.slice aF p.length B,.slice n q.length D] w fun e w'=>aok e/\Below w.heap.size w w':=by
 by_cases d:p.length=q.length
 ·have eg:((p.length:Int) !=(q.length:Int))=false:=by simp[d]
  have t:(q.length:Int)=p.length:=z;have F:=G (fun W (f:Below w.heap.size w W)=>ag.U f);have J:=G (fun W (f:Below w.heap.size w W)=>g.U f);have c:=G d;clear ag g d t;go_enter func177,ntmps177
  go_wp2;go_loopw [5] (fun v wr=>∃k:Nat,k<=p.length/\v=.int .i64 k/\Below w.heap.size w wr) (fun v _=>p.length-(RowKit.intOf v).toNat);case atStart=>exact⟨0,dq _,rfl,bi _ _⟩
  case round=>
   obtain⟨k,N,rfl,A⟩:=hrel;by_cases aq:k<p.length
   ·have b:=A.drew;obtain⟨m,C,rfl,I,o⟩:=F.out _ b z;obtain⟨l,lU,rfl,H,r⟩:=J.out _ b (by have:=c.out;omega);have ca:=o k aq;have j:=r k (by have:=c.out;omega);have R:(0:Int)<=(k:Int):=z;have E:(k:Int)<p.length:=z;have i3:(k:Int)<q.length:=by have:=c.out;omega
    have S:m<wr.heap.size:=I;have M:l<wr.heap.size:=H;generalize u:p[k]=x at ca;generalize q[k]'(by have:=c.out;omega)=y at j;clear o r u
    go_wp2;refine tq au au ?_;change wpStill _ _ wr.drew (fun i=>Exit.then _ _ Exit.normal i wr.drew) _ _;generalize wr.drew=a at*;by_cases s:x=y
    ·subst s;have ak:(x !=x)=false:=am;repeat still_step
     refine qJ ?_
     go_wp2;go_roundw;case rel=>first|exact⟨k+1,z,bM,b⟩|((repeat apply Exists.intro);refine⟨?_,rfl⟩;exact⟨k+1,z,bM,b⟩)
     case measure=>simp[RowKit.intOf];omega
    ·have ak:(x !=y)=true:=by simpa using s
     repeat still_step
     refine qJ ?_
     go_wp2;have K:=b.drew;have L:a.drew.cell? ⟨m,C+k,none⟩=_:=ca;have O:a.drew.cell? ⟨l,lU+k,none⟩=_:=j;refine tq au au ?_;change wpStill _ _ a.drew (fun i=>Exit.then _ _ Exit.normal i a.drew) _ _;clear ca j;generalize a.drew=Q at*;repeat still_step
     refine qJ ?_
     go_wp2;go_ret;exact⟨⟨_,rfl⟩,K⟩
   ·have E:¬(k:Int)<p.length:=z
    go_wp2;go_ret;exact⟨⟨_,rfl⟩,A⟩
 ·have eg:((p.length:Int) !=(q.length:Int))=true:=bu;clear ag g;go_enter func177,ntmps177
  go_wp2;go_ret;exact⟨⟨_,rfl⟩,bi _ _⟩
def vT(w w':World):Prop:=∀(b:Nat) (arr:Array Value) (bg:Nat×Nat),w.heap[b]? =some (Obj.cells arr 3 bg)->w'.heap[b]? =some (Obj.cells arr 3 bg)
def oZ(w:World)(a:Option Addr)(q:List Int):Prop:=0<q.length->∃b o arr bg,a=some ⟨b,o,none⟩/\w.heap[b]? =some (.cells arr 3 bg)/\∀i (hi:i<q.length),arr[o+i]? =some (.int .i64 q[i])
theorem oZ.md{w:World}{c:Option Addr}{q:List Int}(h:oZ w c q):k5 w c q:=fun ab=>by
 obtain⟨b,o,arr,bg,e,a,d⟩:=h ab
 exact⟨b,o,e,cX a,fun i hi=>by simp only[World.cell?,a];exact d i hi⟩
theorem oZ.kept{w w':World}{a:Option Addr}{q:List Int}(h:oZ w a q)(f:vT w w'):oZ w' a q:=fun ab=>by
 obtain⟨b,o,arr,bg,e,d,c⟩:=h ab
 exact⟨b,o,arr,bg,e,f _ _ _ d,c⟩
theorem oZ.U{w w':World}{c:Option Addr}{q:List Int}(h:oZ w c q)(A:Below w.heap.size w w'):oZ w' c q:=
 h.kept fun b arr bg a=>by rw[A.block b (cX a)];exact a
def l'(T:List Int->Prop)(w:World)(v:Value):Prop:=∃a b q,v=.slice a (q:List Int).length b/\oZ w a q/\T q
theorem l'.U{T:List Int->Prop}{w w':World}{v:Value}(h:l' T w v)(A:Below w.heap.size w w'):l' T w' v:=by
 obtain⟨a,b,q,e,H,I⟩:=h;exact⟨a,b,q,e,H.U A,I⟩
def wa(T:List Int->Prop)(w:World)(va:Option Addr)(n:Nat):Prop:=0<n->∃b o,va=some ⟨b,o,none⟩/\b<w.heap.size/\∀i,i<n->∃v,w.cell? ⟨b,o+i,none⟩=some v/\l' T w v
theorem wa.U{T:List Int->Prop}{w w':World}{va:Option Addr}{n:Nat}(h:wa T w va n)(A:Below w.heap.size w w'):wa T w' va n:=fun ab=>by
 obtain⟨b,o,e,a,c⟩:=h ab
 refine⟨b,o,e,cE A a,fun i hi=>?_⟩
 obtain⟨v,H,I⟩:=c i hi
 exact⟨v,by rw[A.cell a];exact H,I.U A⟩
theorem Li:(prog.info? 22).map (fun i=>(i.zero,i.size,i.bytes))=some (some (.slice none 0 0),1,24):=au
def ap3(T:List Int->Prop)(n:Nat)(e:Ending)(w':World):Prop:=∃a rc,e=.returned (.slice a n rc)/\n<=rc/\wa T w' a n
theorem aAF{T:List Int->Prop}{w:World}{base:Nat}{v:Value}{n:Nat}{a:List Value}(h:w.ownsRow base 22 1 v n a)(o:0<n)(l:a.length=n)(d:∀y∈a,l' T w y):∃c rc,v=.slice c n rc/\n<=rc/\wa T w c n:=by
 have ab:v≠ .slice none 0 0:=fun e=>by
  rcases h.2 with⟨_,q⟩|⟨g,cap,j,ak,_⟩
  ·omega
  ·rw[ak]at e;cases e
 obtain⟨g,cap,j,ak,m,b,f,r,k⟩:=tb h ab;refine⟨_,_,ak,f,fun _=>⟨g,0,rfl,cX b,fun i hi=>?_⟩⟩;have:=k i z;rw[ln z]at this;exact⟨_,by rw[gm];exact lb b this,d _ (fM _)⟩
end Go.bj
namespace Go.bj
open Go.c0 (bA)
def kl(d:Nat->Nat->List (List Int))(Z:Nat->Nat):List Int->List Nat->Nat->List (List Int)
 |b,[],m=>if m=0 then [b]else []
 |b,a::c,m=>(List.range' 1 (min (m-c.length) (Z a-1))).flatMap fun n=>(d a n).flatMap fun q=>kl d Z (b++q) c (m-n)
theorem aiE{e d:Nat->Nat->List (List Int)}{Z:Nat->Nat}:∀(c:List Nat) (b:List Int) (m:Nat),(∀a∈c,∀i,i<=m->i<Z a->e a i=d a i)->kl e Z b c m=kl d Z b c m
 |[],b,m,h=>rfl
 |a::c,b,m,h=>by
  unfold kl
  simp only[List.flatMap_def]
  congr 1
  apply anL
  intro n g
  obtain⟨H,I⟩:=anj.1 g
  rw[h a (mQ ..) n z z]
  congr 1
  apply anL
  intro q _
  exact aiE c _ _ fun k f i hi j=>h k (i6 _ f) i z j
def S_(rs:List bA)(M:Nat->Nat)(a:Nat->Nat->List (List Int)):Prop:=∀s n,∀p∈a s n,o1 rs M s n p
theorem aiF{rs:List bA}{M:Nat->Nat}{e:Nat->Nat->List (List Int)}{Z:Nat->Nat}(f:S_ rs M e):∀(c:List Nat) (b:List Int) (m:Nat),∀x∈kl e Z b c m,∃q,x=b++q/\q.length=m/\gc rs c q=some m/\tI rs M q
 |[],b,m,x,h=>by
  unfold kl at h
  split at h
  ·rename_i d
   simp at h
   exact⟨[],by simp[h],by simp[d],by rw[A8,d],tI.nil _ _⟩
  ·cases h
 |a::c,b,m,x,h=>by
  unfold kl at h
  obtain⟨n,i,h⟩:=MV.1 h
  obtain⟨q,j,h⟩:=MV.1 h
  obtain⟨H,I⟩:=anj.1 i
  obtain⟨g,rfl,b2,cL,hp⟩:=aiF f c _ _ x h
  have P:=f a n q j
  have k:n<=m:=z
  refine⟨q++g,by rw[Cp],by rw[ie,P.len,b2];omega,?_,P.sub.FM hp⟩
  rw[show a::c=[a]++c from rfl,J0,J1 rs q _ _ g P.gc]
  simp only[Cy]
  rw[←P.len,List.drop_left,cL]
  simp only[ob,cb]
  rw[P.len];omega
theorem ax2{c:Nat->Nat->List (List Int)}{Z:Nat->Nat}{b:List Int}{a:Nat}(h:c a 1≠[])(f:1<Z a):kl c Z b [a] 1≠[]:=by
 have e:min (1-([]:List Nat).length) (Z a-1)=1:=bu;unfold kl;rw[e];cases d:c a 1 with
 |nil=>exact absurd d h
 |cons q l=>simp[d,kl]
def NT(a:Nat)(b:Nat->Nat->List (List Int)):Prop:=∀s n,(b s n).length<=a^n
theorem UO{b d:Type}(f:b->List d)(c:Nat):∀l:List b,(∀a∈l,(f a).length<=c)->(l.flatMap f).length<=l.length*c
 |[],_=>by simp
 |a::l,h=>by
  rw[yL,ie,mP,vH]
  have:=UO f c l fun g e=>h g (i6 _ e)
  have:=h a (mQ ..)
  omega
theorem Xf{d:Nat}{e:Nat->Nat->List (List Int)}{Z:Nat->Nat}(j:1<=d)(g:NT d e):∀(f:List Nat) (b:List Int) (m:Nat),(kl e Z b f m).length<=2^m*d^m
 |[],b,m=>by
  unfold kl
  split
  ·rename_i h;subst h;simp
  ·simp
 |a::f,b,m=>by
  unfold kl
  have step:∀c,c<=m->((List.range' 1 c).flatMap fun n=>(e a n).flatMap fun q=>kl e Z (b++q) f (m-n)).length<=(2^m-2^(m-c))*d^m:=by
   intro c
   induction c with
   |zero=>intro _;simp
   |succ c k=>
    intro o
    rw[aaO,EZ,ie,yL,MS,qK]
    have H:=k z
    have I:=UO (fun q=>kl e Z (b++q) f (m-(1+c))) (2^(m-(1+c))*d^(m-(1+c))) (e a (1+c)) fun q _=>Xf j g f _ _
    have i:=g a (1+c)
    have r:(e a (1+c)).length*(2^(m-(1+c))*d^(m-(1+c)))<=2^(m-(1+c))*d^m:=by
     calc (e a (1+c)).length*(2^(m-(1+c))*d^(m-(1+c)))<=d^(1+c)*(2^(m-(1+c))*d^(m-(1+c))):=oU _ i
      _=2^(m-(1+c))*(d^(1+c)*d^(m-(1+c))):=by rw[←Cx,E3 (d^(1+c)),Cx]
      _=2^(m-(1+c))*d^m:=by rw[←abf,show 1+c+(m-(1+c))=m by omega]
    have s:2^(m-c)=2^(m-(1+c))+2^(m-(1+c)):=by rw[show m-c=(m-(1+c))+1 by omega,w4];omega
    have t:2^(m-c)<=2^m:=ks z z
    have l:2^m-2^(m-(c+1))=(2^m-2^(m-c))+2^(m-(1+c)):=by
     rw[show m-(c+1)=m-(1+c) by omega]
     generalize 2^(m-(1+c))=x at*
     generalize 2^(m-c)=y at*
     generalize 2^m=ae at*
     omega
    rw[l,vH]
    omega
  have:=step (min (m-f.length) (Z a-1)) z
  refine db this ?_
  exact oU _ (abg _ _)
def vu(a:Nat->Nat->List (List Int))(Z need:Nat->Nat)(n s:Nat)(e:bA×Nat):List (List Int):=
 if e.1.h=s/\n+1<Z s/\n+1<=need s then kl a Z [(e.2:Int)] e.1.args n else []
def fI(rs:List bA)(Z need:Nat->Nat):Nat->Nat->Nat->List (List Int)
 |0,_,_=>[]
 |n+1,s,m=>if m=n+1 then rs.zipIdx.flatMap (vu (fI rs Z need n) Z need n s)else fI rs Z need n s m
def part(rs:List bA)(Z need:Nat->Nat)(n k:Nat)(s m:Nat):List (List Int):=
 if m=n+1 then(rs.zipIdx.take k).flatMap (vu (fI rs Z need n) Z need n s)else fI rs Z need n s m
theorem amR(rs:List bA)(Z need:Nat->Nat):∀n s m,n<m->fI rs Z need n s m=[]
 |0,s,m,h=>rfl
 |n+1,s,m,h=>by
  unfold fI
  rw[bn z,amR rs Z need n s m z]
theorem aAo(rs:List bA)(Z need:Nat->Nat)(n s m:Nat):part rs Z need n 0 s m=fI rs Z need n s m:=by
 unfold part;split
 ·rename_i h;rw[amR _ _ _ _ _ _ z];simp
 ·rfl
theorem aAl(rs:List bA)(Z need:Nat->Nat)(n s m:Nat):part rs Z need n rs.length s m=fI rs Z need (n+1) s m:=by
 have e:rs.zipIdx.take rs.length=rs.zipIdx:=tt am;unfold part;rw[e];rfl
theorem ak4(rs:List bA)(Z need:Nat->Nat)(n k s m:Nat)(a:k<rs.length):part rs Z need n (k+1) s m=part rs Z need n k s m++(if m=n+1 then vu (fI rs Z need n) Z need n s (rs[k],k)else []):=by
 unfold part;split
 ·have b:k<rs.zipIdx.length:=by simpa using a
  rw[tu b,EZ,yL,MS,qK,List.getElem_zipIdx,gm]
 ·rw[qK]
theorem ax3(rs:List bA)(Z need:Nat->Nat)(n k:Nat)(b:List Int)(c:List Nat):kl (part rs Z need n k) Z b c n=kl (fI rs Z need n) Z b c n:=by
 apply aiE;intro a _ i hi _;unfold part;rw[bn z]
theorem Mr{rs:List bA}{M Z need:Nat->Nat}(b:∀s,Z s<=M s+1):∀n,S_ rs M (fI rs Z need n)
 |0=>fun s m p h=>by cases h
 |n+1=>fun s m p h=>by
  unfold fI at h
  split at h
  ·rename_i f
   subst f
   obtain⟨⟨r,k⟩,d,h⟩:=MV.1 h
   have g:=RP.1 d
   obtain⟨a,e⟩:=j2.1 g
   simp only at e a
   subst e
   unfold vu at h
   split at h
   ·rename_i c
    obtain⟨H,I,i⟩:=c
    obtain⟨q,rfl,b2,cL,hp⟩:=aiF (Mr b n) _ _ _ p h
    have j:=b s
    simp only at H
    refine⟨bu,?_,tI.cons a hp cL (by rw[H];omega),z⟩
    show gc rs [s] ((k:Int)::q)=_
    rw[Do rs s [] q k a H,qK,cL]
    rfl
   ·cases h
  ·exact Mr b n s m p h
theorem Mq{rs:List bA}{Z need:Nat->Nat}(a:rs.length<=9):∀n,n<=5->NT 144 (fI rs Z need n)
 |0,_=>fun s m=>by simp[fI]
 |n+1,c=>fun s m=>by
  unfold fI
  split
  ·rename_i b
   subst b
   have H:=UO (vu (fI rs Z need n) Z need n s) (2^n*144^n) rs.zipIdx fun e _=>by
    unfold vu
    split
    ·exact Xf z (Mq a n z) _ _ _
    ·simp
   rw[List.length_zipIdx]at H
   refine db H ?_
   have I:(2:Nat)^n<=2^4:=ks z z
   calc rs.length*(2^n*144^n)<=9*(2^4*144^n):=w3 a (oU _ I)
    _=144^(n+1):=by rw[w4];omega
  ·exact Mq a n z s m
theorem ak3{rs:List bA}{Z need:Nat->Nat}(a:rs.length<=9)(n k:Nat)(c:n<5):NT 144 (part rs Z need n k):=fun s m=>by
 unfold part
 split
 ·rename_i b
  subst b
  have H:=Mq (Z:=Z) (need:=need) a (n+1) z s (n+1)
  unfold fI at H
  rw[cv rfl]at H
  refine db ?_ H
  have e:rs.zipIdx=rs.zipIdx.take k++rs.zipIdx.drop k:=(yR ..).symm
  conv=>rhs;rw[e]
  rw[EZ,ie]
  omega
 ·exact Mq a n z s m
theorem amS{rs:List bA}{Z need:Nat->Nat}{s k:Nat}(a:k<rs.length)(b:rs[k].h=s)(c:rs[k].args=[])(g:1<Z s)(f:1<=need s)(n:Nat)(H:1<=n):fI rs Z need n s 1≠[]:=by
 induction n with
 |zero=>omega
 |succ n j=>
  unfold fI;by_cases e:(1:Nat)=n+1
  ·rw[cv e];obtain rfl:n=0:=z;intro i;have d:(rs[k],k)∈rs.zipIdx:=RP.2 (by simp[a]);have:=anD.1 i _ d;unfold vu at this;rw[cv ⟨b,g,f⟩,c]at this;simp[kl]at this
  ·rw[bn e];exact j z
theorem aDl{rs:List bA}{Z need:Nat->Nat}{s a k j:Nat}(e:k<rs.length)(f:rs[k].h=s)(i:rs[k].args=[a])(l:j<rs.length)(g:rs[j].h=a)(c:rs[j].args=[])(q:2<Z s)(o:2<=need s)(b:1<Z a)(n:1<=need a):fI rs Z need 2 s 2≠[]:=by
 have d:=amS (Z:=Z) (need:=need) l g c b n 1 z;show(if 2=1+1 then rs.zipIdx.flatMap (vu (fI rs Z need 1) Z need 1 s)else fI rs Z need 1 s 2)≠[];rw[cv rfl];intro r;have m:(rs[k],k)∈rs.zipIdx:=RP.2 (by simp[e]);have:=anD.1 r _ m;unfold vu at this;rw[cv ⟨f,q,o⟩,i]at this;exact ax2 d b this
end Go.bj
namespace Go.bj
open Go.c0
def sn(rs:List bA)(s:Nat):Bool:=rs.any fun r=>Nat.beq r.h s&&r.args.isEmpty
def He(rs:List bA)(aj:Nat):Bool:=rs.any fun r=>Nat.beq r.h aj&&(match r.args with|[a]=>sn rs a|_=>false)
def unary(c8:List bA)(aj s:Nat):Bool:=c8.any fun r=>Nat.beq r.h aj&&(match r.args with|[a]=>Nat.beq a s|_=>false)
def qZ(c8 rs:List bA)(aj s i:Nat):Bool:=
 bif Nat.beq s aj then(bif Nat.beq i 1 then !sn rs aj else !(sn rs aj||He rs aj))else unary c8 aj s&& !sn rs s
def zm(t:List (List Nat))(c8 rs:List bA)(aj a:Nat):List (List Nat):=
 (List.range a).map fun s=>(List.range 6).map fun i=>bif qZ c8 rs aj s i then 0 else nH t s i
def Hu(t:List (List Nat))(c8:List bA)(aj b:Nat):Bool:=
 c8.all (fun r=>Nat.blt r.h b&&(bif Nat.beq r.h aj then(match r.args with|[]=>true|[a]=> !(Nat.beq a aj)|l=>l.contains aj)else(bif unary c8 aj r.h then(r.args.isEmpty||r.args.contains r.h)else true)))&&
 Nat.blt aj b&&t.all (fun l=>Nat.beq (l.getD 0 0) 0)
theorem LK{a b:Nat}(h:a≠b):Nat.beq a b=false:=by
 cases e:Nat.beq a b
 ·rfl
 ·exact absurd (gV e) h
theorem PW{rs:List bA}{s:Nat}(h:sn rs s=true):∃(k:Nat) (a:k<rs.length),rs[k].h=s/\rs[k].args=[]:=by
 obtain⟨r,b,H⟩:=HO.1 h;obtain⟨k,a,rfl⟩:=RM b;simp only[dz]at H;exact⟨k,a,gV H.1,List.isEmpty_iff.1 H.2⟩
theorem W_{rs:List bA}{s:Nat}(h:sn rs s=false){r:bA}(b:r∈rs)(a:r.h=s):r.args≠[]:=fun e=>by
 have:sn rs s=true:=HO.2 ⟨r,b,by simp[a,e]⟩
 rw[h]at this;cases this
theorem Oh(t:List (List Nat))(c8 rs:List bA)(aj a s i:Nat)(b:s<a)(hi:i<6):nH (zm t c8 rs aj a) s i=bif qZ c8 rs aj s i then 0 else nH t s i:=by
 conv=>lhs;unfold nH
 unfold zm;rw[pm,pm,pn,aba b];simp only[ob,H2];rw[pn,aba hi];rfl
theorem Oi(t:List (List Nat))(c8 rs:List bA)(aj a s i:Nat)(h:¬(s<a/\i<6)):nH (zm t c8 rs aj a) s i=0:=by
 unfold nH zm;rw[pm,pm,pn];by_cases b:s<a
 ·rw[aba b];simp only[ob,H2];rw[pn,E0 (by rw[abb];omega)];rfl
 ·rw[E0 (l:=List.range a) (by rw[abb];omega)];rfl
theorem aex(t:List (List Nat))(c8 rs:List bA)(aj a s i:Nat):nH (zm t c8 rs aj a) s i<=nH t s i:=by
 by_cases h:s<a/\i<6
 ·rw[Oh t c8 rs aj a s i h.1 h.2];cases qZ c8 rs aj s i
  ·exact aZ _
  ·exact dq _
 ·rw[Oi _ _ _ _ _ _ _ h];exact dq _
theorem aer{bD b:Nat->Nat->Nat}(c:∀s i,bD s i<=b s i):∀(l:List Nat) {W W':Nat->Nat},(∀i,i<10->W i<=W' i)->∀i,i<10->ot bD l W i<=ot b l W' i
 |[],W,W',h=>h
 |a::l,W,W',h=>aer c l fun i _=>Mp h (fun i _=>c a i) (aZ _) 10 (aZ _)
theorem akw{bD b:Nat->Nat->Nat}(d:∀s i,bD s i<=b s i):∀(l:List Nat) {W W':Nat->Nat},(∀i,i<10->W i<=W' i)->El b l W'->El bD l W
 |[],W,W',h,n=>fun i hi=>p2 (h i hi) (n i hi)
 |a::l,W,W',h,n=>by
  have c:∀i,i<10->kE W (bD a) 6 i 10<=kE W' (b a) 6 i 10:=fun i _=>Mp h (fun i _=>d a i) (aZ _) 10 (aZ _)
  exact⟨fun i hi=>p2 (h i hi) (n.1 i hi),fun i hi=>p2 (c i hi) (n.2.1 i hi),akw d l c n.2.2⟩
theorem amH{bD a:Nat->Nat->Nat}(b:∀s i,bD s i<=a s i)(s i:Nat)(hi:i<10):∀l:List bA,pX bD s i l<=pX a s i l
 |[]=>aZ _
 |r::l=>by
  simp only[pX]
  have H:=amH b s i hi l
  split
  ·have:=aer b r.args (W:=kX) (W':=kX) (fun _ _=>aZ _) i hi
   omega
  ·omega
theorem amG{W C:Nat->Nat}(h:∀i,C i=0)(n i:Nat):∀k,kE W C n i k=0
 |0=>rfl
 |k+1=>by
  have:=amG (W:=W) h n i k
  simp only[kE,yn,this,h]
  split<;>simp
theorem amF{W C:Nat->Nat}(h:∀i,i<10->W i=0)(n i:Nat):∀k,k<=10->kE W C n i k=0
 |0,_=>rfl
 |k+1,a=>by
  have:=amF (C:=C) h n i k z
  simp only[kE,yn,this,h k z]
  split<;>simp
theorem aeu{bD:Nat->Nat->Nat}:∀(l:List Nat) {W:Nat->Nat},(∀i,i<10->W i=0)->∀i,i<10->ot bD l W i=0
 |[],W,h=>h
 |a::l,W,h=>aeu l fun i _=>amF h 6 i 10 (aZ _)
theorem Og{bD:Nat->Nat->Nat}{a:Nat}(c:∀i,bD a i=0):∀(l:List Nat) (W:Nat->Nat),a∈l->∀i,i<10->ot bD l W i=0
 |b::l,W,h=>by
  rcases gl.1 h with e|h
  ·subst e
   exact aeu l fun i _=>amG c 6 i 10
  ·exact Og c l _ h
theorem aes{bD:Nat->Nat->Nat}:∀(l:List Nat) {W:Nat->Nat},W 0=0->W 1=0∨l≠[]->ot bD l W 0=0/\ot bD l W 1=0
 |[],W,ab,H=>by
  rcases H with H|H
  ·exact⟨ab,H⟩
  ·exact absurd rfl H
 |a::l,W,ab,_=>by
  have eg:kE W (bD a) 6 0 10=0:=by simp[kE,yn]
  have ak:kE W (bD a) 6 1 10=0:=by simp[kE,yn,ab]
  exact aes l eg (.inl ak)
theorem amK{bD:Nat->Nat->Nat}{s i:Nat}:∀{rs:List bA},(∀r∈rs,r.h=s->ot bD r.args kX i=0)->pX bD s i rs=0
 |[],_=>rfl
 |r::l,h=>by
  simp only[pX]
  rw[amK fun q a=>h q (i6 _ a)]
  split
  ·rename_i e;rw[h r (mQ ..) e]
  ·rfl
theorem ase{t:List (List Nat)}{c8 rs:List bA}{aj d:Nat}(w:xk (nH t) c8)(m:Hu t c8 aj d=true)(k:rs.Sublist c8):xk (nH (zm t c8 rs aj d)) rs:=by
 have y:=aex t c8 rs aj d;simp only[Hu,dz]at m;obtain⟨⟨m,B⟩,ab⟩:=m;have B:aj<d:=by simpa using B
 have F:∀r∈rs,r.h<d/\(r.h=aj->r.args=[]∨(∃a,r.args=[a]/\a≠aj)∨aj∈r.args)/\(r.h≠aj->unary c8 aj r.h=true->r.args=[]∨r.h∈r.args):=fun r c=>by
  have h:=hs.1 m r (k.subset c);simp only[dz]at h;refine⟨by simpa using h.1,fun e=>?_,fun e hu=>?_⟩
  ·have I:=h.2;rw[e,HY,er]at I;split at I
   ·rename_i C;exact .inl C
   ·rename_i a C;exact .inr (.inl ⟨a,C,fun P=>by subst P;simp at I⟩)
   ·exact .inr (.inr (anz.1 I))
  ·have I:=h.2;have bL:Nat.beq r.h aj=false:=LK e;rw[bL,iK,hu,er]at I;rcases anp.1 I with u|u
   ·exact .inl (List.isEmpty_iff.1 u)
   ·exact .inr (anz.1 u)
 refine⟨fun s i hi=>?_,fun r c=>akw y _ (fun _ _=>aZ _) (w.num r (k.subset c)),fun s i=>p2 (y s i) (w.lt s i)⟩;by_cases n:s<d
 ·cases A:qZ c8 rs aj s i with
  |false=>rw[Oh t c8 rs aj d s i n hi,A,iK];exact db (amH y s i z rs) (db (amJ k) (w.sum s i hi))
  |true=>
   have M:pX (nH (zm t c8 rs aj d)) s i rs=0:=amK fun r c e=>by
    obtain⟨_,Q,O⟩:=F r c;have o:∀a,a<d->(∀j,qZ c8 rs aj a j=true)->∀j,nH (zm t c8 rs aj d) a j=0:=fun a b h j=>by
     by_cases D:j<6
     ·rw[Oh t c8 rs aj d a j b D,h j,er]
     ·exact Oi _ _ _ _ _ _ _ fun q=>D q.2
    subst e;by_cases f:r.h=aj
    ·unfold qZ at A;rw[f,HY,er]at A;by_cases ak:i=1
     ·rw[ak,HY,er]at A;have H:sn rs aj=false:=by simpa using A
      rw[ak];exact(aes r.args (W:=kX) rfl (.inr (W_ H c f))).2
     ·have K:Nat.beq i 1=false:=LK ak;rw[K,iK]at A;have l:sn rs aj=false/\He rs aj=false:=by simpa using A
      rcases Q f with b|⟨a,b,N⟩|b
      ·exact absurd b (W_ l.1 c f)
      ·have hu:unary c8 aj a=true:=HO.2 ⟨r,k.subset c,by rw[f,b];simp⟩;have J:sn rs a=false:=by
        cases L:sn rs a
        ·rfl
        ·have:He rs aj=true:=HO.2 ⟨r,c,by rw[f,b];simp[L]⟩;rw[l.2]at this;cases this
       have g:∀j,qZ c8 rs aj a j=true:=fun j=>by unfold qZ;have:Nat.beq a aj=false:=LK N;rw[this,iK,hu,J];rfl
       refine Og (a:=a) (fun j=>?_) r.args kX (by rw[b];exact mQ ..) i z;by_cases G:a<d
       ·exact o a G g j
       ·exact Oi _ _ _ _ _ _ _ fun q=>G q.1
      ·have g:∀j,qZ c8 rs aj aj j=true:=fun j=>by unfold qZ;rw[HY,er,l.1,l.2];cases Nat.beq j 1<;>rfl
       exact Og (o aj B g) r.args kX b i z
    ·have x:=A;unfold qZ at x;have E:Nat.beq r.h aj=false:=LK f;rw[E,iK]at x;have hu:unary c8 aj r.h=true/\sn rs r.h=false:=by simpa using x
     rcases O f hu.1 with b|b
     ·exact absurd b (W_ hu.2 c rfl)
     ·have g:∀j,qZ c8 rs aj r.h j=true:=fun j=>by unfold qZ;rw[E,iK,hu.1,hu.2];rfl
      exact Og (o r.h n g) r.args kX b i z
   rw[M];exact dq _
 ·rw[Y3 fun r c e=>n (by have:=(F r c).1;omega)];exact dq _
def wb(rs:List bA)(M:Nat->Nat)(aj:Nat):Prop:=
 (∃(k:Nat) (b:k<rs.length),rs[k].h=aj/\rs[k].args=[])∨
 (2<=M aj/\∃(a k j:Nat) (b:k<rs.length) (c:j<rs.length),rs[k].h=aj/\rs[k].args=[a]/\rs[j].h=a/\rs[j].args=[])
theorem akQ{rs:List bA}{aj:Nat}(h:He rs aj=true):∃(a k j:Nat) (b:k<rs.length) (c:j<rs.length),rs[k].h=aj/\rs[k].args=[a]/\rs[j].h=a/\rs[j].args=[]:=by
 obtain⟨r,d,H⟩:=HO.1 h;obtain⟨k,b,rfl⟩:=RM d;simp only[dz]at H;obtain⟨H,I⟩:=H;split at I
 ·rename_i a f;obtain⟨j,c,ak,e⟩:=PW I;exact⟨a,k,j,b,c,gV H,f,ak,e⟩
 ·cases I
theorem aC4{t:List (List Nat)}{c8 rs:List bA}{aj a:Nat}{M:Nat->Nat}(d:Hu t c8 aj a=true){i:Nat}(hi:i<=M aj)(h:nH (zm t c8 rs aj a) aj i≠0):wb rs M aj:=by
 simp only[Hu,dz]at d;obtain⟨⟨_,b⟩,ab⟩:=d;have b:aj<a:=by simpa using b
 have j:i<6:=by
  by_cases c:i<6
  ·exact c
  ·exact absurd (Oi _ _ _ _ _ _ _ fun q=>c q.2) h
 have n:i≠0:=fun e=>by
  subst e;apply h;have:=aex t c8 rs aj a aj 0;have m:nH t aj 0=0:=by
   unfold nH;rw[pm (l:=t)];cases g:t[aj]? with
   |none=>rfl
   |some l=>exact gV (hs.1 ab l (Aw g))
  omega
 rw[Oh t c8 rs aj a aj i b j]at h;have A:qZ c8 rs aj aj i=false:=by
  cases A:qZ c8 rs aj aj i
  ·rfl
  ·rw[A]at h;exact absurd rfl h
 unfold qZ at A;rw[HY,er]at A;by_cases ak:i=1
 ·rw[ak,HY,er]at A;exact .inl (PW (by simpa using A))
 ·have f:Nat.beq i 1=false:=LK ak;rw[f,iK]at A;have k:sn rs aj=true∨He rs aj=true:=by
   cases H:sn rs aj
   ·right;rw[H]at A;simpa using A
   ·exact .inl rfl
  rcases k with H|H
  ·exact .inl (PW H)
  ·exact .inr ⟨z,akQ H⟩
end Go.bj
namespace Go.bj
open Go Go.Proofs.Tryz Go.Proofs Go.RowKit Go.c0
structure mw (w:World) (b n:Nat) (f:Nat->Nat):Prop where
 lt:b<w.heap.size
 md:∃arr,w.heap[b]? =some (.cells arr 3 (0,0))/\arr.size=n/\∀i,i<n->arr[i]? =some (.int .i64 (f i))
theorem mw.cell{w:World}{b n:Nat}{f:Nat->Nat}(h:mw w b n f){i:Nat}(hi:i<n):w.cell? ⟨b,i,none⟩=some (.int .i64 (f i)):=by
 obtain⟨arr,H,_,a⟩:=h.md;exact lb H (a i hi)
theorem mw.free{w:World}{b n:Nat}{f:Nat->Nat}(h:mw w b n f)(i:Nat):w.frozen? ⟨b,i,none⟩=false:=by
 obtain⟨arr,H,_⟩:=h.md;simp[World.frozen?,H]
theorem mw.U{w w':World}{b n B:Nat}{f:Nat->Nat}(h:mw w b n f)(c:b<B)(A:Below B w w'):mw w' b n f:=by
 obtain⟨arr,H,I,a⟩:=h.md;exact⟨cE A h.lt,arr,by rw[A.block b c];exact H,I,a⟩
theorem mw.set{w:World}{b n:Nat}{f:Nat->Nat}(h:mw w b n f){j m:Nat}(c:j<n):mw (w.setCell ⟨b,j,none⟩ (.int .i64 m)) b n (fun i=>if i=j then m else f i):=by
 obtain⟨arr,H,I,a⟩:=h.md;refine⟨by simpa using h.lt,arr.setIfInBounds j (.int .i64 m),hS H _,by simpa using I,fun i hi=>?_⟩;by_cases e:i=j
 ·subst e;simp[I,hi]
 ·simp only[bn e];rw[yG (ht e)];exact a i hi
theorem ayP(n:Nat)(H:1<=n)(a:n<=12):∀(w:World),(Instr.makeSlice 22 (.int .i64 n) (.int .i64 n)).run prog w=.ok (.slice (some ⟨w.heap.size,0,none⟩) n n) (w.alloc (.cells (Array.replicate n (.int .i64 0)) 3)):=by
 exact aji
theorem mw.zero(w:World)(n:Nat):mw (w.alloc (.cells (Array.replicate n (.int .i64 0)) 3)) w.heap.size n (fun _=>0):=
 ⟨am,_,da w _,am,fun i hi=>by simp[hi]⟩
theorem hw.set{w wr:World}{a:Array Value}(h:hw w a wr){b i:Nat}{v:Value}(A:w.heap.size<b):hw w a (wr.setCell ⟨b,i,none⟩ v):=
 ⟨h.b.setCell (Ct A) _,by unfold kd;rw[hm _ _ _ _ (show w.heap.size≠b by omega)];exact h.g⟩
structure sI (M:Nat->Nat) (rs:List bA) (aj d:Nat) (f:Nat->Nat):Prop where
 le:∀i,f i<=5
 ee:M aj<=f aj
 Aj:∀j (aa:j<rs.length),j<d->rs[j].h=aj->2<=M aj->∀a,rs[j].args=[a]->1<=f a
theorem sI.HC{M:Nat->Nat}{rs:List bA}{aj d:Nat}{f:Nat->Nat}(h:sI M rs aj d f){a m:Nat}(H:f a<=m)(k:m<=5):sI M rs aj d (fun i=>if i=a then m else f i):=by
 refine⟨fun i=>?_,?_,fun j g hd c I b A=>?_⟩
 ·split
  ·exact k
  ·exact h.le i
 ·split
  ·rename_i e;have:=h.ee;rw[e]at this⊢;omega
  ·exact h.ee
 ·have:=h.Aj j g hd c I b A;split
  ·rename_i e;subst e;omega
  ·exact this
theorem sI.step{M:Nat->Nat}{rs:List bA}{aj d k:Nat}{f:Nat->Nat}(h:sI M rs aj d f)(m:k<rs.length)(hd:k<=d)(hu:rs[k].h=aj->2<=M aj->∀a,rs[k].args=[a]->1<=f a):∃g,k+1<=g/\sI M rs aj g f:=by
 by_cases eg:k+1<=d
 ·exact⟨d,eg,h⟩
 obtain rfl:d=k:=z;refine⟨d+1,z,h.le,h.ee,fun j i l b I a c=>?_⟩;by_cases e:j<d
 ·exact h.Aj j i e b I a c
 ·obtain rfl:j=d:=z;exact hu b I a c
section
variable {S:cO} {M:Nat->Nat} {rs:List bA} {ca bd:Option Addr} {cc aV rb aC rc:Nat} {w:World}
def apY(S:cO)(M:Nat->Nat)(rs:List bA)(e:Ending)(w':World):Prop:=∃b f,e=.returned (.slice (some ⟨b,0,none⟩) S.aB.length S.aB.length)/\mw w' b S.aB.length f/\sI M rs S.aj rs.length f
attribute [local irreducible] wpStill wpAnyH in
theorem ay2(h:oX S M rs ca bd cc aV rb aC rc w): Calls prog 175 #[.agg (eh S rs ca bd cc aV rb aC rc)] w fun e w'=>apY S M rs e w'/\Below w.heap.size w w':=by
 have Fl:=G h;have aQ:=hw.eI w (eh S rs ca bd cc aV rb aC rc);have s8:=h.ok.vB;have rf:=h.ok.aB;have eE:=h.ok.aj;have ug:=h.qA;have k3:=G h.oG;have DC:=h.oG S.aj;have SB:=G (fun r (Y:r∈rs)=>h.ok.Ab r (h.sub.subset Y));obtain⟨bJ,s,sg,jV,kk⟩:=h.y;have pw:=G (fun W (ar:Below w.heap.size w W) i (hi:i<S.aB.length)=>aA ar jV (kk i hi).2.2);subst sg;have mS:=G h.r;have sa:=ayP S.aB.length s8 rf;have u:=aS 3 aQ.g;clear h;go_enter func175,ntmps175;go_upto_region 2 with fail
 have ab:=G sa;clear sa u;have T:hw w (eh S rs ca (some ⟨bJ,s,none⟩) cc aV rb aC rc) ((w.alloc (.cells (eh S rs ca (some ⟨bJ,s,none⟩) cc aV rb aC rc) 29)).alloc (.cells (Array.replicate S.aB.length (.int .i64 0)) 3)):=aQ.U ((bi _ _).alloc (aZ _) _);have D:=mw.zero (w.alloc (.cells (eh S rs ca (some ⟨bJ,s,none⟩) cc aV rb aC rc) 29)) S.aB.length;rw[jC]at D;clear aQ ab;generalize (w.alloc (.cells (eh S rs ca (some ⟨bJ,s,none⟩) cc aV rb aC rc) 29)).alloc (.cells (Array.replicate S.aB.length (.int .i64 0)) 3)=ap at*;have re:=D.lt;have fr:=D.free S.aj;have br:=D.cell eE;obtain⟨-,-,-,u,-,dZ⟩:=fZ T.g;have hg:=pw.out _ T.b S.aj eE;have Qh:w.heap.size≠w.heap.size+1:=z;have XV:bJ≠w.heap.size+1:=z;have g4:(0:Int)<=(S.aj:Int):=z;have gx:(S.aj:Int)<S.aB.length:=z;clear kk
 go_region_held3 (fun aD=>aD.cell? ⟨w.heap.size,3,none⟩=some (.slice (some ⟨bJ,s,none⟩) S.aB.length aV)/\aD.cell? ⟨w.heap.size,5,none⟩=some (.int .i64 S.aj)/\aD.cell? ⟨bJ,s+S.aj*3+2,none⟩=some (.int .i64 (M S.aj))) (first|exact⟨u,dZ,hg⟩|exact⟨(mO (hm _ _ _ _ Qh)).trans u,(mO (hm _ _ _ _ Qh)).trans dZ,(mO (hm _ _ _ _ XV)).trans hg⟩|go_keep) (fail);have qO:hw w (eh S rs ca (some ⟨bJ,s,none⟩) cc aV rb aC rc) (ap.setCell ⟨w.heap.size+1,S.aj,none⟩ (.int .i64 (M S.aj))).drew:=(T.set z).F7;have zu:=(D.set (m:=M S.aj) eE).U (B:=w.heap.size+2) z ((bi _ _).drew);have ad:sI M rs S.aj 0 (fun i=>if i=S.aj then M S.aj else 0):=⟨fun i=>by
  split
  ·exact DC.2
  ·omega,am,fun j aa hd=>z⟩
 clear T D re fr br u dZ hg;generalize (ap.setCell ⟨w.heap.size+1,S.aj,none⟩ (.int .i64 (M S.aj))).drew=ao at*;generalize o8:(fun i=>if i=S.aj then M S.aj else 0)=lE at*;clear o8
 go_wp2;go_loopw [4] (fun v wr=>∃(t d:Nat) (f:Nat->Nat),t<=S.aB.length+1/\v=.int .i64 t/\(1<=t->rs.length<=d)/\hw w (eh S rs ca (some ⟨bJ,s,none⟩) cc aV rb aC rc) wr/\mw wr (w.heap.size+1) S.aB.length f/\sI M rs S.aj d f) (fun v _=>S.aB.length+1-(RowKit.intOf v).toNat);case atStart=>exact⟨0,0,_,dq _,rfl,z,qO,zu,ad⟩
 case round=>
  clear qO zu ad;obtain⟨t,d,f,ah,rfl,hd,l,n,g⟩:=hrel;have u:=aS 3 l.g;have zT:=cX l.g;by_cases aq:t<S.aB.length+1
  ·have li:(t:Int)<(S.aB.length:Int)+1:=z;have W1:(S.aB.length:Int)<=12:=z
   go_wp2;go_loopw [5] (fun v wr=>∃(k d:Nat) (f:Nat->Nat),k<=rs.length/\v=.int .i64 k/\k<=d/\hw w (eh S rs ca (some ⟨bJ,s,none⟩) cc aV rb aC rc) wr/\mw wr (w.heap.size+1) S.aB.length f/\sI M rs S.aj d f) (fun v _=>rs.length-(RowKit.intOf v).toNat);case atStart=>exact⟨0,d,f,dq _,rfl,dq _,l,n,g⟩
   case round=>
    clear l n g u zT hd;obtain⟨k,d,f,ab,rfl,xW,l,n,g⟩:=hrel;have dF:=aS 4 l.g;have zT:=cX l.g;by_cases s6:k<rs.length
    ·obtain⟨tg,Hp,cw,K,kj⟩:=mS.out;cases cw;obtain⟨y,ac,Y⟩:=kj k s6;have fV:=(l.b.cell K).trans Y.br;have b6:=(l.b.cell K).trans Y.c1;have cf:=(l.b.cell K).trans Y.c2;have ep:=(l.b.cell K).trans Y.c3;have h8:=G Y.args;obtain⟨b7,nT,xP,_,_⟩:=SB.out _ (fM s6);have mj:(0:Int)<=(k:Int):=z;have lj:(k:Int)<rs.length:=z;clear kj Y;go_upto_region 10 with fail
     have Fj:hw w (eh S rs ca (some ⟨bJ,s,none⟩) cc aV rb aC rc) (wr.alloc (.cells #[.int .i64 rs[k].h,.string rs[k].op,.string rs[k].aF,.slice y rs[k].args.length ac] 86)).drew:=(l.U ((bi _ _).alloc (aZ _) _)).F7;have N:kd (wr.alloc (.cells #[.int .i64 rs[k].h,.string rs[k].op,.string rs[k].aF,.slice y rs[k].args.length ac] 86)).drew wr.heap.size 86 #[.int .i64 rs[k].h,.string rs[k].op,.string rs[k].aF,.slice y rs[k].args.length ac]:=(kd.eI wr _ _).U ((bi _ _).drew);have Z:mw (wr.alloc (.cells #[.int .i64 rs[k].h,.string rs[k].op,.string rs[k].aF,.slice y rs[k].args.length ac] 86)).drew (w.heap.size+1) S.aB.length f:=n.U n.lt ((fH wr _).drew);have ay:w.heap.size+1<wr.heap.size:=n.lt;have zU:=cX N;refine tq au au ?_;change wpStill _ _ (wr.alloc (.cells #[.int .i64 rs[k].h,.string rs[k].op,.string rs[k].aF,.slice y rs[k].args.length ac] 86)).drew (fun dI=>Exit.then _ _ Exit.normal dI (wr.alloc (.cells #[.int .i64 rs[k].h,.string rs[k].op,.string rs[k].aF,.slice y rs[k].args.length ac] 86)).drew) _ _;clear l n fV b6 cf ep dF;generalize (wr.alloc (.cells #[.int .i64 rs[k].h,.string rs[k].op,.string rs[k].aF,.slice y rs[k].args.length ac] 86)).drew=bz at*;generalize wr.heap.size=A at*;obtain⟨fj,-,-,C⟩:=T' N;have al:=Z.cell b7;have an:=g.le rs[k].h;have n0:(0:Int)<=(rs[k].h:Int):=z;have zR:(rs[k].h:Int)<(S.aB.length:Int):=z;have x':(f rs[k].h:Int)<=5:=z;have Eb:(rs[k].args.length:Int)<=3:=z;repeat still_step
     refine qJ ?_;have ag:IntKind.i64.wrap ((f rs[k].h:Int)-(rs[k].args.length:Int))=(f rs[k].h:Int)-(rs[k].args.length:Int):=oQ _ ⟨z,z⟩;rw[ag];obtain⟨R,H⟩:∃R:Int,(f rs[k].h:Int)-(rs[k].args.length:Int)=R:=⟨_,rfl⟩;rw[H];clear ag al;have o5:R<=5:=z;have ak:=G g.ee;have H:=G H;have k2:=G (show Go.bj.sI M rs S.aj d f from g)
     go_wp2;go_loopw [8] (fun v wr=>∃(j:Nat) (x:Nat->Nat),j<=rs[k].args.length/\v=.int .i64 j/\hw w (eh S rs ca (some ⟨bJ,s,none⟩) cc aV rb aC rc) wr/\kd wr A 86 #[.int .i64 rs[k].h,.string rs[k].op,.string rs[k].aF,.slice y rs[k].args.length ac]/\mw wr (w.heap.size+1) S.aB.length x/\sI M rs S.aj d x/\Hid (1<=j->rs[k].h=S.aj->2<=M S.aj->∀a,rs[k].args=[a]->1<=x a)) (fun v _=>rs[k].args.length-(RowKit.intOf v).toNat);case atStart=>exact⟨0,f,dq _,rfl,Fj,N,Z,g,G fun h=>z⟩
     case round=>
      clear Fj N Z g fj C zU an x';obtain⟨j,x,aa,rfl,l,E,n,g,Iz⟩:=hrel;have C:=aS 3 E;have u:=aS 3 l.g;have zU:=cX E;by_cases ai:j<rs[k].args.length
      ·have ce:(0:Int)<=(j:Int):=z;have eb:(j:Int)<(rs[k].args.length:Int):=z;obtain⟨F,eH,rfl,ja,nU⟩:=h8.out z;have L:=(l.b.cell ja).trans (nU j ai);have X:=xP _ (fM ai);have Q:=pw.out _ l.b _ X;have fY:=n.cell X;have fE:=n.free rs[k].args[j];have cF:=n.lt;have KW:=k3.out rs[k].args[j];have KG:=g.le rs[k].args[j];have eV:(0:Int)<=(rs[k].args[j]:Int):=z;have oF:(rs[k].args[j]:Int)<(S.aB.length:Int):=z;clear nU
       go_wp2;refine yJ (S:=(fun W=>W.cell? ⟨w.heap.size,3,none⟩=some (.slice (some ⟨bJ,s,none⟩) S.aB.length aV)/\W.cell? ⟨A,3,none⟩=some (.slice (some ⟨F,eH,none⟩) rs[k].args.length ac)/\W.cell? ⟨F,eH+j,none⟩=some (.int .i64 rs[k].args[j])/\W.cell? ⟨bJ,s+rs[k].args[j]*3+2,none⟩=some (.int .i64 (M rs[k].args[j])))) au ⟨u,C,L,Q⟩ (fun jM=>?_);refine b8 0 60 ?_;refine b8 1 61 ?_;refine b8 2 62 ?_;refine b8 3 63 ?_;refine b8 4 64 ?_;refine b8 5 65 ?_;refine b8 6 66 ?_;refine b8 7 67 ?_;refine b8 8 68 ?_;refine b8 9 69 ?_;refine b8 10 70 ?_;refine b8 11 71 ?_;refine b8 12 72 ?_;refine b8 14 74 ?_;refine b8 15 75 ?_;refine b8 16 76 ?_;refine b8 17 77 ?_;refine b8 18 78 ?_;refine b8 19 79 ?_;refine b8 20 80 ?_;refine b8 21 81 ?_;refine b8 22 82 ?_;refine b8 23 83 ?_;refine b8 24 84 ?_;refine b8 25 85 ?_;refine n4 13 (fun b0 g=>?_);go_simp;refine g.out _ _ ⟨u,C,L,Q⟩ (fun jM=>?_);clear g b0;refine gH ?_;refine b8 26 86 ?_;refine b8 27 87 ?_;try simp only[show ∀a b:Int,max a b=if a<b then b else a from fun a b=>by split<;>omega,show ∀a b:Int,min a b=if b<a then b else a from fun a b=>by split<;>omega]
       generalize U:(if(x rs[k].args[j]:Int)<if(M rs[k].args[j]:Int)<R then(M rs[k].args[j]:Int)else R then if(M rs[k].args[j]:Int)<R then(M rs[k].args[j]:Int)else R else(x rs[k].args[j]:Int))=aj;obtain⟨m,rfl,ax,aw,lH⟩:∃m:Nat,aj=(m:Int)/\x rs[k].args[j]<=m/\m<=5/\(1<=R->1<=m):=by refine⟨aj.toNat,?_,?_,?_,?_⟩;all_goals(split at U<;>(try split at U)<;>omega)
       clear U;refine n4 28 (fun b0 g=>?_);go_simp;refine g.out _ _ ⟨(mO (hm _ _ _ _ (show w.heap.size≠w.heap.size+1 by omega))).trans u,(mO (hm _ _ _ _ (show A≠w.heap.size+1 by omega))).trans C,(mO (hm _ _ _ _ (show F≠w.heap.size+1 by omega))).trans L,(mO (hm _ _ _ _ (show bJ≠w.heap.size+1 by omega))).trans Q⟩ (fun jM=>?_);clear g b0;refine gH ?_;refine As au ?_ _;have Fk:=(l.set (b:=w.heap.size+1) (i:=rs[k].args[j]) (v:=.int .i64 m) z).F7;have oY:kd (wr.setCell ⟨w.heap.size+1,rs[k].args[j],none⟩ (.int .i64 m)).drew A 86 #[.int .i64 rs[k].h,.string rs[k].op,.string rs[k].aF,.slice (some ⟨F,eH,none⟩) rs[k].args.length ac]:=by show(wr.setCell ⟨w.heap.size+1,rs[k].args[j],none⟩ (.int .i64 m)).heap[A]? =_;rw[hm _ _ _ _ (show A≠w.heap.size+1 by omega)];exact E
       have r2:=(n.set (m:=m) X).U (B:=w.heap.size+2) z ((bi _ _).drew);have af:=g.HC ax aw;have ae:Hid (1<=j+1->rs[k].h=S.aj->2<=M S.aj->∀a,rs[k].args=[a]->1<=(fun i=>if i=rs[k].args[j]then m else x i) a):=G fun _ V I a aH=>by
        have O:rs[k].args.length=1:=by rw[aH];rfl
        have Gn:=H.out;have lg:=ak.out;rw[←V]at lg I;have e:rs[k].args[j]=a:=by have:j=0:=z;subst this;simp[aH]
        simp only[e,sA];exact lH (by rw[O]at Gn;omega)
       clear l E n g Iz L Q fY fE u C jM;generalize (wr.setCell ⟨w.heap.size+1,rs[k].args[j],none⟩ (.int .i64 m)).drew=a' at*;generalize (fun i=>if i=rs[k].args[j]then m else x i)=f5 at*
       go_wp2;go_roundw;case rel=>first|exact⟨j+1,f5,z,bM,Fk,oY,r2,af,ae⟩|((repeat apply Exists.intro);refine⟨?_,rfl⟩;exact⟨j+1,f5,z,bM,Fk,oY,r2,af,ae⟩)
       case measure=>simp[RowKit.intOf];omega
      ·obtain rfl:j=rs[k].args.length:=z;obtain⟨dw,l2,av⟩:=g.step s6 xW (fun V I a aH=>Iz.out (by rw[aH];simp) V I a aH)
       go_wp2;exact⟨⟨k+1,dw,x,z,bM,l2,l,n,av⟩,by simp[RowKit.intOf];omega⟩
    ·obtain rfl:k=rs.length:=z;have lj:¬(rs.length:Int)<rs.length:=z
     go_wp2;exact⟨⟨t+1,d,f,z,bM,fun _=>xW,l,n,g⟩,by simp[RowKit.intOf];omega⟩
  ·have li:¬(t:Int)<(S.aB.length:Int)+1:=z;obtain rfl:t=S.aB.length+1:=z
   go_wp2;go_ret;exact⟨⟨_,f,rfl,n,⟨g.le,g.ee,fun j aa _=>g.Aj j aa (by have:=hd z;omega)⟩⟩,l.b⟩
end
end Go.bj
namespace Go.bj
open Go Go.Proofs Go.RowKit Go.c0
def sJ(w:World)(v:Value)(q:List Int):Prop:=∃a b,v=.slice a q.length b/\oZ w a q
theorem sJ.kept{w w':World}{v:Value}{q:List Int}(h:sJ w v q)(b:vT w w'):sJ w' v q:=by
 obtain⟨c,d,e,a⟩:=h;exact⟨c,d,e,a.kept b⟩
theorem sJ.Ep{w:World}{v:Value}{q:List Int}(h:sJ w v q):v.oneCell'=true:=by
 obtain⟨a,b,rfl,_⟩:=h;rfl
def kf(w:World):List Value->List (List Int)->Prop
 |[],[]=>True
 |v::vs,q::l=>sJ w v q/\kf w vs l
 |_,_=>False
theorem kf.len{w:World}:∀{a:List Value} {l:List (List Int)},kf w a l->a.length=l.length
 |[],[],_=>rfl
 |v::vs,q::l,h=>by simp[kf.len h.2]
theorem kf.kept{w w':World}(a:vT w w'):∀{b:List Value} {l:List (List Int)},kf w b l->kf w' b l
 |[],[],_=>h5
 |v::vs,q::l,h=>⟨h.1.kept a,h.2.kept a⟩
theorem aik{w w':World}(A:Below w.heap.size w w'):vT w w':=fun b arr bg a=>by rw[A.block b (cX a)];exact a
theorem kf.U{w w':World}{a:List Value}{l:List (List Int)}(h:kf w a l)(A:Below w.heap.size w w'):kf w' a l:=h.kept (aik A)
theorem kf.FM{w:World}:∀{a zs:List Value} {l m:List (List Int)},kf w a l->kf w zs m->kf w (a++zs) (l++m)
 |[],zs,[],m,_,h=>h
 |v::vs,zs,q::l,m,H,I=>⟨H.1,H.2.FM I⟩
theorem kf.md{w:World}:∀{a:List Value} {l:List (List Int)} (_:kf w a l) (i:Nat) (hi:i<l.length),∃v,a[i]? =some v/\sJ w v l[i]
 |[],[],_,_,hi=>by simp at hi
 |v::vs,q::l,h,0,_=>⟨v,rfl,h.1⟩
 |v::vs,q::l,h,i+1,hi=>by
  obtain⟨u,H,I⟩:=kf.md h.2 i (by simpa using hi)
  exact⟨u,by simpa using H,by simpa using I⟩
theorem kf.Ep{w:World}:∀{a:List Value} {l:List (List Int)},kf w a l->∀u∈a,u.oneCell'=true
 |[],[],_,u,hu=>by cases hu
 |v::vs,q::l,h,u,hu=>by
  rcases gl.1 hu with rfl|hu
  ·exact h.1.Ep
  ·exact h.2.Ep u hu
def qR(w:World)(va:Option Addr)(l:List (List Int)):Prop:=0<l.length->∃b o arr bg a,va=some ⟨b,o,none⟩/\w.heap[b]? =some (.cells arr 22 bg)/\kf w a l/\∀(i:Nat) u,a[i]? =some u->arr[o+i]? =some u
theorem qR.kept{w w':World}{va:Option Addr}{l:List (List Int)}(h:qR w va l)(d:vT w w')(f:∀b o,va=some ⟨b,o,none⟩->w'.heap[b]? =w.heap[b]?):qR w' va l:=fun ab=>by
 obtain⟨b,o,arr,bg,g,e,c,ag,a⟩:=h ab
 exact⟨b,o,arr,bg,g,e,by rw[f b o e];exact c,ag.kept d,a⟩
theorem qR.U{w w':World}{va:Option Addr}{l:List (List Int)}(h:qR w va l)(A:Below w.heap.size w w'):qR w' va l:=fun ab=>by
 obtain⟨b,o,arr,bg,d,e,a,ag,c⟩:=h ab
 exact⟨b,o,arr,bg,d,e,by rw[A.block b (cX a)];exact a,ag.U A,c⟩
theorem qR.cell{w:World}{va:Option Addr}{l:List (List Int)}(h:qR w va l)(ab:0<l.length):∃b o,va=some ⟨b,o,none⟩/\b<w.heap.size/\∀i (hi:i<l.length),∃v,w.cell? ⟨b,o+i,none⟩=some v/\sJ w v l[i]:=by
 obtain⟨b,o,arr,bg,d,e,a,ag,c⟩:=h ab;refine⟨b,o,e,cX a,fun i hi=>?_⟩;obtain⟨u,H,I⟩:=ag.md i hi;exact⟨u,by simp only[World.cell?,a];exact c i u H,I⟩
theorem qR.e7{w:World}{va:Option Addr}{l:List (List Int)}(h:qR w va l)(g:va=none->l=[]):∃a,kf w a l/\((∃ad,va=some ad/\∀(j:Nat) u,a[j]? =some u->w.cell? (ad.add j)=some u)∨(va=none/\l=[])):=by
 by_cases ab:0<l.length
 ·obtain⟨b,o,arr,bg,a,e,c,ag,d⟩:=h ab;refine⟨a,ag,.inl ⟨_,e,fun j u hu=>?_⟩⟩;have f:(⟨b,o,none⟩:Addr).add j=⟨b,o+j,none⟩:=by unfold Addr.add;split<;>simp_all
  rw[f];simp only[World.cell?,c];exact d j u hu
 ·have c:l=[]:=yK z;subst c;refine⟨[],h5,?_⟩;cases va with
  |none=>exact .inr ⟨rfl,rfl⟩
  |some ad=>exact .inl ⟨ad,rfl,fun j u hu=>by simp at hu⟩
theorem qR.aAE{T:List Int->Prop}{w:World}{va:Option Addr}{l:List (List Int)}(h:qR w va l)(f:∀q∈l,T q):wa T w va l.length:=fun ab=>by
 obtain⟨b,o,e,c,a⟩:=h.cell ab
 refine⟨b,o,e,c,fun i hi=>?_⟩
 obtain⟨v,H,g,j,I,d⟩:=a i hi
 exact⟨v,H,g,j,l[i],I,d,f _ (fM hi)⟩
theorem Aa{w:World}{base:Nat}{e t:TypeId}{size:Nat}{v:Value}{n:Nat}{aK:List Value}(h:w.ownsRow base e size v n aK){b:Nat}{cs:Array Value}{fr:Nat×Nat}(A:w.heap[b]? =some (.cells cs t fr))(ah:t≠e):some b≠v.ownBlock:=by
 exact ai3
theorem Ee{w w':World}{base:Nat}{size:Nat}{v:Value}{n:Nat}{aK:List Value}(h:w.ownsRow base 22 size v n aK)(c:w.grownBy w' v.ownBlock):vT w w':=fun b arr bg a=>by
 rw[c.block b (cX a) (Aa h a ai)];exact a
theorem alh{w:World}{base:Nat}{v:Value}{n:Nat}{b:List Value}{l:List (List Int)}(h:w.ownsRow base 22 1 v n b)(ag:kf w b l)(d:l.length=n):∃va c,v=.slice va l.length c/\qR w va l/\(va=none->l=[]/\c=0)/\l.length<=c:=by
 subst d;rcases h.2 with⟨ak,a⟩|⟨g,cap,j,ak,a,e,f,m,o,k⟩
 ·refine⟨none,0,?_,fun ab=>z,fun _=>⟨yK a,rfl⟩,z⟩;rw[ak,a]
 ·refine⟨_,cap,ak,fun ab=>⟨g,0,j,(0,0),b,rfl,e,ag,fun i u hu=>?_⟩,fun h=>(by cases h),f⟩;rw[gm];have aq:i<l.length*1:=by have:=(j2.1 hu).1;rw[ag.len]at this;omega
  rw[←k,oS,cv aq]at hu;simpa using hu
theorem aBD{P:Program}{w:World}(base:Nat)(t ty e:TypeId)(i:TypeInfo)(size:Nat)(ah:P.underlying t=some (.slice e))(hi:P.info? e=some i) (v:Value)(n c:Nat)(aK:List Value)(a:w.ownsRow base e size v n aK): (Builtin.append_ #[t,t] ty #[v,.slice none 0 c]).run P w=.ok v w:=by
 rcases a.2 with⟨rfl,rfl⟩|⟨g,cap,d,rfl,_,_,b,_⟩
 ·simp[Builtin.append_,aa4 ah,sizeOf,typeInfo,hi,Builtin.lenOf,Builtin.firstCells]
 ·simp[Builtin.append_,aa4 ah,sizeOf,typeInfo,hi,Builtin.lenOf,Builtin.firstCells,b,storeCells]
section
variable {P:Program} (w:World)
theorem am7{o:Oper}{a:Act}{l:Act->World->Prop}{ea:Exit->Act->World->Prop}(s x:Operand)(t:TypeId) (p:o.op=.call {callee:=.builtin .append,args:=#[s,x],argTypes:=#[t,t]}) (base:Nat)(e:TypeId)(i:TypeInfo)(ae:Value)(size bytes:Nat)(ah:P.underlying t=some (.slice e))(hi:P.info? e=some i)(z:i.zero=some ae) (K:i.size=size)(F:i.bytes=bytes)(D:ae.cells.size=size)(B:0<size) (v:Value)(n:Nat)(aK:List Value)(g:a.eval s=v)(d:w.ownsRow base e size v n aK) (va:Option Addr)(m c:Nat)(e7:List Value)(k:a.eval x=.slice va m c)(f:e7.length=m*size) (J:(∃ad,va=some ad/\∀(j:Nat) u,e7[j]? =some u->w.cell? (ad.add j)=some u)∨(va=none/\m=0))(H:∀u∈e7,u.oneCell'=true) (L:n+m<=maxLen)(G:(n+m)*bytes<=140737488355328)(E:base<=w.heap.size) (h:∀b w',w'.ownsRow base e size b (n+m) (aK++e7)->w.grownBy w' v.ownBlock->(b.ownBlock=v.ownBlock∨b.ownBlock=some w.heap.size)->l (a.put o.dst b) w'):o.wp P a w l ea:=by
 rcases J with⟨ad,rfl,M⟩|⟨rfl,rfl⟩
 ·obtain⟨b,w',q,I,r,N,A⟩:=run_append_own_at (P:=P) w base t o.type e i ae size bytes ah hi z K F D B v n aK d ad m c e7 f M H L G E;unfold Oper.wp execOp;simp only[p,resolve,invoke,builtin,d',eQ,dX,MU,oa,Cq,g,k,q];exact h b w' I r A
 ·have y:e7=[]:=yK (by simpa using f);subst y;have C:=aBD (P:=P) (w:=w) base t o.type e i size ah hi v n c aK d;unfold Oper.wp execOp;simp only[p,resolve,invoke,builtin,d',eQ,dX,MU,oa,Cq,g,k,C];exact h v w (by simpa using d) ⟨rfl,rfl,rfl,aZ _,fun _ _ _=>rfl⟩ (.inl rfl)
theorem aEV{ops:Array Oper}{rest:List Oper}{o:Oper}{a:Act}{ea:Exit->Act->World->Prop}(C:o.guard=none)(s x:Operand)(t:TypeId)
  (q:o.op=.call {callee:=.builtin .append,args:=#[s,x],argTypes:=#[t,t]})
  (base:Nat)(e:TypeId)(i:TypeInfo)(ae:Value)(size bytes:Nat)(ah:P.underlying t=some (.slice e))(hi:P.info? e=some i)(p:i.zero=some ae)
  (F:i.size=size)(D:i.bytes=bytes)(A:ae.cells.size=size)(z:0<size)
  (v:Value)(n:Nat)(aK:List Value)(f:a.eval s=v)(y:w.ownsRow base e size v n aK)
  (va:Option Addr)(m c:Nat)(e7:List Value)(g:a.eval x=.slice va m c)(d:e7.length=m*size)
  (J:(∃ad,va=some ad/\∀(j:Nat) u,e7[j]? =some u->w.cell? (ad.add j)=some u)∨(va=none/\m=0))(H:∀u∈e7,u.oneCell'=true)
  (G:n+m<=maxLen)(E:(n+m)*bytes<=140737488355328)(B:base<=w.heap.size)
  (h:∀b w',w'.ownsRow base e size b (n+m) (aK++e7)->w.grownBy w' v.ownBlock->(b.ownBlock=v.ownBlock∨b.ownBlock=some w.heap.size)->wpList P ops ea rest (a.put o.dst b) w'):wpList P ops ea (o::rest) a w:=
 RI C fun _ r=>am7 w s x t q base e i ae size bytes ah hi p F D A z v n aK f y va m c e7 g d J H G E B fun b w' I l k=>r _ _ (h b w' I l k)
theorem aC'{ops:Array Oper}{o:Oper}{a:Act}{d:Act->World->Prop}{ea:Exit->Act->World->Prop}{E:Prop}(B:o.guard=none)(s x:Operand)(t:TypeId) (p:o.op=.call {callee:=.builtin .append,args:=#[s,x],argTypes:=#[t,t]}) (base:Nat)(e:TypeId)(i:TypeInfo)(ae:Value)(size bytes:Nat)(ah:P.underlying t=some (.slice e))(hi:P.info? e=some i)(l:i.zero=some ae) (F:i.size=size)(C:i.bytes=bytes)(z:ae.cells.size=size)(r:0<size) (v:Value)(n:Nat)(aK:List Value)(g:a.eval s=v)(q:w.ownsRow base e size v n aK) (va:Option Addr)(m c:Nat)(e7:List Value)(k:a.eval x=.slice va m c)(f:e7.length=m*size) (J:(∃ad,va=some ad/\∀(j:Nat) u,e7[j]? =some u->w.cell? (ad.add j)=some u)∨(va=none/\m=0))(H:∀u∈e7,u.oneCell'=true) (G:n+m<=maxLen)(D:(n+m)*bytes<=140737488355328)(A:base<=w.heap.size) (h:∀b w',w'.ownsRow base e size b (n+m) (aK++e7)->w.grownBy w' v.ownBlock->(b.ownBlock=v.ownBlock∨b.ownBlock=some w.heap.size)->d (a.put o.dst b) w'): if Region.wanted o (yielded ops a.tmps)=true then Oper.wp P o a w d ea else E:=by
 have y:Region.wanted o (yielded ops a.tmps)=true:=by simp[Region.wanted,B]
 rw[cv y];exact am7 w s x t p base e i ae size bytes ah hi l F C z r v n aK g q va m c e7 k f J H G D A h
theorem amz{d:Option Tmp}{ops:Array Oper}{o:Oper}{a:Act}{f:Act->World->Prop}{ea:Exit->Act->World->Prop}{E:Prop}(hd:o.dst=d)(B:o.guard=none)(s x:Operand)(t:TypeId) (q:o.op=.call {callee:=.builtin .append,args:=#[s,x],argTypes:=#[t,t]}) (base:Nat)(e:TypeId)(i:TypeInfo)(ae:Value)(size bytes:Nat)(ah:P.underlying t=some (.slice e))(hi:P.info? e=some i)(p:i.zero=some ae) (F:i.size=size)(C:i.bytes=bytes)(z:ae.cells.size=size)(y:0<size) (v:Value)(n:Nat)(aK:List Value)(k:a.eval s=v)(r:w.ownsRow base e size v n aK) (va:Option Addr)(m c:Nat)(e7:List Value)(l:a.eval x=.slice va m c)(g:e7.length=m*size) (J:(∃ad,va=some ad/\∀(j:Nat) u,e7[j]? =some u->w.cell? (ad.add j)=some u)∨(va=none/\m=0))(H:∀u∈e7,u.oneCell'=true) (G:n+m<=maxLen)(D:(n+m)*bytes<=140737488355328)(A:base<=w.heap.size) (h:∀b w',w'.ownsRow base e size b (n+m) (aK++e7)->w.grownBy w' v.ownBlock->(b.ownBlock=v.ownBlock∨b.ownBlock=some w.heap.size)->f (a.put d b) w'): if Region.wanted o (yielded ops a.tmps)=true then Oper.wp P o a w f ea else E:=by
 subst hd;exact aC' w B s x t q base e i ae size bytes ah hi p F C z y v n aK k r va m c e7 l g J H G D A h
theorem YX{d:Option Tmp}{ops:Array Oper}{o:Oper}{a:Act}{b:Act->World->Prop}{ea:Exit->Act->World->Prop}{E:Prop}(hd:o.dst=d)(D:o.guard=none)(s x:Operand)(t:TypeId) (r:o.op=.call {callee:=.builtin .append,args:=#[s,x],argTypes:=#[t,t]}) (base:Nat)(e:TypeId)(i:TypeInfo)(ae:Value)(size bytes:Nat)(ah:P.underlying t=some (.slice e))(hi:P.info? e=some i)(q:i.zero=some ae) (I:i.size=size)(F:i.bytes=bytes)(B:ae.cells.size=size)(A:0<size) (v:Value)(n:Nat)(aK:List Value)(k:a.eval s=v)(z:w.ownsRow base e size v n aK) (ad:Addr)(m c:Nat)(e7:List Value)(l:a.eval x=.slice (some ad) m c)(f:e7.length=m*size)(K:∀j u,e7[j]? =some u->w.cell? (ad.add j)=some u)(H:∀u∈e7,u.oneCell'=true) (p:0<m)(J:n+m<=maxLen)(G:(n+m)*bytes<=140737488355328)(C:base<=w.heap.size)(ay:Nat)(y:w.heap.size=ay) (h:∀g cap w',w'.ownsRow base e size (.slice (some ⟨g,0,none⟩) (n+m) cap) (n+m) (aK++e7)->w.grownBy w' v.ownBlock->(v.ownBlock=some g∨g=ay)->g<w'.heap.size->b (a.put d (.slice (some ⟨g,0,none⟩) (n+m) cap)) w'): if Region.wanted o (yielded ops a.tmps)=true then Oper.wp P o a w b ea else E:=by
 subst hd;exact HL w D s x t r base e i ae size bytes ah hi q I F B A v n aK k z ad m c e7 l f K H p J G C ay y h
end
def FF(w:World)(bJ d:Nat)(Z:Nat->Nat)(c:Nat->Nat->List (List Int)):Prop:=
 bJ<w.heap.size/\∃(b f:Nat) (bT:Nat->Nat),w.cell? ⟨bJ,6,none⟩=some (.slice (some ⟨b,0,none⟩) d f)/\b<w.heap.size/\∀a,a<d->bT a<w.heap.size/\w.cell? ⟨b,a,none⟩=some (.slice (some ⟨bT a,0,none⟩) (Z a) (Z a))/\
  ∀i,i<Z a->∃va e,w.cell? ⟨bT a,i,none⟩=some (.slice va (c a i).length e)/\qR w va (c a i)
theorem FF.U{w w':World}{bJ d:Nat}{Z:Nat->Nat}{c:Nat->Nat->List (List Int)}(h:FF w bJ d Z c)(A:Below w.heap.size w w'):FF w' bJ d Z c:=by
 obtain⟨ab,j,o,bT,H,I,f⟩:=h;refine⟨cE A ab,j,o,bT,aA A ab H,cE A I,fun a e=>?_⟩;obtain⟨b,g,n⟩:=f a e;refine⟨cE A b,aA A I g,fun i hi=>?_⟩;obtain⟨va,k,m,l⟩:=n i hi;exact⟨va,k,aA A b m,l.U A⟩
end Go.bj
