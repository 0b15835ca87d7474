/- ConflictAuthors. -/
import Derived.Test.YtfgcglgpfgifkaaGreatDoorP04
set_option linter.all false
set_option maxRecDepth 100000
set_option maxHeartbeats 16000000
namespace Go.b3
open Go Go.Proofs.Tryz Go.Proofs Go.RowKit Go.Lib Go.aI
attribute [local irreducible] wpStill in
theorem aDc(w:World)(a b:Option Addr)(c d:Nat)(l m:List ByteArray)(h:he be w a l)(o:he be w b m): Calls prog 288 #[.slice a l.length c,.slice b m.length d] w fun e w'=>CX (fun r=>r=true↔l=m) e/\Below w.heap.size w w':=by
 by_cases g:l.length=m.length
 ·have eg:((l.length:Int) !=(m.length:Int))=false:=by simp[g]
  have M:=G (fun W (n:Below w.heap.size w W)=>(h.U n).2);have P:=G (fun W (n:Below w.heap.size w W)=>(o.U n).2);have es:=G g;have U:=h.1;clear h o g;go_enter func288,ntmps288
  go_wp2;go_loopw [5] (fun v wr=>∃k:Nat,k<=l.length/\v=.int .i64 k/\(∀(j:Nat) (H:j<l.length) (I:j<m.length),j<k->l[j]=m[j])/\Below w.heap.size w wr) (fun v _=>l.length-(RowKit.intOf v).toNat);case atStart=>exact⟨0,dq _,rfl,fun _ _ _ h=>absurd h (E4 _),bi _ _⟩
  case round=>
   obtain⟨k,R,rfl,s,A⟩:=hrel;have HEq:=G s;clear s;by_cases aq:k<l.length
   ·have f:=A.drew;obtain⟨K,T,rfl,_,O,t⟩:=M.out _ f z;obtain⟨F,lU,rfl,_,N,u⟩:=P.out _ f (by have:=es.out;omega);have ca:=t k aq;have L:=u k (by have:=es.out;omega);have V:(0:Int)<=(k:Int):=z;have gx:(k:Int)<l.length:=z;have i3:(k:Int)<m.length:=by have:=es.out;omega
    have X:K<wr.heap.size:=O;have Q:F<wr.heap.size:=N;have i:Hid (l[k]=m[k]'(by have:=es.out;omega)->∀(j:Nat) (H:j<l.length) (I:j<m.length),j<k+1->l[j]=m[j]):=G fun C j H I D=>(by
     rcases M0.1 D with h|h
     ·exact HEq.out j H I h
     ·subst h;exact C)
    have gW:Hid (l[k]≠m[k]'(by have:=es.out;omega)->l≠m):=G fun E e=>E (by subst e;rfl);generalize B:l[k]=x at ca gW i;generalize m[k]'(by have:=es.out;omega)=y at L gW i;clear t u B
    go_wp2;refine tq au au ?_;change wpStill _ _ wr.drew (fun J=>Exit.then _ _ Exit.normal J wr.drew) _ _;generalize wr.drew=S at*;by_cases q:x=y
    ·subst q;have ak:(x.toList==x.toList)=true:=qc x;repeat still_step
     refine qJ ?_
     go_wp2;go_roundw;case rel=>first|exact⟨k+1,z,bM,i.out rfl,f⟩|((repeat apply Exists.intro);refine⟨?_,rfl⟩;exact⟨k+1,z,bM,i.out rfl,f⟩)
     case measure=>simp[RowKit.intOf];omega
    ·have ak:(x.toList==y.toList)=false:=fy q;repeat still_step
     refine qJ ?_
     go_wp2;go_ret;exact⟨⟨_,rfl,am,fun e=>absurd e (gW.out q)⟩,f⟩
   ·exact Xs
 ·have eg:((l.length:Int) !=(m.length:Int))=true:=bu;have gW:Hid (l≠m):=G fun e=>g (by rw[e]);clear h o;go_enter func288,ntmps288;exact XD
def Ig(P ea:World->Array Value->bH->Prop):Prop:=∀(w:World) (F a:Array Value) (v u:bH),P w F v->ea w a u->
 Calls prog 186 #[.agg F,.agg a] w fun e w'=>CX (fun r=>r=true↔v=u) e/\Below w.heap.size w w'
theorem aBL{P ea:World->Array Value->bH->Prop}(x:vY be P)(y:vY be ea)(t:Ig P ea)(w:World)(a b:Option Addr)(c d:Nat)(l m:List bH)(h:cU be P w a l)(n:cU be ea w b m): Calls prog 376 #[.slice a l.length c,.slice b m.length d] w fun e w'=>CX (fun r=>r=true↔l=m) e/\Below w.heap.size w w':=by
 by_cases g:l.length=m.length
 ·have eg:((l.length:Int) !=(m.length:Int))=false:=by simp[g]
  have L:=G (fun W (i:Below w.heap.size w W)=>(cU.U x h i).2);have O:=G (fun W (i:Below w.heap.size w W)=>(cU.U y n i).2);have K:=G t;have es:=G g;have eN:=h.1;clear h n g t;go_enter func376,ntmps376
  go_wp2;go_loopw [5] (fun v wr=>∃k:Nat,k<=l.length/\v=.int .i64 k/\(∀(j:Nat) (H:j<l.length) (I:j<m.length),j<k->l[j]=m[j])/\Below w.heap.size w wr) (fun v _=>l.length-(RowKit.intOf v).toNat);case atStart=>exact⟨0,dq _,rfl,fun _ _ _ h=>absurd h (E4 _),bi _ _⟩
  case round=>
   obtain⟨k,U,rfl,o,A⟩:=hrel;have HEq:=G o;clear o;by_cases aq:k<l.length
   ·have bG:=A.drew;obtain⟨F,eH,rfl,_,N,s⟩:=L.out _ bG z;obtain⟨E,lU,rfl,_,M,u⟩:=O.out _ bG (by have:=es.out;omega);obtain⟨ce,cg,ci,cY,cz,k',tR,la,kB,ut,kC,ag,f⟩:=s k aq;obtain⟨eb,jq,dr,dY,gs,Q,T,R,z_,V,z',q,ah⟩:=u k (by have:=es.out;omega);have g4:(0:Int)<=(k:Int):=z;have gx:(k:Int)<l.length:=z;have i3:(k:Int)<m.length:=by have:=es.out;omega
    have wM:F<wr.heap.size:=N;have S:E<wr.heap.size:=M;have hI:Hid (l[k]=m[k]'(by have:=es.out;omega)->∀(j:Nat) (H:j<l.length) (I:j<m.length),j<k+1->l[j]=m[j]):=G fun B j H I C=>(by
     rcases M0.1 C with h|h
     ·exact HEq.out j H I h
     ·subst h;exact B)
    have gW:Hid (l[k]≠m[k]'(by have:=es.out;omega)->l≠m):=G fun D e=>D (by subst e;rfl);have J:=G (K.out _ _ _ _ _ ag q);have ft:=f.br;have dS:=f.c1;have eo:=f.c2;have hj:=f.c3;have jW:=f.c4;have kb:=f.c5;have ll:=f.fk;have fV:=ah.br;have Y:=ah.c1;have cf:=ah.c2;have ep:=ah.c3;have kA:=ah.c4;have ro:=ah.c5;have n3:=ah.fk;clear s u f ah ag q
    go_wp2;go_still_tail 8,au;change wpList _ _ _ _ _ wr.drew;generalize wr.drew=X at*
    go_wp2_with (go_at_call 186;refine J.out.mono ?_;rintro e Z ⟨⟨jX,rfl,vo⟩,bt⟩);all_goals exact ai4
   ·exact Xs
 ·have eg:((l.length:Int) !=(m.length:Int))=true:=bu;have gW:Hid (l≠m):=G fun e=>g (by rw[e]);clear h n;go_enter func376,ntmps376;exact XD
theorem Yz{P ea:World->Array Value->bH->Prop}(o:vY be P)(q:vY be ea)(u:Ig P ea)(w:World)(a b:Option Addr)(c d:Nat)(l m:List (List bH))(h:hW be P w a l)(f:hW be ea w b m): Calls prog 289 #[.slice a l.length c,.slice b m.length d] w fun e w'=>CX (fun r=>r=true↔l=m) e/\Below w.heap.size w w':=by
 by_cases g:l.length=m.length
 ·have eg:((l.length:Int) !=(m.length:Int))=false:=by simp[g]
  have K:=G (fun W (i:Below w.heap.size w W)=>(hW.U o h i).2);have Q:=G (fun W (i:Below w.heap.size w W)=>(hW.U q f i).2);have J:=G (fun W a b c d l m h f=>aBL o q u W a b c d l m h f);have es:=G g;have eN:=h.1;clear h f g u;go_enter func289,ntmps289
  go_wp2;go_loopw [5] (fun v wr=>∃k:Nat,k<=l.length/\v=.int .i64 k/\(∀(j:Nat) (H:j<l.length) (I:j<m.length),j<k->l[j]=m[j])/\Below w.heap.size w wr) (fun v _=>l.length-(RowKit.intOf v).toNat);case atStart=>exact⟨0,dq _,rfl,fun _ _ _ h=>absurd h (E4 _),bi _ _⟩
  case round=>
   obtain⟨k,U,rfl,n,A⟩:=hrel;have HEq:=G n;clear n;by_cases aq:k<l.length
   ·have bG:=A.drew;obtain⟨E,Z,rfl,_,M,t⟩:=K.out _ bG z;obtain⟨D,lU,rfl,_,L,x⟩:=Q.out _ bG (by have:=es.out;omega);obtain⟨N,O,ag,s⟩:=t k aq;obtain⟨S,R,X,ah⟩:=x k (by have:=es.out;omega);have g4:(0:Int)<=(k:Int):=z;have gx:(k:Int)<l.length:=z;have i3:(k:Int)<m.length:=by have:=es.out;omega
    have wM:E<wr.heap.size:=M;have T:D<wr.heap.size:=L;have hI:Hid (l[k]=m[k]'(by have:=es.out;omega)->∀(j:Nat) (H:j<l.length) (I:j<m.length),j<k+1->l[j]=m[j]):=G fun y j H I B=>(by
     rcases M0.1 B with h|h
     ·exact HEq.out j H I h
     ·subst h;exact y)
    have gW:Hid (l[k]≠m[k]'(by have:=es.out;omega)->l≠m):=G fun C e=>C (by subst e;rfl);have F:=G (J.out _ N S O R _ _ s ah);clear t x s ah
    go_wp2;go_still_tail 8,au;change wpList _ _ _ _ _ wr.drew;generalize wr.drew=V at*
    go_wp2_with (go_at_call 376;refine F.out.mono ?_;rintro e Y ⟨⟨jX,rfl,vo⟩,bt⟩);all_goals exact ai4
   ·exact Xs
 ·have eg:((l.length:Int) !=(m.length:Int))=true:=bu;have gW:Hid (l≠m):=G fun e=>g (by rw[e]);clear h f;go_enter func289,ntmps289;exact XD
theorem UF(w:World)(k N S n o x y n':Int)(s z:ByteArray)(ca ra q B:Option Addr)(cc rc A C:Nat)(cs f:List ByteArray)(a_ g:List (List bH))(h:he be w ca cs)(I:he be w q f) (d:∀W,Below w.heap.size w W->Calls prog 289 #[.slice ra a_.length rc,.slice B g.length C] W fun e w'=>CX (fun r=>r=true↔a_=g) e/\Below W.heap.size W w'): Calls prog 186 #[.agg (bY k s N S n ca cs.length cc ra a_.length rc),.agg (bY o z x y n' q f.length A B g.length C)] w fun e w'=>CX (fun r=>r=true↔bH.mk k s N S n cs a_=bH.mk o z x y n' f g) e/\Below w.heap.size w w':=by
 have a:Below w.heap.size w ((w.alloc (.cells (bY k s N S n ca cs.length cc ra a_.length rc) 44 (0,0))).alloc (.cells (bY o z x y n' q f.length A B g.length C) 44 (0,0))):=
  ((bi _ _).alloc (aZ _) _).alloc am _
 by_cases eg:k=o
 ·subst eg;by_cases ak:s=z
  ·subst ak;have U:=qc s;by_cases j:N=x
   ·subst j;by_cases l:S=y
    ·subst l;by_cases m:n=n'
     ·subst m;have P:=G (aDc _ ca q cc A cs f (h.U a) (I.U a));have T:=kZ w (.cells (bY k s N S n ca cs.length cc ra a_.length rc) 44 (0,0)) (.cells (bY k s N S n q f.length A B g.length C) 44 (0,0));have F:=G d;have V:=G a;clear d a h I;go_enter func186,ntmps186
      go_wp2_with (first
       |(go_at_call 288;(with_reducible refine(P.out).mono ?_);rintro e ap ⟨⟨R,rfl,M⟩,H⟩;have O:=G M;clear M;have K:=T.U H;have ll:=aS 6 K.p;have ho:=aS 6 K.q;have c:=G (b_ V.out H);cases R)
       |(go_at_call 289;(with_reducible refine(F.out _ c.out).mono ?_);rintro e Q ⟨⟨X,rfl,u⟩,E⟩;have D:=G u;clear u;have L:=G (b_ c.out E);clear c))
      ·go_wp2;go_ret;exact⟨⟨_,rfl,am,fun e=>by injection e with _ _ _ _ _ Z _;exact absurd (O.out.2 Z) am⟩,c.out⟩
      ·go_wp2_with (first
        |(go_at_call 289;(with_reducible refine(F.out _ c.out).mono ?_);rintro e Q ⟨⟨X,rfl,u⟩,E⟩;have D:=Lib.hid u;clear u;have L:=Lib.hid (b_ c.out E);clear c))
       go_ret;exact⟨⟨_,rfl,fun e=>by rw[O.out.1 (by trivial),D.out.1 e],fun e=>by injection e with _ _ _ _ _ _ nr;exact D.out.2 nr⟩,L.out⟩
     ·have kA:(n==n')=false:=by simpa using m
      clear d;go_enter func186,ntmps186
      go_wp2;go_ret;exact⟨⟨_,rfl,am,fun e=>by injection e with _ _ _ _ Y _ _;exact absurd Y m⟩,a⟩
    ·have ep:(S==y)=false:=by simpa using l
     clear d;go_enter func186,ntmps186
     go_wp2;go_ret;exact⟨⟨_,rfl,am,fun e=>by injection e with _ _ _ m _ _ _;exact absurd m l⟩,a⟩
   ·have cf:(N==x)=false:=by simpa using j
    clear d;go_enter func186,ntmps186
    go_wp2;go_ret;exact⟨⟨_,rfl,am,fun e=>by injection e with _ _ l _ _ _ _;exact absurd l j⟩,a⟩
  ·have U:=fy ak;clear d;go_enter func186,ntmps186
   go_wp2;go_ret;exact⟨⟨_,rfl,am,fun e=>by injection e with _ j _ _ _ _ _;exact absurd j ak⟩,a⟩
 ·have fV:(k==o)=false:=by simpa using eg
  clear d;go_enter func186,ntmps186
  go_wp2;go_ret;exact⟨⟨_,rfl,am,fun e=>by injection e with ak _ _ _ _ _ _;exact absurd ak eg⟩,a⟩
theorem aY.mono(B:Nat->Prop)(d:Nat):vY B (aY B d):=fun _ _ _ _ h A=>h.gf A
theorem atf:∀(d b:Nat),Ig (aY be d) (aY be b):=by
 have E:∀P,Ig (fun _ _ _=>False) P:=fun P w F z v u h=>h.elim;have G:∀P,Ig P (fun _ _ _=>False):=fun P w F z v u _ h=>h.elim;have C:vY be (fun _ _ _=>False):=fun _ _ _ _ h=>h.elim;have D:∀w a,hW be (fun _ _ _=>False) w a []:=fun w a=>⟨am,fun ab=>absurd ab am⟩;intro d;induction d with
 |zero=>intro b w F z v u h g;obtain⟨k,s,N,S,n,cs,a_⟩:=v;obtain⟨q,r,x,y,n',t,m⟩:=u;obtain⟨rfl,ca,cc,ra,rc,rfl,o⟩:=h;obtain⟨i,j,c,e,rfl,l,A⟩:=g.hz;exact UF w k N S n q x y n' s r ca ra i c cc rc j e cs t [] m o l (fun W f=>Yz C (aY.mono be (b-1)) (E _) W ra c rc e [] m (D _ _) (hW.U (aY.mono be _) A f))
 |succ d H=>
  intro b w F z v u h g;obtain⟨k,s,N,S,n,cs,a_⟩:=v;obtain⟨q,r,x,y,n',t,m⟩:=u;obtain⟨ca,cc,ra,rc,rfl,o,B⟩:=h.hz;cases b with
  |zero=>obtain⟨rfl,i,j,c,e,rfl,l⟩:=g;exact UF w k N S n q x y n' s r ca ra i c cc rc j e cs t a_ [] o l (fun W f=>Yz (aY.mono be d) C (G _) W ra c rc e a_ [] (hW.U (aY.mono be _) B f) (D _ _))
  |succ b=>obtain⟨i,j,c,e,rfl,l,A⟩:=g.hz;exact UF w k N S n q x y n' s r ca ra i c cc rc j e cs t a_ m o l (fun W f=>Yz (aY.mono be d) (aY.mono be b) (H b) W ra c rc e a_ m (hW.U (aY.mono be _) B f) (hW.U (aY.mono be _) A f))
theorem UE(d b:Nat)(w:World)(F a:Array Value)(v u:bH)(h:aY be d w F v)(g:aY be b w a u):Calls prog 186 #[.agg F,.agg a] w fun e w'=>CX (fun r=>v=u->r=true) e/\Below w.heap.size w w':=
 (atf d b w F a v u h g).mono fun e w' ⟨⟨r,H,I⟩,A⟩=>⟨⟨r,H,I.2⟩,A⟩
def j5(s:ByteArray):Prop:=s.size<=200/\∀k (a:k<s.size),32<=(s[k].toNat:Int)/\(s[k].toNat:Int)<=126
abbrev bL:ByteArray:=⟨#[]⟩
abbrev gZ(n:Int):bH:=.mk 0 bL 0 0 n [] []
abbrev g8(s:ByteArray):bH:=.mk 1 s 0 0 0 [] []
abbrev gi(N S:Int):bH:=.mk 2 bL N S 0 [] []
abbrev ju(n:Int):bH:=.mk 3 bL 0 0 n [] []
abbrev lU(n:Int):bH:=.mk 4 bL 0 0 n [] []
def kV:ByteArray:=⟨#[107,105,110,100]⟩
def kH:ByteArray:=⟨#[97,109,111,117,110,116]⟩
abbrev iw(a_:List (List bH)):bH:=.mk 5 bL 0 0 0 [kV,kH] a_
def sC(r:List bH):Prop:=∃s N,r=[g8 s,gi N 0]/\j5 s/\ -10<=N/\N<=10
inductive eR (n:Nat):bH->Prop
 |gZ (e:Int) (ab:0<=e) (H:e<=99):eR n (gZ e)
 |g8 (s:ByteArray) (h:j5 s):eR n (g8 s)
 |gi (N:Int) (S:Nat) (h:g1 N S) (dG:N.natAbs<=10^(2*n+1)) (bx:2*S<=n+1):eR n (gi N S)
 |ju (d:Int) (ab:0<=d) (H:d<=3652058):eR n (ju d)
 |lU (b:Int) (h:b=0∨b=1):eR n (lU b)
 |iw (a_:List (List bH)) (af:a_.length<=3) (h:∀r∈a_,sC r):eR n (iw a_)
def py(e:Ending):Prop:=e=.returned (.bool true)
theorem aAy(s:ByteArray)(w:World)(h:j5 s):Calls prog 183 #[.string s] w fun e w'=>py e/\w=w':=by
 have ay:=G h.2;have f:(s.size:Int)<=200:=by have:=h.1;omega
 clear h;go_enter func183,ntmps183
 go_wp2;go_loop [3] (fun i=>∃k:Nat,k<=s.size/\i=.int .i64 k) (fun i=>s.size-(RowKit.intOf i).toNat);case atStart=>exact⟨0,dq _,rfl⟩
 case round=>
  obtain⟨k,d,rfl⟩:=hrel;by_cases aq:k<s.size
  ·obtain⟨a,b⟩:=ay.out k aq;have c:(k:Int)<s.size:=z;have c1:¬(s[k].toNat:Int)<32:=z;have c2:¬126<(s[k].toNat:Int):=z
   go_wp2;all_goals first
    |(
     go_round
     case rel=>exact⟨k+1,z,bM⟩
     case measure=>simp[RowKit.intOf];omega)
    |(exfalso;omega)
  ·have c:¬(k:Int)<s.size:=z
   go_wp2;exact LD
theorem J6(k:Int)(s:ByteArray)(N S n:Int)(ca ra a c:Option Addr)(cc rc b d:Nat)(w:World):Calls prog 186 #[.agg (bY k s N S n ca 0 cc ra 0 rc),.agg (bY k s N S n a 0 b c 0 d)] w fun e w'=>py e/\Below w.heap.size w w':=
 (UE 0 0 w _ _ _ _ (aY.iE be 0 w k s N S n ca cc ra rc) (aY.iE be 0 w k s N S n a b c d)).mono fun e w' ⟨⟨r,H,I⟩,A⟩=>⟨by rw[H,I rfl];rfl,A⟩
theorem aBo(n:Int)(ca:Option Addr)(cc:Nat)(ra:Option Addr)(rc:Nat)(w:World)(ab:0<=n)(H:n<=99):Calls prog 101 #[.agg (bY 0 bL 0 0 n ca 0 cc ra 0 rc)] w fun e w'=>py e/\Below w.heap.size w w':=by
 have bK:=G fun w=>J6 0 bL 0 0 n ca ra none none cc rc 0 0 w;have T:=kZ w (.cells (bY 0 bL 0 0 n ca 0 cc ra 0 rc) 44 (0,0)) (.cells (bY 0 bL 0 0 n none 0 0 none 0 0) 44 (0,0));exact XA
theorem Yr(s:ByteArray)(ca:Option Addr)(cc:Nat)(ra:Option Addr)(rc:Nat)(w:World)(h:j5 s):Calls prog 101 #[.agg (bY 1 s 0 0 0 ca 0 cc ra 0 rc)] w fun e w'=>py e/\Below w.heap.size w w':=by
 have b:=G fun w=>aAy s w h;have a:=G fun w=>J6 1 s 0 0 0 ca ra none none cc rc 0 0 w;have T:=kZ w (.cells (bY 1 s 0 0 0 ca 0 cc ra 0 rc) 44 (0,0)) (.cells (bY 1 s 0 0 0 none 0 0 none 0 0) 44 (0,0));go_enter func101,ntmps101
 go_wp2_with (first
  |(go_at_call 183;(with_reducible refine(b.out _).mono ?_);rintro e g ⟨rfl,rfl⟩)
  |(go_at_call 186;(with_reducible refine(a.out _).mono ?_);rintro e f ⟨rfl,c⟩;have d:=G (b_ T.h c)))
 go_ret;exact⟨rfl,d.out⟩
theorem alI(n:Int)(ca:Option Addr)(cc:Nat)(ra:Option Addr)(rc:Nat)(w:World)(ab:0<=n)(H:n<=3652058):Calls prog 101 #[.agg (bY 3 bL 0 0 n ca 0 cc ra 0 rc)] w fun e w'=>py e/\Below w.heap.size w w':=by
 have bK:=G fun w=>J6 3 bL 0 0 n ca ra none none cc rc 0 0 w;have T:=kZ w (.cells (bY 3 bL 0 0 n ca 0 cc ra 0 rc) 44 (0,0)) (.cells (bY 3 bL 0 0 n none 0 0 none 0 0) 44 (0,0));exact XA
theorem aBn(n:Int)(ca:Option Addr)(cc:Nat)(ra:Option Addr)(rc:Nat)(w:World)(h:n=0∨n=1):Calls prog 101 #[.agg (bY 4 bL 0 0 n ca 0 cc ra 0 rc)] w fun e w'=>py e/\Below w.heap.size w w':=by
 have bK:=G fun w=>J6 4 bL 0 0 n ca ra none none cc rc 0 0 w;have T:=kZ w (.cells (bY 4 bL 0 0 n ca 0 cc ra 0 rc) 44 (0,0)) (.cells (bY 4 bL 0 0 n none 0 0 none 0 0) 44 (0,0));rcases h with rfl|rfl<;>
 ·exact XA
theorem Yq(N:Int)(S:Nat)(ca:Option Addr)(cc:Nat)(ra:Option Addr)(rc:Nat)(w:World)(h:g1 N S):Calls prog 101 #[.agg (bY 2 bL N S 0 ca 0 cc ra 0 rc)] w fun e w'=>py e/\Below w.heap.size w w':=by
 have d:=G fun w=>alF N S w h;have c:=G fun w=>J6 2 bL N S 0 ca ra none none cc rc 0 0 w;have T:=kZ w (.cells (bY 2 bL N S 0 ca 0 cc ra 0 rc) 44 (0,0)) (.cells (bY 2 bL N S 0 none 0 0 none 0 0) 44 (0,0));clear h;go_enter func101,ntmps101
 go_wp2_with (first
  |(go_at_call 184;(with_reducible refine(d.out _).mono ?_);rintro e k ⟨rfl,b⟩;have a:=T.U b;obtain⟨q,n,o,r,s,u,x⟩:=eU a.p;obtain⟨fV,l,m,p,t,z,y⟩:=eU a.q;have g:=G a.h;clear a T b)
  |(go_at_call 186;(with_reducible refine(c.out _).mono ?_);rintro e j ⟨rfl,f⟩;have i:=G (b_ g.out f)))
 go_ret;exact⟨rfl,i.out⟩
end Go.b3
namespace Go.c0
def aT(l:List UInt8):Nat:=l.foldl (fun n c=>n*256+c.toNat) 0
theorem aob(l:List UInt8):∀n,l.foldl (fun n c=>n*256+c.toNat) n=n*256^l.length+aT l:=by
 exact aj7
theorem xp(c:UInt8)(l:List UInt8):aT (c::l)=c.toNat*256^l.length+aT l:=by
 show(c::l).foldl _ 0=_;rw[HQ,aob];simp
theorem Ta(l:List UInt8)(c:UInt8):aT (l++[c])=aT l*256+c.toNat:=by
 unfold aT;rw[aa_];rfl
theorem wd:∀(l:List UInt8),aT l<256^l.length
 |[]=>by simp[aT]
 |c::l=>by
  rw[xp,mP,w4]
  have H:=wd l
  have I:=M4 c
  have a:c.toNat*256^l.length<=255*256^l.length:=oU _ z
  omega
theorem I_(l:List UInt8):∀(k:Nat),(∀i,i<k->l[i]? =some 0)->aT (l.drop k)=aT l
 |0,_=>by simp
 |k+1,h=>by
  have ab:=I_ l k fun i hi=>h i z
  have a:=h k z
  obtain⟨aq,a⟩:=j2.1 a
  rw[EY aq,xp,a]at ab
  simpa using ab
theorem ac'{c:UInt8}{l:List UInt8}(L:c≠0){n:Nat}(h:aT (c::l)<256^n):(c::l).length<=n:=by
 exact ajN
def Se(s t:ByteArray):Prop:=aT t.data.toList=aT s.data.toList/\t.size<=s.size/\∀n,aT s.data.toList<256^n->t.size<=n
theorem aoc(s t:ByteArray)(k:Nat)(ak:t.data.toList=s.data.toList.drop k)(a:k<=s.data.toList.length)(ax:∀j,j<k->s.data.toList[j]? =some 0)(aL:∀h:k<s.data.toList.length,s.data.toList[k]≠0):Se s t:=by
 exact ai8
theorem ang{l:List UInt8}{k:Nat}(a:∀j,j<k->l[j]? =some 0)(h:l[k]? =some 0):∀j,j<k+1->l[j]? =some 0:=fun j b=>by
 by_cases e:j=k
 ·subst e;exact h
 ·exact a j z
def jI(n j:Nat):List Int:=(List.range j).map fun i=>(((n/2^(56-8*i))%256:Nat):Int)
theorem XY(k:Nat):(UInt8.ofNat (k%256)).toNat=k%256:=by
 rw[Rz];omega
theorem aoa(n:Nat)(h:n<36028797018963968):aT ((jI n 8).map fun x=>UInt8.ofNat x.toNat)=n:=by
 exact aj2
def yn(W C:Nat->Nat)(n i a:Nat):Nat:=if a<i/\i-a<n then W a*C (i-a)else 0
def kE(W C:Nat->Nat)(n i:Nat):Nat->Nat
 |0=>0
 |k+1=>kE W C n i k+yn W C n i k
def tc(W C:Nat->Nat)(n a b i:Nat):Nat:=kE W C n i a+(if a<i/\i-a<b/\i-a<n then W a*C (i-a)else 0)
theorem aAk(W C:Nat->Nat)(n a i:Nat):tc W C n a 1 i=kE W C n i a:=by
 unfold tc;rw[bn z];omega
theorem ak1(W C:Nat->Nat)(n a b i:Nat):tc W C n a b i<=kE W C n i (a+1):=by
 unfold tc;show _<=kE W C n i a+yn W C n i a;unfold yn;by_cases h:a<i/\i-a<b/\i-a<n
 ·rw[cv h,cv ⟨h.1,h.2.2⟩];omega
 ·rw[bn h];omega
theorem ak2(W C:Nat->Nat)(n a b:Nat)(ab:0<b)(A:b<n):tc W C n a b (a+b)+W a*C b=tc W C n a (b+1) (a+b):=by
 unfold tc;have e:a+b-a=b:=z;rw[e,bn z,cv z];omega
theorem aAj(W C:Nat->Nat)(n a b i:Nat):tc W C n a b i<=tc W C n a (b+1) i:=by
 unfold tc;by_cases h:a<i/\i-a<b/\i-a<n
 ·rw[cv h,cv ⟨h.1,z,h.2.2⟩];omega
 ·rw[bn h];omega
theorem amE(W C:Nat->Nat)(n i:Nat):∀(k m:Nat),k<=m->kE W C n i k<=kE W C n i m
 |k,0,h=>by
    have:k=0:=z
    subst this;exact aZ _
 |k,m+1,h=>by
  by_cases e:k=m+1
  ·subst e;exact aZ _
  ·exact db (amE W C n i k m z) (RS _ _)
structure bA where
 h:Nat
 op:ByteArray
 aF:ByteArray
 args:List Nat
def kX(i:Nat):Nat:=if i=1 then 1 else 0
def ot(bD:Nat->Nat->Nat):List Nat->(Nat->Nat)->Nat->Nat
 |[],W=>W
 |a::l,W=>ot bD l (fun i=>kE W (bD a) 6 i 10)
def pX(bD:Nat->Nat->Nat)(s i:Nat):List bA->Nat
 |[]=>0
 |r::l=>(if r.h=s then ot bD r.args kX i else 0)+pX bD s i l
def El(bD:Nat->Nat->Nat):List Nat->(Nat->Nat)->Prop
 |[],W=>∀i,i<10->W i<281474976710656
 |a::l,W=>(∀i,i<10->W i<16777216)/\(∀i,i<10->kE W (bD a) 6 i 10<281474976710656)/\El bD l (fun i=>kE W (bD a) 6 i 10)
structure xk (bD:Nat->Nat->Nat) (rs:List bA):Prop where
 sum:∀s i,i<6->pX bD s i rs<=bD s i
 num:∀r∈rs,El bD r.args kX
 lt:∀s i,bD s i<2147483648
theorem amJ{bD:Nat->Nat->Nat}{s i:Nat}{a b:List bA}(h:a.Sublist b):pX bD s i a<=pX bD s i b:=by
 induction h with
 |slnil=>exact aZ _
 |cons x _ c=>exact db c (Nat.le_add_left _ _)
 |cons_cons x _ c=>exact Nat.add_le_add_left c _
theorem aBu{W W' C b:Nat->Nat}(d:∀i,i<10->W i<=W' i){n n' i a:Nat}(f:∀i,i<n->C i<=b i)(e:n<=n')(c:a<10):yn W C n i a<=yn W' b n' i a:=by
 unfold yn;by_cases h:a<i/\i-a<n
 ·rw[cv h,cv ⟨h.1,iz h.2 e⟩];exact w3 (d a c) (f _ h.2)
 ·rw[bn h];exact dq _
theorem Mp{W W' C a:Nat->Nat}(b:∀i,i<10->W i<=W' i){n n' i:Nat}(d:∀i,i<n->C i<=a i)(c:n<=n'):∀k,k<=10->kE W C n i k<=kE W' a n' i k
 |0,_=>aZ _
 |k+1,h=>Nat.add_le_add (Mp b d c k z) (aBu b d c z)
theorem aet(bD:Nat->Nat->Nat):∀(l:List Nat) (a:Nat) (W:Nat->Nat),ot bD (l++[a]) W=fun i=>kE (ot bD l W) (bD a) 6 i 10
 |[],a,W=>rfl
 |b::l,a,W=>aet bD l a _
theorem aku(bD:Nat->Nat->Nat):∀(l:List Nat) (a:Nat) (m:List Nat) (W:Nat->Nat),El bD (l++a::m) W->(∀i,i<10->ot bD l W i<16777216)/\(∀i,i<10->kE (ot bD l W) (bD a) 6 i 10<281474976710656)
 |[],a,m,W,h=>⟨h.1,h.2.1⟩
 |b::l,a,m,W,h=>aku bD l a m _ h.2.2
theorem akv(bD:Nat->Nat->Nat):∀(l:List Nat) (W:Nat->Nat),El bD l W->∀i,i<10->ot bD l W i<281474976710656
 |[],W,h=>h
 |b::l,W,h=>akv bD l _ h.2.2
def pC(bD:Nat->Nat->Nat)(rs:List bA)(ae k s i:Nat):Nat:=if i<ae then bD s i else if i=ae then pX bD s i (rs.take k)else 0
theorem Of{bD:Nat->Nat->Nat}{rs:List bA}(n:xk bD rs)(ae k s i:Nat)(hi:i<6):pC bD rs ae k s i<=bD s i:=by
 unfold pC;split
 ·exact aZ _
 ·split
  ·exact db (amJ (anO k rs)) (n.sum s i hi)
  ·exact dq _
theorem arM{bD:Nat->Nat->Nat}{rs:List bA}(n:xk bD rs)(ae s i:Nat)(hi:i<6):pC bD rs ae rs.length s i<=pC bD rs (ae+1) 0 s i:=by
 by_cases h:i<ae+1
 ·have e:pC bD rs (ae+1) 0 s i=bD s i:=by unfold pC;rw[cv h]
  rw[e];exact Of n ae _ s i hi
 ·unfold pC;rw[bn z,bn z];exact dq _
theorem amI(bD:Nat->Nat->Nat)(s i:Nat)(r:bA):∀l:List bA,pX bD s i (l++[r])=pX bD s i l+(if r.h=s then ot bD r.args kX i else 0)
 |[]=>by simp[pX]
 |q::l=>by simp only[RJ,pX,amI bD s i r l];omega
theorem TV{bD:Nat->Nat->Nat}{rs:List bA}(ae k s i:Nat)(b:k<rs.length):pC bD rs ae (k+1) s i=pC bD rs ae k s i+(if i=ae/\rs[k].h=s then ot bD rs[k].args kX i else 0):=by
 unfold pC;by_cases h:i<ae
 ·rw[cv h,cv h,bn z];rfl
 ·rw[bn h,bn h];by_cases e:i=ae
  ·rw[cv e,cv e,tu b,amI];by_cases a:rs[k].h=s
   ·rw[cv a,cv ⟨e,a⟩]
   ·rw[bn a,bn fun q=>a q.2]
  ·rw[bn e,bn e,bn fun q=>e q.1]
def nH(t:List (List Nat))(s i:Nat):Nat:=(t.getD s []).getD i 0
def NY(p:Nat->Bool):Bool:=(List.range 10).all p
theorem Tk{p:Nat->Bool}(h:NY p=true){i:Nat}(hi:i<10):p i=true:=hs.1 h i (ts.2 hi)
def Qf(bD:Nat->Nat->Nat):List Nat->(Nat->Nat)->Bool
 |[],W=>NY fun i=>Nat.blt (W i) 281474976710656
 |a::l,W=>NY (fun i=>Nat.blt (W i) 16777216)&&NY (fun i=>Nat.blt (kE W (bD a) 6 i 10) 281474976710656)&&Qf bD l (fun i=>kE W (bD a) 6 i 10)
theorem akt(bD:Nat->Nat->Nat):∀(l:List Nat) (W:Nat->Nat),Qf bD l W=true->El bD l W
 |[],W,h=>fun i hi=>by simpa using Tk h hi
 |a::l,W,h=>by
  simp only[Qf,dz]at h
  exact⟨fun i hi=>by simpa using Tk h.1.1 hi,fun i hi=>by simpa using Tk h.1.2 hi,akt bD l _ h.2⟩
def XN(t:List (List Nat))(rs:List bA):Bool:=
 (List.range t.length).all (fun s=>(List.range 6).all fun i=>Nat.ble (pX (nH t) s i rs) (nH t s i))&&rs.all (fun r=>Nat.blt r.h t.length&&Qf (nH t) r.args kX)&&t.all (fun l=>l.all fun n=>Nat.blt n 2147483648)
theorem Y3{bD:Nat->Nat->Nat}{s i:Nat}:∀{rs:List bA},(∀r∈rs,r.h≠s)->pX bD s i rs=0
 |[],_=>rfl
 |r::l,h=>by
  simp only[pX]
  rw[bn (h r (mQ ..)),Y3 fun q a=>h q (i6 _ a)]
theorem aDk{t:List (List Nat)}(h:t.all (fun l=>l.all fun n=>Nat.blt n 2147483648)=true)(s i:Nat):nH t s i<2147483648:=by
 unfold nH;rw[pm,pm];cases a:t[s]? with
 |none=>simp
 |some l=>
  simp only[H2];cases hi:l[i]? with
  |none=>simp
  |some n=>have:=hs.1 (hs.1 h l (Aw a)) n (Aw hi);simpa using this
theorem ay1{t:List (List Nat)}{rs:List bA}(h:XN t rs=true):xk (nH t) rs:=by
 simp only[XN,dz]at h;obtain⟨⟨H,I⟩,c⟩:=h;refine⟨fun s i hi=>?_,fun r a=>?_,aDk c⟩
 ·by_cases b:s<t.length
  ·have:=hs.1 (hs.1 H s (ts.2 b)) i (ts.2 hi);exact gP this
  ·rw[Y3 fun r a e=>?_]
   ·exact dq _
   ·have:=hs.1 I r a;simp only[dz]at this;have d:r.h<t.length:=by simpa using this.1
    omega
 ·have:=hs.1 I r a;simp only[dz]at this;exact akt _ _ _ this.2
end Go.c0
namespace Go.c0
open Go Go.Proofs Go.RowKit
theorem adM{W a:World}(A:Below W.heap.size W a):(∀b o,b<W.heap.size->a.cell? ⟨b,o,none⟩=W.cell? ⟨b,o,none⟩)/\(∀b o,b<W.heap.size->a.frozen? ⟨b,o,none⟩=W.frozen? ⟨b,o,none⟩):=
 ⟨fun b o h=>A.cell (p:=⟨b,o,none⟩) h,fun b o h=>A.frozen (p:=⟨b,o,none⟩) h⟩
theorem lb{w:World}{b i:Nat}{cs:Array Value}{t:TypeId}{v:Value}(h:w.heap[b]? =some (.cells cs t (0,0)))(hi:cs[i]? =some v):w.cell? ⟨b,i,none⟩=some v:=by simp[World.cell?,h,hi]
theorem da(w:World)(o:Obj):(w.alloc o).heap[w.heap.size]? =some o:=p1 w o
theorem wB(w:World)(o:Obj){k:Nat}(h:k<w.heap.size):(w.alloc o).heap[k]? =w.heap[k]? :=Ck w o k h
theorem jC(w:World)(o:Obj):(w.alloc o).heap.size=w.heap.size+1:=am
theorem cX{w:World}{b:Nat}{o:Obj}(h:w.heap[b]? =some o):b<w.heap.size:=(hl.1 h).1
structure cO where
 bo:ByteArray
 cZ:Nat
 bs:List (ByteArray×Nat)
 aB:List (ByteArray×Nat)
 c8:List bA
 aj:Nat
 bD:List (List Nat)
structure qb (S:cO):Prop where
 bo:S.bo.size<=maxLen
 cZ:S.cZ<=1000000000
 arS:0<S.bs.length
 bs:S.bs.length<=8
 asg:∀c∈S.bs,c.1.size<=maxLen
 vB:0<S.aB.length
 aB:S.aB.length<=12
 lm:∀c∈S.aB,c.1.size<=maxLen
 c8:S.c8.length<=40
 aj:S.aj<S.aB.length
 need:xk (nH S.bD) S.c8
 Ab:∀r∈S.c8,r.h<S.aB.length/\r.args.length<=3/\(∀a∈r.args,a<S.aB.length)/\r.op.size<=maxLen/\r.aF.size<=maxLen
def iM(w:World)(ca:Option Addr)(cs:List (ByteArray×Nat)):Prop:=∃b o arr bg,ca=some ⟨b,o,none⟩/\w.heap[b]? =some (.cells arr 138 bg)/\∀i (hi:i<cs.length),arr[o+i*2]? =some (.string cs[i].1)/\arr[o+i*2+1]? =some (.int .i64 cs[i].2)
def rT(w:World)(a:Option Addr)(ss:List (ByteArray×Nat))(M:Nat->Nat):Prop:=∃b o,a=some ⟨b,o,none⟩/\b<w.heap.size/\∀i (hi:i<ss.length),w.cell? ⟨b,o+i*3,none⟩=some (.string ss[i].1)/\w.cell? ⟨b,o+i*3+1,none⟩=some (.int .i64 ss[i].2)/\w.cell? ⟨b,o+i*3+2,none⟩=some (.int .i64 (M i))
def p5(w:World)(a:Option Addr)(l:List Nat):Prop:=0<l.length->∃b o,a=some ⟨b,o,none⟩/\b<w.heap.size/\∀i (hi:i<l.length),w.cell? ⟨b,o+i,none⟩=some (.int .i64 l[i])
structure FA (w:World) (b o:Nat) (r:bA) (aP:Option Addr) (ac:Nat):Prop where
 br:w.cell? ⟨b,o,none⟩=some (.int .i64 r.h)
 c1:w.cell? ⟨b,o+1,none⟩=some (.string r.op)
 c2:w.cell? ⟨b,o+2,none⟩=some (.string r.aF)
 c3:w.cell? ⟨b,o+3,none⟩=some (.slice aP r.args.length ac)
 args:p5 w aP r.args
 cn:∃dJ eH,aP=some ⟨dJ,eH,none⟩
def uK(w:World)(ra:Option Addr)(rs:List bA):Prop:=∃b o,ra=some ⟨b,o,none⟩/\b<w.heap.size/\∀i (hi:i<rs.length),∃a ac,FA w b (o+i*4) rs[i] a ac
theorem iM.U{w w':World}{ca:Option Addr}{cs:List (ByteArray×Nat)}(h:iM w ca cs)(A:Below w.heap.size w w'):iM w' ca cs:=by
 obtain⟨b,o,arr,bg,e,a,c⟩:=h;exact⟨b,o,arr,bg,e,by rw[A.block b (cX a)];exact a,c⟩
theorem rT.U{w w':World}{ca:Option Addr}{cs:List (ByteArray×Nat)}{M:Nat->Nat}(h:rT w ca cs M)(A:Below w.heap.size w w'):rT w' ca cs M:=by
 obtain⟨b,o,e,a,c⟩:=h;exact⟨b,o,e,cE A a,fun i hi=>by rw[A.cell a,A.cell a,A.cell a];exact c i hi⟩
theorem p5.U{w w':World}{c:Option Addr}{l:List Nat}(h:p5 w c l)(A:Below w.heap.size w w'):p5 w' c l:=fun ab=>by
 obtain⟨b,o,e,a,d⟩:=h ab
 exact⟨b,o,e,cE A a,fun i hi=>by rw[A.cell a];exact d i hi⟩
theorem FA.U{w w':World}{b o:Nat}{r:bA}{c:Option Addr}{ac:Nat}(h:FA w b o r c ac)(a:b<w.heap.size)(A:Below w.heap.size w w'):FA w' b o r c ac:=
 ⟨by rw[A.cell a];exact h.br,by rw[A.cell a];exact h.c1,by rw[A.cell a];exact h.c2,by rw[A.cell a];exact h.c3,h.args.U A,h.cn⟩
theorem uK.U{w w':World}{ra:Option Addr}{rs:List bA}(h:uK w ra rs)(A:Below w.heap.size w w'):uK w' ra rs:=by
 obtain⟨b,o,e,a,c⟩:=h;exact⟨b,o,e,cE A a,fun i hi=>by obtain⟨d,ac,h⟩:=c i hi;exact⟨d,ac,h.U a A⟩⟩
def p6(w w':World):Prop:=∃n,w'=w.drewN n
theorem p6.U{w w':World}(h:p6 w w')(B:Nat):Below B w w':=by
 obtain⟨n,rfl⟩:=h;exact⟨rfl,rfl,rfl,aZ _,fun _ _=>rfl⟩
end Go.c0
namespace Go.bj
open Go Go.Proofs.Tryz Go.Proofs Go.RowKit Go.c0
def aol(n:Nat)(e:Ending):Prop:=∃r:Nat,r<n/\e=.returned (.int .i64 r)
theorem XJ(x:Int)(n:Nat)(w:World)(b:0<n)(A:n<=1000000):Calls prog 93 #[.int .i64 x,.int .i64 n] w fun e w'=>aol n e/\w=w':=by
 have c:((n:Int)==0)=false:=bu;have H:=aa6 x (show(0:Int)<n by omega);have I:=anw x (show(0:Int)<n by omega);by_cases h:x.tmod n<0
 ·have ak:decide (x.tmod n<0)=true:=by simpa using h
  have a:wrap64 (x.tmod n+n)=x.tmod n+n:=MN _ ⟨z,z⟩;go_enter func93,ntmps93
  go_wp2;go_ret;exact⟨⟨(x.tmod n+n).toNat,z,by rw[anx z];first|rfl|simp[a]⟩,rfl⟩
 ·have ak:decide (x.tmod n<0)=false:=by simpa using h
  go_enter func93,ntmps93
  go_wp2;go_ret;exact⟨⟨(x.tmod n).toNat,z,by rw[anx z];rfl⟩,rfl⟩
end Go.bj
namespace Go.aI
open Go Go.Proofs.Tryz Go.Proofs Go.RowKit Go.Lib
def k7(w:World)(a:Option Addr)(n:Nat):Prop:=n=0∨ ∃b o,a=some ⟨b,o,none⟩/\∀i,i<n->∃x:Int,w.cell? ⟨b,o+i,none⟩=some (.int .i64 x)
theorem QS(x n:Int)(a:0<n)(A:n<=2000000000000001):0<=(wrap64 (x.tmod n+n)).tmod n/\(wrap64 (x.tmod n+n)).tmod n<n:=by
 have H:=aa6 x a;have I: -n<x.tmod n:=by have:=anw x a;omega
 have b:wrap64 (x.tmod n+n)=x.tmod n+n:=MN _ ⟨z,z⟩;rw[b];exact⟨Int.tmod_nonneg _ z,aa6 _ a⟩
def sK(n:Int)(e:Ending):Prop:=∃r:Int,0<=r/\r<n/\e=.returned (.int .i64 r)
def ef(w:World)(b:Nat)(a:Option Addr)(n:Nat):Prop:=∃c d:Nat,w.heap[b]? =some (.cells #[.slice a n c,.int .i64 d] 57 (0,0))/\k7 w a n/\(∀q,a=some q->0<n->q.block≠b)
def tE(w:World)(b:Nat)(a:Option Addr)(len:Nat)(n:Int)(e:Ending)(w':World):Prop:=
 sK n e/\ef w' b a len/\w'.heap.size=w.heap.size/\(∀k,k≠b->w'.heap[k]? =w.heap[k]?)/\w'.os=w.os/\w'.tape=w.tape/\w'.output=w.output
theorem pT(w:World)(b:Nat)(a:Option Addr)(len:Nat)(n:Int)(I:0<n)(A:n<=2000000000000001)(H:len<=maxLen)(h:ef w b a len):Calls prog 16 #[.pointer (some ⟨b,0,none⟩),.int .i64 n] w fun e w'=>tE w b a len n e w':=by
 obtain⟨c,d,l,o,s⟩:=h;unfold maxLen at H;have br:w.cell? ⟨b,0,none⟩=some (.slice a len c):=by simp[World.cell?,l]
 have c1:w.cell? ⟨b,1,none⟩=some (.int .i64 d):=by simp[World.cell?,l]
 have K:w.frozen? ⟨b,1,none⟩=false:=by simp[World.frozen?,l]
 by_cases J:len<=d
 ·have hd:decide ((len:Int)<=(d:Int))=true:=by simpa using J
  go_enter func16,ntmps16
  go_wp2;go_quiet (fail)
  go_wp2;go_ret;exact⟨⟨0,z,z,rfl⟩,⟨c,d,l,o,s⟩,rfl,fun _ _=>rfl,rfl,rfl,rfl⟩
 ·have hd:decide ((len:Int)<=(d:Int))=false:=bu;have E:decide (n<1)=false:=bu;rcases o with o|⟨j,ee,rfl,D⟩
  ·omega
  ·obtain⟨x,B⟩:=D d z;have u:=s _ rfl z;have Q:(n==0)=false:=bu;have C:=QS x n I A;go_enter func16,ntmps16
   go_wp2;go_quiet (fail)
   go_wp2;have g:∃f,f=(w.drewN nq).setCell ⟨b,1,none⟩ (Value.int .i64 (↑d+1)):=⟨_,rfl⟩;obtain⟨f,g⟩:=g;have q:Hid (f.heap[b]? =some (.cells #[.slice (some ⟨j,ee,none⟩) len c,.int .i64 (↑d+1)] 57 (0,0))):=by subst g;exact hS (w:=w.drewN nq) l _
   have r:Hid (∀k,k≠b->f.heap[k]? =w.heap[k]?):=fun k F=>by subst g;rw[hm _ _ _ _ F];rfl
   have m:Hid (f.heap.size=w.heap.size/\f.os=w.os/\f.tape=w.tape/\f.output=w.output):=by have t:=(bi 0 (w.drewN nq)).setCell (p:=⟨b,1,none⟩) (dq _) (Value.int .i64 (↑d+1));subst g;exact⟨am,t.os,t.tape,t.output⟩
   rw[←g];have P:f.cell? ⟨b,0,none⟩=some (.slice (some ⟨j,ee,none⟩) len c):=by simp[World.cell?,q.out]
   have L:f.cell? ⟨b,1,none⟩=some (.int .i64 (↑d+1)):=by simp[World.cell?,q.out]
   have M:f.cell? ⟨j,ee+d,none⟩=some (.int .i64 x):=by rw[mO (w:=w) (r.out j u)];exact B
   have N:0<=(d:Int)+1-1:=z;have O:((d:Int)+1-1)<len:=z;have i3:((d:Int)+1-1).toNat=d:=z;clear br c1 K hd E g l B;go_quiet (fail)
   go_wp2;go_ret;exact⟨⟨_,C.1,C.2,rfl⟩,⟨c,d+1,by rw[aa5];exact q.out,.inr ⟨j,ee,rfl,fun i hi=>by obtain⟨y,G⟩:=D i hi;exact⟨y,by rw[←G];exact mO (w:=w) (r.out j u)⟩⟩,s⟩,m.out.1,r.out,m.out.2.1,m.out.2.2.1,m.out.2.2.2⟩
theorem k7.U{w w':World}{a:Option Addr}{n:Nat}(h:k7 w a n)(A:Below w.heap.size w w'):k7 w' a n:=by
 rcases h with h|⟨b,o,rfl,h⟩
 ·exact .inl h
 ·refine .inr ⟨b,o,rfl,fun i hi=>?_⟩;obtain⟨x,c⟩:=h i hi;exact⟨x,(A.cell (aaZ w _ c)).trans c⟩
theorem ef.U{w w':World}{b:Nat}{a:Option Addr}{n:Nat}(h:ef w b a n)(A:Below w.heap.size w w'):ef w' b a n:=by
 obtain⟨c,e,H,I,d⟩:=h;exact⟨c,e,(A.block b (hl.1 H).1).trans H,I.U A,d⟩
theorem ef.lt{w:World}{b:Nat}{a:Option Addr}{n:Nat}(h:ef w b a n):b<w.heap.size:=by
 obtain⟨c,e,H,I,d⟩:=h;exact(hl.1 H).1
theorem ef.alloc{w:World}{b:Nat}{a:Option Addr}{n:Nat}(h:ef w b a n)(o:Obj):ef (w.alloc o) b a n:=h.U ((bi _ _).alloc (aZ _) o)
end Go.aI
namespace Go.bj.N
open Go Go.Proofs Go.RowKit Go.c0
def CI(e:Ending):Prop:=∃r:Bool,e=.returned (.bool r)
end Go.bj.N
namespace Go.bj.N
open Go Go.Proofs.Tryz Go.Proofs Go.RowKit Go.c0
def NS(w:World)(a:Option Addr)(n:Nat):Prop:=n<=1000/\(0<n->∃b o,a=some ⟨b,o,none⟩/\b<w.heap.size/\∀i,i<n->∃(s:ByteArray) (k m:Int),s.size<=maxLen/\w.cell? ⟨b,o+i*3,none⟩=some (.string s)/\w.cell? ⟨b,o+i*3+1,none⟩=some (.int .i64 k)/\w.cell? ⟨b,o+i*3+2,none⟩=some (.int .i64 m)/\0<=m/\m<=9)
theorem axC(w:World):Calls prog 121 #[] w fun e w'=>e=.returned (.slice (some ⟨w.heap.size,0,none⟩) 6 6)/\w'=w.alloc (.cells #[.string ⟨#[]⟩,.string ⟨#[116,101,120,116]⟩,.string ⟨#[110,117,109,98,101,114]⟩,.string ⟨#[100,97,116,101]⟩,.string ⟨#[98,111,111,108]⟩,.string ⟨#[116,97,98,108,101]⟩] 9):=by
 go_enter func121,ntmps121
 go_wp2;exact LD
def AR(w:World)(a:Option Addr)(n:Nat):Prop:=n<=1000/\(0<n->∃b o,a=some ⟨b,o,none⟩/\b<w.heap.size/\∀i,i<n->∃x:Int,w.cell? ⟨b,o+i,none⟩=some (.int .i64 x))
theorem axl(a b:Option Addr)(m n c d:Nat)(w:World)(f:AR w a m)(A:AR w b n):Calls prog 199 #[.slice a m c,.slice b n d] w fun e w'=>CI e/\p6 w w':=by
 obtain⟨H,f⟩:=f;obtain⟨I,A⟩:=A;by_cases o:m=n
 ·subst o;have l:((m:Int) !=(m:Int))=false:=am;go_enter func199,ntmps199
  go_wp2;go_loopw [5] (fun i wr=>∃k:Nat,k<=m/\i=.int .i64 k/\p6 w wr) (fun i _=>m-(RowKit.intOf i).toNat);case atStart=>exact⟨0,dq _,rfl,0,rfl⟩
  case round=>
   obtain⟨k,r,rfl,q,rfl⟩:=hrel;by_cases aq:k<m
   ·obtain⟨C,E,rfl,t,g⟩:=f z;obtain⟨B,F,rfl,D,j⟩:=A z;obtain⟨x,s⟩:=g k aq;obtain⟨y,u⟩:=j k aq;have G:(0:Int)<=(k:Int):=z;have J:(k:Int)<m:=z;clear g j f A
    go_wp2;go_quiet (fail)
    go_wp2;all_goals first
     |(
      go_roundw
      case rel=>exact⟨k+1,z,bM,_,(by first|rfl|exact World.drewN_drewN _ _ _)⟩
      case measure=>simp[RowKit.intOf];omega)
     |(go_ret;exact⟨⟨_,rfl⟩,_,(by first|rfl|exact World.drewN_drewN _ _ _)⟩)
   ·go_wp2;all_goals(go_ret;exact⟨⟨_,rfl⟩,q,rfl⟩)
 ·have l:((m:Int) !=(n:Int))=true:=bu;go_enter func199,ntmps199
  go_wp2;all_goals(go_ret;exact⟨⟨_,rfl⟩,0,rfl⟩)
theorem AR.U{w w':World}{a:Option Addr}{n:Nat}(h:AR w a n)(A:Below w.heap.size w w'):AR w' a n:=
 ⟨h.1,fun g=>by
  obtain⟨b,o,e,c,d⟩:=h.2 g
  exact⟨b,o,e,cE A c,fun i hi=>by obtain⟨x,f⟩:=d i hi;exact⟨x,by rw[A.cell c];exact f⟩⟩⟩
theorem NS.U{w w':World}{a:Option Addr}{n:Nat}(h:NS w a n)(A:Below w.heap.size w w'):NS w' a n:=
 ⟨h.1,fun j=>by
  obtain⟨b,o,e,c,d⟩:=h.2 j
  exact⟨b,o,e,cE A c,fun i hi=>by
   obtain⟨s,k,m,H,I,g,f,l⟩:=d i hi
   exact⟨s,k,m,H,by rw[A.cell c];exact I,by rw[A.cell c];exact g,by rw[A.cell c];exact f,l⟩⟩⟩
end Go.bj.N
namespace Go.bj.N
open Go Go.Proofs Go.RowKit Go.c0
def S9(w:World)(a:Option Addr)(n:Nat):Prop:=n<=1000/\(0<n->∃b o,a=some ⟨b,o,none⟩/\b<w.heap.size/\∀i,i<n->∃s:ByteArray,s.size<=maxLen/\w.cell? ⟨b,o+i,none⟩=some (.string s))
theorem S9.U{w w':World}{a:Option Addr}{n:Nat}(h:S9 w a n)(A:Below w.heap.size w w'):S9 w' a n:=
 ⟨h.1,fun g=>by
  obtain⟨b,o,e,c,d⟩:=h.2 g
  exact⟨b,o,e,cE A c,fun i hi=>by obtain⟨x,j,f⟩:=d i hi;exact⟨x,j,by rw[A.cell c];exact f⟩⟩⟩
def M5(w:World)(a:Option Addr)(n c:Nat):Prop:=n<=3/\(0<n->∃b o,a=some ⟨b,o,none⟩/\b<w.heap.size/\∀i,i<n->∃x:Nat,x<c/\w.cell? ⟨b,o+i,none⟩=some (.int .i64 x))
theorem M5.U{w w':World}{a:Option Addr}{n d:Nat}(h:M5 w a n d)(A:Below w.heap.size w w'):M5 w' a n d:=
 ⟨h.1,fun j=>by
  obtain⟨b,o,e,c,f⟩:=h.2 j
  exact⟨b,o,e,cE A c,fun i hi=>by obtain⟨x,k,g⟩:=f i hi;exact⟨x,k,by rw[A.cell c];exact g⟩⟩⟩
structure NQ (T:ByteArray->ByteArray->Prop) (w:World) (b o ec:Nat) (h:Nat) (op aF:ByteArray) (aP:Option Addr) (h7 ac:Nat):Prop where
 br:w.cell? ⟨b,o,none⟩=some (.int .i64 h)
 c1:w.cell? ⟨b,o+1,none⟩=some (.string op)
 c2:w.cell? ⟨b,o+2,none⟩=some (.string aF)
 c3:w.cell? ⟨b,o+3,none⟩=some (.slice aP h7 ac)
 aq:h<ec
 t:T op aF
 az3:op.size<=maxLen
 aAq:aF.size<=maxLen
 args:M5 w aP h7 ec
def S5(T:ByteArray->ByteArray->Prop)(w:World)(a:Option Addr)(n d:Nat):Prop:=n<=1000/\(0<n->∃b o,a=some ⟨b,o,none⟩/\b<w.heap.size/\∀i,i<n->∃h op aF c h7 ac,NQ T w b (o+i*4) d h op aF c h7 ac)
theorem NQ.U{T:ByteArray->ByteArray->Prop}{w w':World}{b o d h:Nat}{op aF:ByteArray}{c:Option Addr}{h7 ac:Nat}(r:NQ T w b o d h op aF c h7 ac)(a:b<w.heap.size)(A:Below w.heap.size w w'):NQ T w' b o d h op aF c h7 ac:=
 ⟨by rw[A.cell a];exact r.br,by rw[A.cell a];exact r.c1,by rw[A.cell a];exact r.c2,by rw[A.cell a];exact r.c3,r.aq,r.t,r.az3,r.aAq,r.args.U A⟩
theorem S5.U{T:ByteArray->ByteArray->Prop}{w w':World}{a:Option Addr}{n d:Nat}(h:S5 T w a n d)(A:Below w.heap.size w w'):S5 T w' a n d:=
 ⟨h.1,fun j=>by
  obtain⟨b,o,e,c,f⟩:=h.2 j
  exact⟨b,o,e,cE A c,fun i hi=>by obtain⟨hd,op,aF,g,h7,ac,r⟩:=f i hi;exact⟨hd,op,aF,g,h7,ac,r.U c A⟩⟩⟩
def H7(a:World)(g r:Nat)(b R:Array Value):Prop:=g<a.heap.size/\r<a.heap.size/\a.heap[g]? =some (.cells b 29 (0,0))/\a.heap[r]? =some (.cells R 86 (0,0))
theorem H7.U{w w':World}{g r:Nat}{a R:Array Value}(h:H7 w g r a R)(A:Below w.heap.size w w'):H7 w' g r a R:=
 ⟨cE A h.1,cE A h.2.1,by rw[A.block g h.1];exact h.2.2.1,by rw[A.block r h.2.1];exact h.2.2.2⟩
end Go.bj.N
namespace Go.bj.N
open Go Go.Proofs.Tryz Go.Proofs Go.RowKit Go.c0
def M'(w:World)(a:Option Addr)(n:Nat):Prop:=n<=1000/\(0<n->∃b o,a=some ⟨b,o,none⟩/\b<w.heap.size/\∀i,i<n->∃(s:ByteArray) (k:Int),s.size<=maxLen/\w.cell? ⟨b,o+i*2,none⟩=some (.string s)/\w.cell? ⟨b,o+i*2+1,none⟩=some (.int .i64 k))
theorem M'.U{w w':World}{a:Option Addr}{n:Nat}(h:M' w a n)(A:Below w.heap.size w w'):M' w' a n:=
 ⟨h.1,fun g=>by
  obtain⟨b,o,e,c,d⟩:=h.2 g
  exact⟨b,o,e,cE A c,fun i hi=>by
   obtain⟨s,k,H,I,f⟩:=d i hi
   exact⟨s,k,H,by rw[A.cell c];exact I,by rw[A.cell c];exact f⟩⟩⟩
theorem axb:(prog.info? 9).map (fun i=>(i.zero,i.size,i.bytes))=some (some (.string ⟨#[]⟩),1,16):=au
def yW(base:Nat)(v:Value)(k:Nat)(w:World):Prop:=∃aK:List ByteArray,aK.length=k/\(∀s∈aK,s.size<=maxLen)/\w.ownsRow base 9 1 v k (aK.map Value.string)
def yT(w:World)(g:Nat)(a:Array Value):Prop:=g<w.heap.size/\w.heap[g]? =some (.cells a 29 (0,0))
theorem yT.U{w w':World}{g:Nat}{a:Array Value}{B:Nat}(h:yT w g a)(b:g<B)(A:Below B w w'):yT w' g a:=
 ⟨cE A h.1,by rw[A.block g b];exact h.2⟩
theorem yW.U{base k:Nat}{v:Value}{w w':World}(h:yW base v k w)(A:Below w.heap.size w w'):yW base v k w':=by
 obtain⟨aK,H,I,a,aM⟩:=h;refine⟨aK,H,I,a,?_⟩;exact aju
theorem akl(w:World)(s:ByteArray):∀(j:Nat) (u:Value),[Value.string s][j]? =some u->(w.alloc (.cells #[.string s] 9)).cell? ((⟨w.heap.size,0,none⟩:Addr).add j)=some u:=by
 exact Xv
def ap7(s:ByteArray)(e:Ending):Prop:=∃t:ByteArray,Se s t/\e=.returned (.string t)
theorem adU{c:UInt8}(h:(((c.toNat:Nat):Int)==0)=true):c=0:=by
 have:c.toNat=0:=by simpa using h
 exact RX.1 (by simpa using this)
theorem TF(s:ByteArray)(k:Nat)(h:k<s.size):s.data.toList[k]? =some s[k]:=by
 rw[ln (by rw[ji];exact h)];rfl
theorem abF(s:ByteArray)(k:Nat)(a:k<=s.size)(c:∀j,j<k->s.data.toList[j]? =some 0)(b:∀h:k<s.size,s[k]≠0):Se s (s.extract k s.size):=
 aoc s _ k (aaS s k) (by rw[ji];exact a) c fun h=>b (by rw[ji]at h;exact h)
theorem Ni(s:ByteArray)(w:World)(b:s.size<=maxLen):Calls prog 172 #[.string s] w fun e w'=>ap7 s e/\w=w':=by
 unfold maxLen at b;go_enter func172,ntmps172
 go_wp2;go_loop [3] (fun i=>∃k:Nat,k<=s.size/\i=.int .i64 k/\Hid (∀j,j<k->s.data.toList[j]? =some 0)) (fun i=>s.size-(RowKit.intOf i).toNat);case atStart=>exact⟨0,dq _,rfl,fun j c=>z⟩
 case round=>
  obtain⟨k,a,rfl,ax⟩:=hrel;by_cases aq:k<s.size
  ·go_wp2
   ·exact ajc
   ·have az:((((s[k]'aq).toNat:Nat):Int)==0)=false:=by assumption
    go_ret;exact⟨⟨_,abF s k a ax.out (fun h e=>by rw[e]at az;simp at az),rfl⟩,rfl⟩
  ·go_wp2;go_ret;exact⟨⟨_,abF s k a ax.out (fun h=>absurd h aq),rfl⟩,rfl⟩
theorem ada(l:List UInt8)(k:Nat)(h:k<=6):aT (l.take k)<281474976710656:=by
 exact ajB
theorem adb(t:ByteArray)(k:Nat)(h:k<t.size):aT (t.data.toList.take (k+1))=aT (t.data.toList.take k)*256+t[k].toNat:=by
 exact ajH
def y_(n:Nat)(e:Ending):Prop:=e=.returned (.tuple #[.int .i64 n,.bool true])
theorem BI(s:ByteArray)(w:World)(b:s.size<=maxLen)(a:aT s.data.toList<256^7):Calls prog 174 #[.string s] w fun e w'=>y_ (aT s.data.toList) e/\w=w':=by
 have c:=G a;clear a;go_enter func174,ntmps174
 go_wp2_with (go_at_call 172;refine(Ni s _ b).mono ?_;rintro e w' ⟨⟨t,T,rfl⟩,rfl⟩;have f:t.size<=7:=T.2.2 7 c.out;have g:decide (8<(t.size:Int))=false:=bu;have j:((t.size:Int)==8)=false:=bu);go_loop [4,5] (fun n i=>∃k:Nat,k<=t.size/\i=.int .i64 k/\n=.int .i64 (aT (t.data.toList.take k))) (fun _ i=>t.size-(RowKit.intOf i).toNat);case atStart=>exact⟨0,dq _,rfl,rfl⟩
 case round=>
  obtain⟨k,d,rfl,rfl⟩:=hrel;by_cases aq:k<t.size
  ·exact ajU
  ·have Pk:k=t.size:=z;have WH:aT (t.data.toList.take k)=aT s.data.toList:=by rw[Pk,tt (by rw[ji];exact aZ _)];exact T.1
   exact ajI
theorem Nk(s:ByteArray)(n:Nat)(w:World)(b:s.size<=maxLen)(d:n<=7)(a:aT s.data.toList<256^n):Calls prog 88 #[.string s,.int .i64 n] w fun e w'=>y_ (aT s.data.toList) e/\w=w':=by
 have c:Hid (aT s.data.toList<256^7):=iz a (ks z d);have f:=G a;clear a;go_enter func88,ntmps88
 go_wp2_with (first
  |(go_at_call 172;refine(Ni s _ b).mono ?_;rintro e w' ⟨⟨t,T,rfl⟩,rfl⟩;have g:t.size<=n:=T.2.2 n f.out;have i:decide (n<t.size)=false:=bu)
  |(go_at_call 174;refine(BI s _ b c.out).mono ?_;rintro e w' ⟨rfl,rfl⟩))
 go_ret2
 exact⟨rfl,rfl⟩
theorem aw_:(prog.info? 5).map (fun i=>(i.zero,i.size,i.bytes))=some (some (.int .u8 0),1,1):=au
theorem wQ(w:World)(v:Value):∀(j:Nat) (u:Value),[v][j]? =some u->(w.alloc (.cells #[v] 5)).cell? ((⟨w.heap.size,0,none⟩:Addr).add j)=some u:=by
 exact Xv
theorem aoe(n j:Nat):jI n (j+1)=jI n j++[(((n/2^(56-8*j))%256:Nat):Int)]:=by
 simp[jI,MY]
theorem up{base k:Nat}{v:Value}{w:World}{aK:List Value}{e:TypeId}(h:w.ownsRow base e 1 v k aK):∀g,v.ownBlock=some g->base<=g:=by
 intro g al;obtain⟨a,aM⟩:=h;exact ajJ
theorem aoh{w:World}{base k:Nat}{v:Value}{aK:List Value}{a b:Int}(h:w.ownsRow base 5 1 v k (aK++[.int .u8 a]))(e:a=b):w.ownsRow base 5 1 v k (aK++[.int .u8 b]):=e▸h
def AU(n:Nat)(e:Ending):Prop:=∃t:ByteArray,e=.returned (.string t)/\aT t.data.toList=n/\(t.size<=8/\(n=0->t.size=0))
theorem aog(w:World):Calls prog 86 #[.int .i64 0] w fun e w'=>AU 0 e/\Below w.heap.size w w':=by
 have a:=fun(w:World) (l c:Nat)=>RF (P:=prog) (w:=w) 230 5 underlying230 underlying5 l c;have b:=fun(w:World) (l c:Nat)=>a w l c 91 underlying91;go_enter func86,ntmps86
 go_wp2;refine Cm 1 ?_;rw[rx]
 go_wp2_with (go_at_call 172;refine(Ni _ _ (by simp[maxLen])).mono ?_;rintro e w' ⟨⟨t,T,rfl⟩,rfl⟩);go_ret;exact⟨⟨t,rfl,T.1.trans rfl,db T.2.1 ai,fun _=>Nat.le_zero.1 (T.2.2 0 ai)⟩,bi _ _⟩
theorem aof(n:Nat)(w:World)(ab:0<n)(H:n<36028797018963968):Calls prog 86 #[.int .i64 n] w fun e w'=>AU n e/\Below w.heap.size w w':=by
 obtain⟨A,K,L,C,F⟩:=jt aw_;have ag:decide (0<(n:Int))=true:=bu;go_enter func86,ntmps86
 go_wp2;go_loopw [3,4] (fun v i wr=>∃j:Nat,j<=8/\i=.int .i64 (56-8*(j:Int))/\wr.ownsRow w.heap.size 5 1 v j ((jI n j).map (Value.int .u8))/\Below w.heap.size w wr) (fun _ i _=>(RowKit.intOf i+8).toNat);case atStart=>exact⟨0,z,rfl,mo _ _ _ _,bi _ _⟩
 case round=>
  obtain⟨j,M,rfl,c,b⟩:=hrel;by_cases aq:j<8
  ·have u:j=0∨j=1∨j=2∨j=3∨j=4∨j=5∨j=6∨j=7:=z;have f:=aoe n j;rcases u with rfl|rfl|rfl|rfl|rfl|rfl|rfl|rfl
   all_goals
    have r:=G f;clear f
    go_wp2_with (at_builtin;refine lP _ rfl _ _ 230 rfl w.heap.size 5 A (.int .u8 0) 1 1 underlying230 K L C F rfl ai _ _ _ rfl (c.alloc _) ⟨wr.heap.size,0,none⟩ 1 1 [_] rfl rfl (wQ _ _) (by simp[Value.oneCell']) (by unfold maxLen;omega) z (by have:=b.size;simp;omega) ?_;intro N x l m _);have a:Below w.heap.size w x:=(b.alloc b.size _).grown m (by have:=b.size;simp;omega) (up c);have D:=G l;clear l m
    go_wp2;first|(refine⟨⟨1,z,bM,?_,a⟩,by simp[RowKit.intOf]⟩)|(refine⟨⟨2,z,bM,?_,a⟩,by simp[RowKit.intOf]⟩)|(refine⟨⟨3,z,bM,?_,a⟩,by simp[RowKit.intOf]⟩)|(refine⟨⟨4,z,bM,?_,a⟩,by simp[RowKit.intOf]⟩)|(refine⟨⟨5,z,bM,?_,a⟩,by simp[RowKit.intOf]⟩)|(refine⟨⟨6,z,bM,?_,a⟩,by simp[RowKit.intOf]⟩)|(refine⟨⟨7,z,bM,?_,a⟩,by simp[RowKit.intOf]⟩)|(refine⟨⟨8,z,bM,?_,a⟩,by simp[RowKit.intOf]⟩)
    rw[r.out,w1,abd];exact aoh D.out (by first|omega|(simp;omega)|(simp))
  ·obtain rfl:j=8:=z;obtain⟨s,E⟩:=c;rcases E with⟨_,Q⟩|⟨g,cap,y,rfl,S,kL,O,U,B,q⟩
   ·omega
   ·have o:∀i,i<8->wr.cell? ⟨g,0+i,none⟩=some (.int .u8 ((jI n 8).getD i 0)):=fun i hi=>by
     have H:(y.toList.take (8*1))[i]? =((jI n 8).map (Value.int .u8))[i]? :=by rw[q]
     rw[oS,cv z,pn]at H;have I:i<(jI n 8).length:=by simpa[jI]using hi
     exact ai1
    have R:=MP (P:=prog) wr 230 5 underlying230 underlying5 g 0 8 cap (jI n 8) (by simp[jI]) o 91 underlying91;have J:=G (aoa n H);have k:(strOfNums (jI n 8)).size=8:=by rw[MQ];simp[jI]
    have d:=G k;clear k o kL B q s
    go_wp2_with (go_at_call 172;refine(Ni _ _ (by rw[d.out];unfold maxLen;omega)).mono ?_;rintro e w' ⟨⟨t,T,rfl⟩,rfl⟩);go_ret;exact⟨⟨t,rfl,T.1.trans (by rw[RH];exact J.out),by have:=T.2.1;rw[d.out]at this;exact this,fun h=>z⟩,b⟩
theorem Sf(n:Nat)(w:World)(H:n<36028797018963968):Calls prog 86 #[.int .i64 n] w fun e w'=>AU n e/\Below w.heap.size w w':=by
 by_cases ab:n=0
 ·subst ab;exact aog w
 ·exact aof n w z H
def y4(s:ByteArray)(n:Nat):Prop:=aT s.data.toList=n/\(s.size<=8/\(n=0->s.size=0))
theorem Ti(a b:ByteArray)(m n:Nat)(w:World)(f:y4 a m)(A:y4 b n)(g:m<281474976710656)(i:n<281474976710656):Calls prog 41 #[.string a,.string b] w fun e w'=>AU (m+n) e/\Below w.heap.size w w':=by
 have d:=G f;have c:=G A;clear f A;have c1:∀w,Calls prog 88 #[.string a,.int .i64 7] w fun e w'=>e=.returned (.tuple #[.int .i64 m,.bool true])/\w=w':=fun w=>by have:=Nk a 7 w (db d.out.2.1 ai) z (by rw[d.out.1];exact iz g ai);rw[d.out.1]at this;exact this
 have c2:∀w,Calls prog 88 #[.string b,.int .i64 7] w fun e w'=>e=.returned (.tuple #[.int .i64 n,.bool true])/\w=w':=fun w=>by have:=Nk b 7 w (db c.out.2.1 ai) z (by rw[c.out.1];exact iz i ai);rw[c.out.1]at this;exact this
 have bk:=G c1;have bK:=G c2;have c3:∀w,Calls prog 86 #[.int .i64 ((m:Int)+(n:Int))] w fun e w'=>AU (m+n) e/\Below w.heap.size w w':=fun w=>by have:=Sf (m+n) w z;rw[aa5]at this;exact this
 have h6:=G c3;clear c1 c2 c3;go_enter func41,ntmps41;exact aiU
theorem ayV(a b:ByteArray)(m n:Nat)(w:World)(f:y4 a m)(A:y4 b n)(g:m<16777216)(i:n<2147483648):Calls prog 173 #[.string a,.string b] w fun e w'=>AU (m*n) e/\Below w.heap.size w w':=by
 have d:=G f;have c:=G A;clear f A;have j:m*n<36028797018963968:=by have H:m*n<=16777215*n:=oU _ z;omega
 have c1:∀w,Calls prog 88 #[.string a,.int .i64 3] w fun e w'=>e=.returned (.tuple #[.int .i64 m,.bool true])/\w=w':=fun w=>by have:=Nk a 3 w (db d.out.2.1 ai) z (by rw[d.out.1];exact iz g ai);rw[d.out.1]at this;exact this
 have c2:∀w,Calls prog 88 #[.string b,.int .i64 4] w fun e w'=>e=.returned (.tuple #[.int .i64 n,.bool true])/\w=w':=fun w=>by have:=Nk b 4 w (db c.out.2.1 ai) z (by rw[c.out.1];exact iz i ai);rw[c.out.1]at this;exact this
 have c3:∀w,Calls prog 86 #[.int .i64 ((m:Int)*(n:Int))] w fun e w'=>AU (m*n) e/\Below w.heap.size w w':=fun w=>by have:=Sf (m*n) w j;rw[Cn]at this;exact this
 have bk:=G c1;have bK:=G c2;have h6:=G c3;have k:wrap64 ((m:Int)*(n:Int))=(m:Int)*(n:Int):=MN _ ⟨by rw[←Cn];omega,by rw[←Cn];omega⟩;clear c1 c2 c3;go_enter func173,ntmps173;exact aiU
def jG(w:World)(b n:Nat)(bD:Nat->Nat):Prop:=b<w.heap.size/\∃cs:Array Value,w.heap[b]? =some (.cells cs 91 (0,0))/\cs.size=n/\∀i,i<n->∃(s:ByteArray) (m:Nat),cs[i]? =some (.string s)/\y4 s m/\m<=bD i
theorem jG.cell{w:World}{b n:Nat}{bD:Nat->Nat}(h:jG w b n bD){i:Nat}(hi:i<n):∃(s:ByteArray) (m:Nat),w.cell? ⟨b,i,none⟩=some (.string s)/\y4 s m/\m<=bD i:=by
 obtain⟨_,cs,H,I,c⟩:=h;obtain⟨s,m,e,a⟩:=c i hi;exact⟨s,m,lb H e,a⟩
theorem jG.U{w w':World}{b n B:Nat}{bD:Nat->Nat}(h:jG w b n bD)(c:b<B)(A:Below B w w'):jG w' b n bD:=by
 obtain⟨ab,cs,H,I,a⟩:=h;exact⟨cE A ab,cs,by rw[A.block b c];exact H,I,a⟩
theorem jG.free{w:World}{b n:Nat}{bD:Nat->Nat}(h:jG w b n bD)(i:Nat):w.frozen? ⟨b,i,none⟩=false:=by
 obtain⟨_,cs,H,_⟩:=h;simp[World.frozen?,H]
theorem jG.mono{w:World}{b n:Nat}{bD d:Nat->Nat}(h:jG w b n bD)(hu:∀i,i<n->bD i<=d i):jG w b n d:=by
 obtain⟨ab,cs,H,I,e⟩:=h;exact⟨ab,cs,H,I,fun i hi=>by obtain⟨s,m,a,b,c⟩:=e i hi;exact⟨s,m,a,b,db c (hu i hi)⟩⟩
theorem jG.set{w:World}{b n:Nat}{bD:Nat->Nat}(h:jG w b n bD){j m:Nat}{s:ByteArray}(l:j<n)(c:y4 s m)(f:m<=bD j):jG (w.setCell ⟨b,j,none⟩ (.string s)) b n bD:=by
 obtain⟨ab,cs,H,I,d⟩:=h;refine⟨by simpa using ab,cs.setIfInBounds j (.string s),hS H _,by simpa using I,fun i hi=>?_⟩;by_cases e:i=j
 ·subst e;exact⟨s,m,by simp[I,hi],c,f⟩
 ·obtain⟨g,k,a,b⟩:=d i hi;exact⟨g,k,by rw[yG (ht e)];exact a,b⟩
theorem jG.zero(w:World):jG (w.alloc (.cells (Array.replicate 10 (.string ⟨#[]⟩)) 91)) w.heap.size 10 (fun _=>0):=
 ⟨am,Array.replicate 10 (.string ⟨#[]⟩),da w _,am,fun i hi=>⟨⟨#[]⟩,0,by simp[hi],⟨rfl,ai,fun _=>rfl⟩,aZ _⟩⟩
theorem axv(a b n ca Y:Nat)(W C:Nat->Nat)(w:World)(aw:n<=10)(E:jG w a 10 W)(x:jG w b n C)(O:∀i,i<10->W i<16777216)(eu:∀i,i<n->C i<2147483648)(t_:∀i,i<10->kE W C n i 10<281474976710656): Calls prog 87 #[.slice (some ⟨a,0,none⟩) 10 ca,.slice (some ⟨b,0,none⟩) n Y] w fun e w'=>e=.returned (.slice (some ⟨w.heap.size,0,none⟩) 10 10)/\jG w' w.heap.size 10 (fun i=>kE W C n i 10)/\Below w.heap.size w w':=by
 have sa:∀w,(Instr.makeSlice 92 (.int .i64 10) (.int .i64 10)).run prog w=.ok (.slice (some ⟨w.heap.size,0,none⟩) 10 10) (w.alloc (.cells (Array.replicate 10 (.string ⟨#[]⟩)) 91)):=fun w=>au;have J:=E.1;have A:=x.1;go_enter func87,ntmps87
 go_wp2;have j4:=jG.zero w;have kF:Below w.heap.size w (w.alloc (.cells (Array.replicate 10 (.string ⟨#[]⟩)) 91)):=(bi _ _).alloc (aZ _) _;generalize w.alloc (.cells (Array.replicate 10 (.string ⟨#[]⟩)) 91)=ap at*;clear sa;go_loopw [6] (fun i wr=>∃k:Nat,k<=10/\i=.int .i64 k/\jG wr w.heap.size 10 (fun i=>kE W C n i k)/\Below w.heap.size w wr) (fun i _=>10-(RowKit.intOf i).toNat);case atStart=>exact⟨0,z,rfl,j4,kF⟩
 case round=>
  obtain⟨K,rfl⟩:∃K:World,K=wr:=⟨_,rfl⟩;obtain⟨k,aa,rfl,F,y⟩:=hrel;by_cases aq:k<10
  ·have V7:(k:Int)<10:=z
   go_wp2;go_loopw [7] (fun i B=>∃m:Nat,1<=m/\m<=10/\i=.int .i64 m/\jG B w.heap.size 10 (fun i=>tc W C n k m i)/\Below w.heap.size w B) (fun i _=>10-(RowKit.intOf i).toNat);case atStart=>exact⟨1,z,z,rfl,F.mono fun i _=>by rw[aAk];exact aZ _,y⟩
   case round=>
    obtain⟨m,lH,an,rfl,jN,gS⟩:=hrel;by_cases fJ:m<n/\k+m<10
    ·obtain⟨j,D⟩:=fJ;have mj:(m:Int)<n:=z;have lj:(k:Int)+(m:Int)<10:=z;obtain⟨t,L,fY,gZ,ee⟩:=jN.cell (i:=k+m) z;obtain⟨V,va,iB,T,r⟩:=(E.U J gS).cell (i:=k) aq;obtain⟨bJ,f,ab,X,q⟩:=(x.U A gS).cell (i:=m) j;have d:w.heap.size<wr.heap.size:=jN.1;have ad:a<wr.heap.size:=cE gS J;have ae:b<wr.heap.size:=cE gS A;have S:va<16777216:=p2 r (O k aq);have R:f<2147483648:=p2 q (eu m j);have co:L+va*f<281474976710656:=by have H:va*f<=W k*C m:=w3 r q;have I:=ak2 W C n k m z j;have af:=ak1 W C n k (m+1) (k+m);have aM:=amE W C n (k+m) (k+1) 10 z;have bZ:=t_ (k+m) D;omega
     have fE:wr.frozen? ⟨w.heap.size,k+m,none⟩=false:=jN.free _;have nh:=G jN;clear jN
     go_wp2;have cg:IntKind.i64.wrap ((k:Int)+(m:Int))=(k:Int)+(m:Int):=oQ _ ⟨z,z⟩;have jq:(0:Int)<=(k:Int)+(m:Int):=z;have ph:((k:Int)+(m:Int)).toNat=k+m:=z;have qB:(0:Int)<=(k:Int):=z;have Yw:(0:Int)<=(m:Int):=z
     go_region_law (first
       |(go_simp;go_at_call 173;refine(ayV V bJ va f _ T X S R).mono ?_;rintro e g ⟨⟨Z,rfl,M,jg⟩,c⟩;have N:g.cell? ⟨w.heap.size,k+m,none⟩=some (.string t):=(by rw[c.cell (by simpa using d)];exact fY);have U:g.frozen? ⟨w.heap.size,k+m,none⟩=false:=(by rw[c.frozen (by simpa using d)];exact fE))
       |(go_simp;go_at_call 41;refine(Ti t Z L (va*f) _ gZ ⟨M,jg⟩ z z).mono ?_;rintro e l ⟨⟨cM,rfl,x7,kU⟩,o⟩;have bR:l.frozen? ⟨w.heap.size,k+m,none⟩=false:=(by rw[o.frozen (cE c d)];exact U);have dF:l.cell? ⟨w.heap.size,k+m,none⟩=some (.string t):=(by rw[o.cell (cE c d)];exact N)))
     all_goals(
      have jN:jG wr w.heap.size 10 (fun i=>tc W C n k m i):=nh
      go_wp2
      have Q:jG wr.drew w.heap.size 10 (fun i=>tc W C n k m i):=jN.U d (lK wr)
      have s:w.heap.size<wr.drew.heap.size:=d
      have hT:Below w.heap.size wr.drew g:=c.mono (Ct s)
      have u:w.heap.size<g.heap.size:=cE c s
      have hv:Below w.heap.size g l:=o.mono (Ct u)
      have H:va*f<=W k*C m:=w3 r q
      have I:=ak2 W C n k m z j
      have P:jG l w.heap.size 10 (fun i=>tc W C n k (m+1) i):=((Q.U s c).U u o).mono fun i _=>aAj W C n k m i
      exact⟨⟨m+1,z,z,bM,P.set D ⟨x7,kU⟩ z,(((gS.drew).trans hT).trans hv).setCell (aZ _) _⟩,by simp[RowKit.intOf];omega⟩)
    ·by_cases j:m<n
     ·have lj:¬((k:Int)+(m:Int)<10):=z;exact ajp
     ·exact ajp
  ·obtain rfl:k=10:=z
   go_wp2;go_ret;exact⟨rfl,F,y⟩
end Go.bj.N
namespace Go.bj
open Go Go.Proofs Go.RowKit
structure sH (s:ByteArray):Prop where
 ee:1<=s.size
 hi:s.size<=20
 md:∀k (Q:k<s.size),(97<=(s[k].toNat:Int)/\(s[k].toNat:Int)<=122)∨(65<=(s[k].toNat:Int)/\(s[k].toNat:Int)<=90)∨(0<k/\((s[k].toNat:Int)=95∨48<=(s[k].toNat:Int)/\(s[k].toNat:Int)<=57))
end Go.bj
namespace Go.bj
open Go Go.Proofs Go.RowKit Go.c0
def rS(l m:List Nat)(k:Nat):Prop:=∀j,j<k->l[j]? =m[j]?
theorem rS.vA{l m:List Nat}{k:Nat}(h:rS l m k)(H:k<l.length)(I:k<m.length)(e:l[k]=m[k]):rS l m (k+1):=fun j b=>by
 by_cases a:j=k
 ·subst a;rw[ln H,ln I,e]
 ·exact h j z
theorem rS.all{l m:List Nat}{k:Nat}(h:rS l m k)(c:l.length=m.length)(b:l.length<=k):l=m:=by
 apply anB;intro j;by_cases a:j<k
 ·exact h j a
 ·rw[E0 z,E0 z]
theorem N3(w:World)(a b:Obj):Below w.heap.size w ((w.alloc a).alloc b):=((bi _ _).alloc (aZ _) _).alloc am _
theorem TG{a b:ByteArray}(h:a≠b):(a.toList==b.toList)=false:=by
 rw[l8];intro e;rw[yI,yI]at e;apply h;cases a;cases b;congr 1;exact Array.toList_inj.1 e
def Ie(r q:bA):Prop:=r.h≠q.h∨r.op≠q.op∨r.aF≠q.aF∨r.args≠q.args
def kd(w:World)(b t:Nat)(v:Array Value):Prop:=w.heap[b]? =some (.cells v t (0,0))
theorem kd.U{w w':World}{b t:Nat}{v:Array Value}(h:kd w b t v)(A:Below w.heap.size w w'):kd w' b t v:=by
 unfold kd at*;rw[A.block b (cX h)];exact h
theorem kd.eI(w:World)(t:Nat)(v:Array Value):kd (w.alloc (.cells v t)) w.heap.size t v:=da w _
theorem iM.cell{w:World}{ca:Option Addr}{cs:List (ByteArray×Nat)}(h:iM w ca cs):∃b o,ca=some ⟨b,o,none⟩/\b<w.heap.size/\∀i (hi:i<cs.length),w.cell? ⟨b,o+i*2,none⟩=some (.string cs[i].1)/\w.cell? ⟨b,o+i*2+1,none⟩=some (.int .i64 cs[i].2):=by
 obtain⟨b,o,arr,bg,e,A,a⟩:=h;refine⟨b,o,e,cX A,fun i hi=>?_⟩;simp only[World.cell?,A];exact a i hi
def apE(s:ByteArray):Prop:=s.data.toList.count 39=0
structure acR (s:ByteArray):Prop where
 hi:s.size<=60
 md:∀k (Q:k<s.size),32<=(s[k].toNat:Int)/\(s[k].toNat:Int)<=126
 nq:apE s
structure ac4 (ec:Nat) (r:bA):Prop where
 op:sH r.op
 aF:acR r.aF
 h7:r.args.length<=3
 args:∀a∈r.args,a<ec
 h:r.h<ec
structure C0 (S:cO):Prop where
 cZ:S.cZ<100
 bo:sH S.bo
 bs:∀c∈S.bs,sH c.1/\1<=c.2/\c.2<=5
 aFq:∀i j (hi:i<S.bs.length) (aa:j<S.bs.length),i<j->S.bs[i].1≠S.bs[j].1
 aB:∀c∈S.aB,sH c.1/\1<=c.2/\c.2<=5
 aHS:∀i j (hi:i<S.aB.length) (aa:j<S.aB.length),i<j->S.aB[i].1≠S.aB[j].1
 c8:∀r∈S.c8,ac4 S.aB.length r
 aHO:S.c8.Pairwise Ie
structure hw (w:World) (aG:Array Value) (wr:World):Prop where
 b:Below w.heap.size w wr
 g:kd wr w.heap.size 29 aG
theorem hw.U{w wr w':World}{a:Array Value}(h:hw w a wr)(A:Below wr.heap.size wr w'):hw w a w':=
 ⟨b_ h.b A,h.g.U A⟩
theorem hw.eI(w:World)(a:Array Value):hw w a (w.alloc (.cells a 29)):=⟨(bi _ _).alloc (aZ _) _,kd.eI _ _ _⟩
end Go.bj
namespace Go.bj.N
open Go Go.Proofs.Tryz Go.Proofs Go.RowKit Go.c0
theorem LJ(s:ByteArray)(w:World)(h:sH s):Calls prog 81 #[.string s] w fun e w'=>e=.returned (.bool true)/\w=w':=by
 have H:=h.ee;have I:=h.hi;have ay:=G h.md;clear h;have d:¬(s.size:Int)<1:=z;have f:¬20<(s.size:Int):=z;have i3:(1:Int)<=(s.size:Int):=z;have g:(s.size:Int)<=20:=z;go_enter func81,ntmps81
 go_wp2;go_loop [3] (fun i=>∃k:Nat,k<=s.size/\i=.int .i64 k) (fun i=>s.size-(RowKit.intOf i).toNat);case atStart=>exact⟨0,dq _,rfl⟩
 case round=>exact ays
theorem aAa(s:ByteArray)(w:World)(H:s.size<=60)(I:∀k (Q:k<s.size),32<=(s[k].toNat:Int)/\(s[k].toNat:Int)<=126):Calls prog 123 #[.string s] w fun e w'=>e=.returned (.bool true)/\w=w':=by
 have ay:=G I;clear I;have c:¬60<(s.size:Int):=z;go_enter func123,ntmps123
 go_wp2;go_loop [3] (fun i=>∃k:Nat,k<=s.size/\i=.int .i64 k) (fun i=>s.size-(RowKit.intOf i).toNat);case atStart=>exact⟨0,dq _,rfl⟩
 case round=>exact ayo
def apA(e:Ending):Prop:=∃s:ByteArray,e=.returned (.string s)/\(s.toList==[32])=false
theorem abG(k:Nat)(w:World)(H:1<=k)(I:k<=5):Calls prog 82 #[.int .i64 k] w fun e w'=>apA e/\Below w.heap.size w w':=by
 have:k=1∨k=2∨k=3∨k=4∨k=5:=z;rcases this with rfl|rfl|rfl|rfl|rfl
 all_goals
  go_enter func82,ntmps82
  go_wp2_with (go_at_call 121;refine(axC _).mono ?_;rintro e w' ⟨rfl,rfl⟩);go_ret;exact⟨⟨_,rfl,dE⟩,(bi _ _).alloc (aZ _) _⟩
theorem ayX{s:ByteArray}(h:sH s):(s.toList==[32])=false:=by
 rw[l8,yI];intro e;have H:=h.ee;have I:s.data.toList.length=s.size:=ji;have b:=h.md 0 z;have a:s.data.toList[0]? =some s[0]:=by rw[ln z];rfl
 rw[e]at a;have c:(s[0]'z)=32:=by simpa using a.symm
 rw[c]at b;simp at b
def aqf(e:Ending):Prop:=∃s:ByteArray,e=.returned (.string s)/\(s.toList==[32])=false
theorem aDi(bo cZ cs rs aj:Value)(a:Option Addr)(ss:List (ByteArray×Nat))(M:Nat->Nat)(g i:Nat)(w:World)(j:rT w a ss M)(d:∀c∈ss,sH c.1)(hi:i<ss.length)(r:ss.length<=12): Calls prog 165 #[.agg #[bo,cZ,cs,.slice a ss.length g,rs,aj],.int .i64 i] w fun e w'=>aqf e/\Below w.heap.size w w':=by
 obtain⟨b,o,rfl,A,f⟩:=j;obtain⟨br,_,_⟩:=f i hi;have k:=ayX (d _ (fM hi));have m:(i:Int)<ss.length:=z;have q:(0:Int)<=(i:Int):=z;have n:¬(ss.length:Int)<=(i:Int):=z;have l:¬(i:Int)<0:=z;clear d;go_enter func165,ntmps165
 go_wp2;go_ret;exact⟨⟨_,rfl,k⟩,(bi _ _).alloc (aZ _) _⟩
theorem axo(a b:Option Addr)(c d:Nat)(l m:List Nat)(w:World)(r:p5 w a l)(A:p5 w b m)(H:l.length<=1000)(I:m.length<=1000)(E:l≠m):Calls prog 199 #[.slice a l.length c,.slice b m.length d] w fun e w'=>e=.returned (.bool false)/\p6 w w':=by
 by_cases f:l.length=m.length
 ·have o:((l.length:Int) !=(m.length:Int))=false:=by simp[f]
  go_enter func199,ntmps199
  go_wp2;go_loopw [5] (fun i wr=>∃k:Nat,k<=l.length/\i=.int .i64 k/\p6 w wr/\rS l m k) (fun i _=>l.length-(RowKit.intOf i).toNat);case atStart=>exact⟨0,dq _,rfl,⟨0,rfl⟩,fun j D=>absurd D (E4 _)⟩
  case round=>
   obtain⟨k,F,rfl,⟨q,rfl⟩,s⟩:=hrel;have t:=G s;clear s;by_cases aq:k<l.length
   ·obtain⟨M,O,rfl,K,u⟩:=r z;obtain⟨L,P,rfl,N,x⟩:=A z;have J:=u k aq;have C:=x k z;obtain⟨y,n⟩:∃y,m[k]'z=y:=⟨_,rfl⟩;rw[n]at C;have Q:(0:Int)<=(k:Int):=z;have R:(k:Int)<l.length:=z;have i3:(k:Int)<m.length:=z;have S:=G f;clear u x r A;by_cases g:l[k]=y
    ·have ak:((l[k]:Int) !=(y:Int))=false:=by simp[g]
     have B:=G (t.out.vA aq z (g.trans n.symm));clear g f o n
     go_wp2;go_quiet (fail)
     go_wp2;all_goals first
      |(
       go_roundw
       case rel=>exact⟨k+1,z,bM,⟨_,(by first|rfl|exact World.drewN_drewN _ _ _)⟩,B.out⟩
       case measure=>simp[RowKit.intOf];omega)
      |(exfalso;simp_all)
    ·have ak:((l[k]:Int) !=(y:Int))=true:=bu;clear g f o n
     go_wp2;go_quiet (fail)
     go_wp2;all_goals first
      |(go_ret;exact⟨rfl,_,(by first|rfl|exact World.drewN_drewN _ _ _)⟩)
      |(exfalso;simp_all)
   ·exact absurd (t.out.all f z) E
 ·have o:((l.length:Int) !=(m.length:Int))=true:=bu;clear f;go_enter func199,ntmps199
  go_wp2;all_goals(go_ret;exact⟨rfl,0,rfl⟩)
end Go.bj.N
namespace Go.b3
open Go Go.Proofs.Tryz Go.Proofs Go.RowKit Go.Lib Go.aI
theorem aiJ{s:ByteArray}(H:1<=s.size)(I:s.size<=20)(h:(s.data.toList.all fun c=>Nat.ble 97 c.toNat&&Nat.ble c.toNat 122)=true):Go.bj.sH s:=⟨H,I,fun k a=>.inl (by
 have b:s[k]∈s.data.toList:=by
  rw[HW]
  exact⟨k,TF s k a⟩
 have:=hs.1 h _ b
 simp only[dz,HZ]at this
 omega)⟩
theorem axB:Go.bj.sH kV:=aiJ ai ai ai
theorem aqP:Go.bj.sH kH:=aiJ ai ai ai
attribute [local irreducible] wpStill in
theorem ayY(w:World)(a:Option Addr)(c:Nat)(h:he be w a [kV,kH]): Calls prog 287 #[.slice a 2 c] w fun e w'=>py e/\Below w.heap.size w w':=by
 obtain⟨b,o,rfl,_,i,d⟩:=h.2 am;have br:=d 0 am;have c1:=d 1 am;simp only[yN,E1,hG]at br c1;have f:=G fun w=>Go.bj.N.LJ kV w axB;have g:=G fun w=>Go.bj.N.LJ kH w aqP;have ak:(kV.toList==kH.toList)=false:=fy ai;clear d h;go_enter func287,ntmps287;generalize kV=x at*;generalize kH=y at*
 go_wp2;refine Cm 3 ?_;rw[rx]
 go_wp2_with (go_at_call 81;refine(f.out _).mono ?_;rintro e w' ⟨rfl,rfl⟩);refine Cm 1 ?_;rw[rx]
 go_wp2;rw[rx]
 go_wp2_with (go_at_call 81;refine(g.out _).mono ?_;rintro e w' ⟨rfl,rfl⟩);refine Cm 2 ?_;rw[rx]
 go_wp2;go_quiet (fail)
 go_wp2;rw[rx]
 go_wp2;rw[rx]
 go_wp2;go_ret;exact⟨rfl,oR (bi _ _) _⟩
theorem aBy(w:World)(a ra:Option Addr)(c rc:Nat)(a_:List (List bH))(h:he be w a [kV,kH])(q:hW be (aY be 0) w ra a_)(aw:a_.length<=3)(y:∀r∈a_,sC r): Calls prog 185 #[.slice a 2 c,.slice ra a_.length rc] w fun e w'=>py e/\Below w.heap.size w w':=by
 have J:=G (ayY w a c h);have Q:=G (fun W (X:Below w.heap.size w W)=>(hW.U (aY.mono be 0) q X).2);have C:=G (fun i (hi:i<a_.length)=>y _ (fM hi));have ex:¬100<(a_.length:Int):=z;have u:=G Yr;have S:=G Yq;clear h q y;go_enter func185,ntmps185
 go_wp2_with (go_at_call 287;refine J.out.mono ?_;rintro e g ⟨rfl,t⟩);have K:Hid (Below w.heap.size w g):=t;clear J t;go_loopw [6] (fun i wr=>∃k:Nat,k<=a_.length/\i=.int .i64 k/\Below g.heap.size g wr) (fun i _=>a_.length-(RowKit.intOf i).toNat);case atStart=>exact⟨0,dq _,rfl,bi _ _⟩
 case round=>
  obtain⟨l,rfl⟩:∃l:World,l=wr:=⟨_,rfl⟩;obtain⟨k,aa,rfl,A⟩:=hrel;by_cases aq:k<a_.length
  ·have n:Below w.heap.size w l:=b_ K.out A;obtain⟨cJ,lU,rfl,_,L,P⟩:=Q.out _ n z;obtain⟨dp,ei,j,o⟩:=P k aq;obtain⟨s,N,kT,F,ab,zu⟩:=C.out k aq;rw[kT]at j o;obtain⟨iD,fE,rfl,_,d,m⟩:=o.2 am;obtain⟨fg,bX,j4,mz,gL,iT,JE,iV,iv,Ma,i4,jT,iu⟩:=m 0 am;obtain⟨ce,cg,D,cY,cz,k',tR,la,kB,ut,kC,ir,h_⟩:=m 1 am;obtain⟨_,Jv,JB,L5,L7,eg,_⟩:=jT;obtain⟨_,N9,Ob,QK,QN,ak,_⟩:=ir;obtain⟨fj,dy,Z,dj,oP,yD,uy⟩:=iu;obtain⟨I,H,E,B,M,O,R⟩:=h_;injection eg with eg
   injection ak with ak
   simp only[pk,EW,EX,Cl,Cz,yS]at eg ak;obtain⟨rfl,rfl,rfl,rfl,rfl,⟨rfl,rfl,rfl⟩,rfl,rfl,rfl⟩:=eg;obtain⟨rfl,rfl,rfl,rfl,rfl,⟨rfl,rfl,rfl⟩,rfl,rfl,rfl⟩:=ak;have gx:(k:Int)<a_.length:=z;have g4:(0:Int)<=(k:Int):=z;have i3:(k:Int)<=100:=z;simp only[tw,hG,M2,mP,yO,Nat.reduceAdd]at fj dy Z dj oP yD uy I H E B M O R j;have x:g1 D ((0:Nat):Int):=⟨am,am,z,z,.inl rfl⟩;clear P m
   go_wp2;refine Cm 3 ?_;rw[rx];have tC:=G (fun W=>u.out bX iT iV iv i4 W F);have U:=G (fun W=>S.out D 0 k' la kB kC W x);clear u S x F Q C
   go_wp2_with (go_at_call 101;refine(tC.out _).mono ?_;rintro e Y ⟨rfl,b⟩);have oY:Below w.heap.size w Y:=b_ n b;have T:=aA b L j;have z0:=aA b d I;have cy:=aA b d H;have dv:=aA b d E;have z3:=aA b d B;have z4:=aA b d M;have z5:=aA b d O;have eP:=aA b d R;rw[rx]
   go_wp2_with (go_at_call 101;refine(U.out _).mono ?_;rintro e V ⟨rfl,f⟩);have tz:Below w.heap.size w V:=b_ oY f;have wG:=aA f (cE b L) T;rw[rx]
   go_wp2;go_roundw;case rel=>first|exact⟨k+1,z,bM,A.trans ((b_ b f).mono A.size)⟩|((repeat apply Exists.intro);refine⟨?_,rfl⟩;exact⟨k+1,z,bM,A.trans ((b_ b f).mono A.size)⟩)
   case measure=>simp[RowKit.intOf];omega
  ·go_wp2;go_ret;exact⟨rfl,b_ K.out A⟩
theorem aBp(w:World)(a ra:Option Addr)(c rc:Nat)(a_:List (List bH))(h:he be w a [kV,kH])(b:hW be (aY be 0) w ra a_)(k:a_.length<=3)(i:∀r∈a_,sC r): Calls prog 101 #[.agg (bY 5 bL 0 0 0 a 2 c ra a_.length rc)] w fun e w'=>py e/\Below w.heap.size w w':=by
 have T:=kZ w (.cells (bY 5 bL 0 0 0 a 2 c ra a_.length rc) 44 (0,0)) (.cells (bY 5 bL 0 0 0 a 2 c ra a_.length rc) 44 (0,0));have m:=G (aBy _ a ra c rc a_ (h.U T.h) (hW.U (aY.mono be 0) b T.h) k i);have l:=G fun W (d:Below w.heap.size w W)=>(UE 1 1 W (bY 5 bL 0 0 0 a 2 c ra a_.length rc) (bY 5 bL 0 0 0 a 2 c ra a_.length rc) (iw a_) (iw a_) ⟨_,_,_,_,rfl,h.U d,hW.U (aY.mono be 0) b d⟩ ⟨_,_,_,_,rfl,h.U d,hW.U (aY.mono be 0) b d⟩);clear h b i;go_enter func101,ntmps101
 go_wp2_with (first
  |(go_at_call 185;(with_reducible refine(m.out).mono ?_);rintro e s ⟨rfl,g⟩;have f:=T.U g;obtain⟨B,x,z,C,D,F,H⟩:=eU f.p;obtain⟨fV,t,u,A,E,J,I⟩:=eU f.q;have j:=G f.h;clear f T g)
  |(go_at_call 186;(with_reducible refine(l.out _ j.out).mono ?_);rintro e q ⟨⟨y,rfl,p⟩,n⟩;have o:=G (b_ j.out n);obtain rfl:=p (by trivial)))
 go_ret;exact⟨rfl,o.out⟩
theorem Yp{n:Nat}{v:bH}(J:eR n v)(w:World)(F:Array Value)(h:aY be 1 w F v):Calls prog 101 #[.agg F] w fun e w'=>py e/\Below w.heap.size w w':=by
 cases J with
 |gZ e ab H=>obtain⟨ca,cc,ra,rc,rfl,_⟩:=h;exact aBo e ca cc ra rc w ab H
 |g8 s a=>obtain⟨ca,cc,ra,rc,rfl,_⟩:=h;exact Yr s ca cc ra rc w a
 |gi N S a _ _=>obtain⟨ca,cc,ra,rc,rfl,_⟩:=h;exact Yq N S ca cc ra rc w a
 |ju d ab H=>obtain⟨ca,cc,ra,rc,rfl,_⟩:=h;exact alI d ca cc ra rc w ab H
 |lU b a=>obtain⟨ca,cc,ra,rc,rfl,_⟩:=h;exact aBn b ca cc ra rc w a
 |iw a_ g a=>obtain⟨ca,cc,ra,rc,rfl,c,f⟩:=h;exact aBp w ca ra cc rc a_ c f g a
theorem afj(n:Int)(w:World):Calls prog 97 #[.int .i64 n] w fun e w'=>e=.returned (.agg (bY 0 bL 0 0 n none 0 0 none 0 0))/\Below w.heap.size w w':=by
 go_enter func97,ntmps97
 go_wp2;refine fL (by simp[results,results97,go_sem];rfl) rfl ?_;exact⟨rfl,by first|exact bi _ _|exact(bi _ _).alloc (aZ _) _⟩
def ac0(e:Ending):Prop:=∃n:Int,e=.returned (.int .i64 n)/\1<=n/\n<=99
theorem aff(n:Int)(ca ra:Option Addr)(cc rc:Nat)(ab:0<=n)(H:n<=99)(w:World):Calls prog 367 #[.agg (bY 0 bL 0 0 n ca 0 cc ra 0 rc)] w fun e w'=>ac0 e/\Below w.heap.size w w':=by
 by_cases a:n=0
 ·subst a;go_enter func367,ntmps367
  go_wp2;go_ret;exact⟨⟨_,rfl,ai,ai⟩,(bi _ _).alloc (aZ _) _⟩
 ·have q:(n==0)=false:=by rw[l8];exact a
  go_enter func367,ntmps367
  go_wp2;go_ret;exact⟨⟨_,rfl,z,H⟩,(bi _ _).alloc (aZ _) _⟩
def apI(k a:Int)(e:Ending):Prop:=∃n:Int,e=.returned (.int .i64 n)/\0<=n/\n<=99/\(n=0->k=a)
theorem N1{n:Nat}(k N S n':Int)(s:ByteArray)(cs:List ByteArray)(a_:List (List bH))(J:eR n (.mk k s N S n' cs a_))(c:Int)(H:1<=c)(w:World)(F:Array Value)(h:aY be 1 w F (.mk k s N S n' cs a_)):Calls prog 364 #[.agg F,.int .i64 c] w fun e w'=>apI k c e/\Below w.heap.size w w':=by
 by_cases ab:k=0
 ·subst ab;cases J with
  |gZ _ o m=>
   obtain⟨ca,cc,ra,rc,rfl,_⟩:=h;have A:=da w (.cells (bY 0 bL 0 0 n' ca 0 cc ra 0 rc) 44 (0,0));have d:=G fun w=>aff n' ca ra cc rc o m w;go_enter func364,ntmps364
   go_wp2_with (go_at_call 367;(with_reducible refine(d.out _).mono ?_);rintro e j ⟨⟨x,rfl,y,u⟩,a⟩);go_ret;exact⟨⟨_,rfl,z,u,fun h=>z⟩,((bi _ _).alloc (aZ _) _).trans (a.mono am)⟩
 ·have q:(k==0)=false:=by simpa using ab
  have f:Below w.heap.size w (w.alloc (.cells F 44 (0,0))):=(bi _ _).alloc (aZ _) _;have d:=G (Yp J _ F (h.U f));obtain⟨ca,cc,ra,rc,rfl,_⟩:=h;have l:=da w (.cells (bY k s N S n' ca cs.length cc ra a_.length rc) 44 (0,0));have aq:=jC w (.cells (bY k s N S n' ca cs.length cc ra a_.length rc) 44 (0,0));clear J;by_cases g:k=c
  ·subst g;go_enter func364,ntmps364
   go_wp2_with (go_at_call 101;(with_reducible refine(d.out).mono ?_);rintro e j ⟨rfl,a⟩;have r:=aS 0 ((a.block _ z).trans l));go_ret;exact⟨⟨_,rfl,ai,ai,fun _=>rfl⟩,f.trans (a.mono am)⟩
  ·have B:(k==c)=false:=by simpa using g
   go_enter func364,ntmps364
   go_wp2_with (go_at_call 101;(with_reducible refine(d.out).mono ?_);rintro e j ⟨rfl,a⟩;have r:=aS 0 ((a.block _ z).trans l));go_ret;exact⟨⟨_,rfl,ai,ai,fun h=>by simp at h⟩,f.trans (a.mono am)⟩
theorem iJ:(prog.info? 44).map (·.size)=some 7:=au
theorem jp{P:Program}{fn:Func}{p q:Tmp}{ty:TypeId}(h:fn.results=#[.cell p ty,.tmp q])(tmps:Array Value)(w:World)(g:Nat)(t:TypeId)(cs:Array Value)(fr:Nat×Nat)(d:TypeDesc)(v:Value) (ag:tmps.getD p undef=.pointer (some ⟨g,0,none⟩))(b:tmps.getD q undef=v)(a:w.heap[g]? =some (.cells cs t fr)) (hu:P.underlying ty=some d)(hd:(match d with|.struct _|.array _ _=>true|_=>false)=true)(hi:(P.info? ty).map (·.size)=some cs.size): (results fn tmps).run P w=.ok (.tuple #[.agg cs,v]) w:=by
 have c:tmps[p]?.getD undef=.pointer (some ⟨g,0,none⟩):=by simpa using ag
 have e:tmps[q]?.getD undef=v:=by simpa using b
 simp[results,h,c,e,asAddr,run_loadVar_row w g t ty cs fr d a hu hd hi]
abbrev yh(w:World)(r:Nat)(u0 u1 u2 u3 u4 u5 u6:Value):World:=((((((w.setCell ⟨r,0,none⟩ u0).setCell ⟨r,1,none⟩ u1).setCell ⟨r,2,none⟩ u2).setCell ⟨r,3,none⟩ u3).setCell ⟨r,4,none⟩ u4).setCell ⟨r,5,none⟩ u5).setCell ⟨r,6,none⟩ u6
theorem h3{w:World}{r:Nat}{a b c d e f g:Value}{t:TypeId}{fr:Nat×Nat}(h:w.heap[r]? =some (.cells #[a,b,c,d,e,f,g] t fr))(u0 u1 u2 u3 u4 u5 u6:Value):(yh w r u0 u1 u2 u3 u4 u5 u6).heap[r]? =some (.cells #[u0,u1,u2,u3,u4,u5,u6] t fr):=by
 have ab:=hS (i:=0) h u0;have H:=hS (i:=1) ab u1;have I:=hS (i:=2) H u2;have k:=hS (i:=3) I u3;have j:=hS (i:=4) k u4;have l:=hS (i:=5) j u5;have m:=hS (i:=6) l u6;simpa using m
theorem ib{B:Nat}{w W:World}(h:Below B w W){r:Nat}(a:B<=r)(u0 u1 u2 u3 u4 u5 u6:Value):Below B w (yh W r u0 u1 u2 u3 u4 u5 u6):=by
 have ab:=h.setCell (p:=⟨r,0,none⟩) a u0;have H:=ab.setCell (p:=⟨r,1,none⟩) a u1;have I:=H.setCell (p:=⟨r,2,none⟩) a u2;have c:=I.setCell (p:=⟨r,3,none⟩) a u3;have b:=c.setCell (p:=⟨r,4,none⟩) a u4;have d:=b.setCell (p:=⟨r,5,none⟩) a u5;exact d.setCell (p:=⟨r,6,none⟩) a u6
theorem QG{B:Nat->Prop}{w W:World}(h:fw B w W){r:Nat}(a:¬B r)(u0 u1 u2 u3 u4 u5 u6:Value):fw B w (yh W r u0 u1 u2 u3 u4 u5 u6):=by
 have ab:=h.set a 0 u0;have H:=ab.set a 1 u1;have I:=H.set a 2 u2;have c:=I.set a 3 u3;have b:=c.set a 4 u4;have d:=b.set a 5 u5;exact d.set a 6 u6
section
variable {P:Program} (w:World)
theorem aBz(base:Nat)(t ty e:TypeId)(i:TypeInfo)(ae:Value)(size bytes:Nat)(ah:P.underlying t=some (.slice e))(hi:P.info? e=some i)(r:i.zero=some ae) (F:i.size=size)(E:i.bytes=bytes) (v:Value)(n:Nat)(aK:List Value)(f:w.ownsRow base e size v n aK) (a:Addr)(m c:Nat)(e7:List Value)(d:e7.length=m*size)(l:∀j u,e7[j]? =some u->w.cell? (a.add j)=some u)(H:∀u∈e7,u.oneCell'=true) (I:0<m)(G:n+m<=maxLen)(x:(n+m)*bytes<=140737488355328)(k:Value)(w':World)(b:(Builtin.append_ #[t,t] ty #[v,.slice (some a) m c]).run P w=.ok k w'): k.ownBlock=v.ownBlock∨k.ownBlock=some w.heap.size:=by
 subst F;subst E;have K:n+m<=9223372036854775807:=by simp only[maxLen]at G;omega
 rcases f.2 with⟨rfl,rfl⟩|⟨g,cap,s,rfl,J,B,M,L,D,N⟩
 ·rw[run_append_nil (P:=P) w t ty e i ae ah hi r a m c e7 d l I z (by have A:=x;simp only[gm]at A;omega)]at b;injection b with ak q
  exact .inr (by rw[←ak];rfl)
 ·by_cases o:n+m<=cap
  ·have y:n*i.size+e7.length<=s.size:=by rw[d,D,←vH];exact oU _ o
   rw[run_append_room (P:=P) w t ty e i ah hi g n cap s B a m c e7 d l H o y]at b;injection b with ak q
   exact .inl (by rw[←ak];rfl)
  ·have C:∀j u,aK[j]? =some u->w.cell? ((⟨g,0,none⟩:Addr).add j)=some u:=f.cells (g:=g) rfl;rw[run_append_grow (P:=P) w t ty e i ae ah hi r ⟨g,0,none⟩ n cap aK f.1 C a m c e7 d l z z (growslice_fits z x)]at b;injection b with ak q
   exact .inr (by rw[←ak];rfl)
variable {w}
theorem aEX{ops:Array Oper}{rest:List Oper}{o:Oper}{a:Act}{ea:Exit->Act->World->Prop}(L:o.guard=none)(s x:Operand)(t:TypeId)
  (D:o.op=.call {callee:=.builtin .append,args:=#[s,x],argTypes:=#[t,t]})
  (base:Nat)(e:TypeId)(i:TypeInfo)(ae:Value)(size bytes:Nat)(ah:P.underlying t=some (.slice e))(hi:P.info? e=some i)(g:i.zero=some ae)
  (q:i.size=size)(l:i.bytes=bytes)(J:ae.cells.size=size)(G:0<size)
  (v:Value)(n:Nat)(aK:List Value)(z:a.eval s=v)(k:w.ownsRow base e size v n aK)
  (ad:Addr)(m c:Nat)(e7:List Value)(A:a.eval x=.slice (some ad) m c)(d:e7.length=m*size)(y:∀j u,e7[j]? =some u->w.cell? (ad.add j)=some u)(H:∀u∈e7,u.oneCell'=true)
  (M:0<m)(r:n+m<=maxLen)(p:(n+m)*bytes<=140737488355328)(K:base<=w.heap.size)
  (h:∀b w',w'.ownsRow base e size b (n+m) (aK++e7)->w.grownBy w' v.ownBlock->b≠ .slice none 0 0->(b.ownBlock=v.ownBlock∨b.ownBlock=some w.heap.size)->wpList P ops ea rest (a.put o.dst b) w'):wpList P ops ea (o::rest) a w:=
 RI L fun _ F=>by
  obtain⟨b,w',f,I,C,B⟩:=run_append_own (P:=P) w base t o.type e i ae size bytes ah hi g q l J G v n aK k ad m c e7 d y H r p K
  have E:=aBz (P:=P) w base t o.type e i ae size bytes ah hi g q l v n aK k ad m c e7 d y H M r p b w' f
  unfold Oper.wp execOp
  simp only[D,resolve,invoke,builtin,d',eQ,dX,MU,oa,Cq,z,A,f]
  exact F _ _ (h b w' I C (fun e=>by have:=(B.1 e).2;omega) E)
end
theorem axg:(prog.info? 44).map (fun i=>(i.zero,i.size,i.bytes))=some (some (.agg #[.int .i64 0,.string ⟨#[]⟩,.int .i64 0,.int .i64 0,.int .i64 0,.slice none 0 0,.slice none 0 0]),7,96):=au
def iQ(base:Nat)(v:Value):Nat->Prop:=fun b=>base<=b/\some b≠v.ownBlock
structure mr (base d:Nat) (w:World) (v:Value) (l:List bH):Prop where
 o:∃fN:List (Array Value),fN.length=l.length/\w.ownsRow base 44 7 v l.length (fN.flatMap Array.toList)/\∀j (H:j<fN.length) (I:j<l.length),aY (iQ base v) d w fN[j] l[j]
theorem mr.nil(base d:Nat)(w:World):mr base d w (.slice none 0 0) []:=⟨[],rfl,mo _ _ _ _,fun j H=>by cases H⟩
theorem mr.hz{base d:Nat}{w:World}{v:Value}{l:List bH}(h:mr base d w v l):∃a c,v=.slice a l.length c:=by
 obtain⟨e,H,I,b⟩:=h.o;exact P2
theorem b1{w:World}{b:Nat}{o:Obj}(h:w.heap[b]? =some o):b<w.heap.size:=(hl.1 h).1
theorem n2{w w':World}{base:Nat}{e:TypeId}{size:Nat}{v:Value}{n:Nat}{aK:List Value}(h:w.ownsRow base e size v n aK)(d:fw (gR base) w w'):w'.ownsRow base e size v n aK:=by
 obtain⟨f,a⟩:=h;refine⟨f,?_⟩;rcases a with a|⟨g,cap,j,ak,b,c,i⟩
 ·exact .inl a
 ·exact .inr ⟨g,cap,j,ak,b,by rw[d.2 g b (b1 c)];exact c,i⟩
theorem fw.wY{B a:Nat->Prop}{w w':World}(h:fw B w w')(c:∀b,a b->B b):fw a w w':=⟨h.1,fun b A=>h.2 b (c b A)⟩
theorem mr.gf{base d:Nat}{w w':World}{v:Value}{l:List bH}(h:mr base d w v l)(Q:fw (gR base) w w'):mr base d w' v l:=by
 exact ajP
theorem mr.U{base d:Nat}{w w':World}{v:Value}{l:List bH}(h:mr base d w v l)(A:Below w.heap.size w w'):mr base d w' v l:=h.gf (.g0 A)
theorem Rq{ops:Array Oper}{rest:List Oper}{o:Oper}{a:Act}{ea:Exit->Act->World->Prop}(Z:o.guard=none)(s x:Operand) (O:o.op=.call {callee:=.builtin .append,args:=#[s,x],argTypes:=#[45,45]}) {w:World}{base d:Nat}{v:Value}{l:List bH}{k N S n:Int}{t:ByteArray}{ca:Option Addr}{cl cc:Nat}{ra:Option Addr}{rl rc:Nat}{y:bH} (D:a.eval s=v)(R:mr base d w v l)(E:a.eval x=.slice (some ⟨w.heap.size,0,none⟩) 1 1)(U:aY (iQ base v) d w (bY k t N S n ca cl cc ra rl rc) y)(ab:l.length<=100)(Y:base<=w.heap.size) (h:∀c w',mr base d w' c (l++[y])->(w.alloc (.cells (bY k t N S n ca cl cc ra rl rc) 44)).grownBy w' v.ownBlock->Below base w w'->wpList prog ops ea rest (a.put o.dst c) w'): wpList prog ops ea (o::rest) a (w.alloc (.cells (bY k t N S n ca cl cc ra rl rc) 44)):=by
 obtain⟨i,hi,V,W,X⟩:=jt axg;obtain⟨m,H,I,L⟩:=R.o;refine aEX Z s x 45 O base 44 i _ 7 96 underlying45 hi V W X rfl ai v l.length (m.flatMap Array.toList) D (n2 I ((fw.refl _ w).alloc _)) ⟨w.heap.size,0,none⟩ 1 1 (bY k t N S n ca cl cc ra rl rc).toList E rfl (sy (p1 w _)) (by simp[Value.oneCell']) ai (by unfold maxLen;omega) z bu fun c w' K g bR f=>h c w' ?_ g ?_
 ·have C:fw (iQ base v) w w':=⟨by have:=g.size;simp at this;omega,fun b A aq=>by
   rw[g.block b bu A.2]
   exact Ck w _ b aq⟩
  have B:∀F u,aY (iQ base v) d w F u->aY (iQ base c) d w' F u:=fun F u T=>by
   have aq:aY (fun b=>iQ base v b/\b<w.heap.size) d w F u:=aY.lt T;refine(aY.low ?_ (aq.gf (C.wY fun b A=>A.1)):aY (iQ base c) d w' F u);rintro b ⟨⟨Q,M⟩,co⟩;refine⟨Q,fun e=>?_⟩;rcases f with f|f
   ·exact M (e.trans f)
   ·rw[f]at e;simp at e;omega
  refine⟨m++[bY k t N S n ca cl cc ra rl rc],by simp[H],?_,fun j a b=>?_⟩
  ·simpa using K
  ·by_cases r:j<m.length
   ·have q:j<l.length:=z;rw[Au r,Au q];exact B _ _ (L j r q)
   ·have q:¬j<l.length:=z;rw[Av z,Av z];simp only[RN];exact B _ _ U
 ·exact((bi base w).alloc Y _).grown g bu (fun b A=>by
   rcases I.2 with⟨J,_⟩|⟨o4,cap,cj,ak,G,bv,cT⟩
   ·subst J;simp[Value.ownBlock]at A
   ·subst ak;simp[Value.ownBlock]at A;subst A;exact G)
theorem afr:∀(a:List (Array Value)) (_:∀F∈a,F.size=7) (j:Nat) (b:j<a.length) (i:Nat) (_:i<7),(a.flatMap Array.toList)[j*7+i]? =a[j][i]?
 |F::a,h,0,_,i,hi=>by
  have c:=h F am
  rw[yL,w0 (by rw[ji];omega)]
  simp
 |F::a,h,j+1,b,i,hi=>by
  have c:=h F am
  rw[yL,yM (by rw[ji];omega),ji,c]
  rw[show(j+1)*7+i-7=j*7+i by omega]
  exact afr a (fun d e=>h d (i6 _ e)) j (by simpa using b) i hi
theorem mr.YD{base d:Nat}{w:World}{v:Value}{l:List bH}(h:mr base d w v l)(B:l.length<=8):∃a c,v=.slice a l.length c/\cU (gR base) (aY (gR base) d) w a l:=by
 obtain⟨m,H,I,q⟩:=h.o;obtain⟨a,c,rfl⟩:=h.hz;refine⟨a,c,rfl,B,fun ab=>?_⟩;have C:∀F∈m,F.size=7:=fun F f=>by obtain⟨j,o,e⟩:=Cr.1 f;have J:=q j o z;rw[e]at J;generalize l[j]'z=u at J;obtain⟨k,s,N,S,n,cs,a_⟩:=u;obtain⟨_,_,_,_,rfl,_⟩:=J.hz;rfl
 have D:=I;rcases I.2 with⟨E,x⟩|⟨g,cap,K,ak,t,y,G,L,M,O⟩
 ·exact absurd x z
 ·injection ak with r _ _
  refine⟨g,0,r,t,b1 y,fun j o=>?_⟩;have J:=q j z o;have f:∀i u,i<7->(m[j]'z)[i]? =some u->w.cell? ⟨g,0+j*7+i,none⟩=some u:=fun i u hi hu=>by have:=D.cells (g:=g) (by rw[r];rfl) (j*7+i) u (by rw[afr m C j z i hi];exact hu);rw[Aq]at this;simpa[kr]using this
  generalize m[j]'z=F at J f;generalize l[j]=u at J;obtain⟨k,s,N,S,n,cs,a_⟩:=u;obtain⟨ca,cc,ra,rc,rfl,_⟩:=J.hz;exact⟨k,s,N,S,n,ca,cs.length,cc,ra,a_.length,rc,J.low fun b A=>A.1,f 0 _ z rfl,f 1 _ z rfl,f 2 _ z rfl,f 3 _ z rfl,f 4 _ z rfl,f 5 _ z rfl,f 6 _ z rfl⟩
theorem mr.lt{base d:Nat}{w:World}{v:Value}{l:List bH}(h:mr base d w v l):∀g,v.ownBlock=some g->base<=g/\g<w.heap.size:=by
 exact aiT
theorem mr.st{base d a:Nat}{w w':World}{v:Value}{l:List bH}(h:mr base d w v l){F:Array Value}{u:bH}{n:Nat}(f:w.heap.size<=n)(A:base<=n)(J:aY (gR n) a w' F u):aY (iQ base v) a w' F u:=
 J.low fun b c=>⟨db A c,fun e=>by have:=(h.lt b e.symm).2;have:n<=b:=c;omega⟩
def y_(d base:Nat)(v:bH)(e:Ending)(w':World):Prop:=∃F,e=.returned (.agg F)/\aY (gR base) d w' F v
def R_(P:World->Array Value->bH->Prop)(d:Nat):Prop:=∀(w:World) (F:Array Value) (v:bH),P w F v->
 Calls prog 365 #[.agg F] w fun e w'=>y_ d w.heap.size v e w'/\Below w.heap.size w w'
def ac2(d base:Nat)(l:List bH)(e:Ending)(w':World):Prop:=∃a c,e=.returned (.slice a l.length c)/\cU (gR base) (aY (gR base) d) w' a l
theorem aev{P:World->Array Value->bH->Prop}{d:Nat}(B:vY be P)(m:R_ P d)(w:World)(a:Option Addr)(c:Nat)(l:List bH)(h:cU be P w a l): Calls prog 488 #[.slice a l.length c] w fun e w'=>ac2 d w.heap.size l e w'/\Below w.heap.size w w':=by
 have iO:=G (fun W (N:Below w.heap.size w W)=>(cU.U B h N).2);have Z:=G m;have T:=h.1;clear h m;go_enter func488,ntmps488
 go_wp2;go_loopw [3,4] (fun s i wr=>∃(k:Nat),k<=l.length/\i=.int .i64 k/\mr w.heap.size d wr s (l.take k)/\Below w.heap.size w wr) (fun _ i _=>l.length-(RowKit.intOf i).toNat);case atStart=>exact⟨0,dq _,rfl,mr.nil _ _ _,bi _ _⟩
 case round=>
  obtain⟨k,C,rfl,b,A⟩:=hrel;by_cases aq:k<l.length
  ·obtain⟨dJ,eH,rfl,_,ja,r⟩:=iO.out _ A z;obtain⟨ce,cg,ci,cY,cz,k',tR,la,kB,ut,kC,ag,D⟩:=r k aq;obtain⟨ft,dS,eo,hj,jW,kb,ll⟩:=D;have Y:=G (Z.out _ _ _ ag);have g4:(0:Int)<=(k:Int):=z;have gx:(k:Int)<l.length:=z;have t:l.take (k+1)=l.take k++[l[k]]:=(tu aq);have U:=G t;have vl:(l.take k).length<=100:=by rw[n_];omega
   have g:=G b;clear r ag b t;generalize l[k]=x at*;obtain⟨K,aK,E,H,L,I,M⟩:=x;obtain⟨va,Q,u⟩:=g.out.hz;rw[n_,M1 C]at u;subst u;have S:=A.size
   go_wp2_with (first
    |(go_at_call 365;refine Y.out.mono ?_;rintro e bh ⟨⟨F,rfl,J⟩,f⟩;obtain⟨iB,iU,kY,kn,rfl,_⟩:=J.hz;have X:=G J;have aa:=f.size;clear J)
    |(at_builtin;refine Rq rfl _ _ rfl (base:=w.heap.size) (d:=d) (l:=l.take k) (y:=.mk K aK E H L I M) (v:=.slice va k Q) rfl (g.out.U f) rfl (g.out.st (aZ _) S X.out) vl z ?_;intro v5 a' n _ o;have j:=G n;have q:=G ((b_ A f).trans o);clear n o))
   rw[←U.out]at j;go_roundw;case rel=>first|exact⟨k+1,z,bM,j.out,q.out⟩|((repeat apply Exists.intro);refine⟨?_,rfl⟩;exact⟨k+1,z,bM,j.out,q.out⟩)
   case measure=>simp[RowKit.intOf];omega
  ·obtain rfl:k=l.length:=z;rw[vG]at b;obtain⟨R,V,rfl,O⟩:=b.YD T
   go_wp2;go_ret;exact⟨⟨R,V,rfl,O⟩,A⟩
end Go.b3
namespace Go.bj.N
open Go Go.Proofs.Tryz Go.Proofs Go.RowKit Go.c0
theorem _root_.Go.c0.iM.bs{w:World}{ca:Option Addr}{cs:List (ByteArray×Nat)}(h:iM w ca cs)(g:cs.length<=8)(f:∀c∈cs,c.1.size<=maxLen):M' w ca cs.length:=
 ⟨z,fun _=>by
  obtain⟨b,o,arr,bg,e,a,d⟩:=h
  exact⟨b,o,e,cX a,fun i hi=>⟨_,_,f _ (fM hi),by simp only[World.cell?,a];exact(d i hi).1,by simp only[World.cell?,a];exact(d i hi).2⟩⟩⟩
theorem _root_.Go.c0.rT.aB{w:World}{ca:Option Addr}{cs:List (ByteArray×Nat)}{M:Nat->Nat}(h:rT w ca cs M)(j:cs.length<=12)(f:∀c∈cs,c.1.size<=maxLen)(g:∀i,1<=M i/\M i<=5):NS w ca cs.length:=
 ⟨z,fun _=>by
  obtain⟨b,o,e,d,a⟩:=h
  exact⟨b,o,e,d,fun i hi=>⟨_,_,_,f _ (fM hi),(a i hi).1,(a i hi).2.1,(a i hi).2.2,z,by have:=(g i).2;omega⟩⟩⟩
structure mW (w:World) (base:Nat) (v:Value) (k:Nat) (bT M:Nat->Nat) (bD:Nat->Nat->Nat):Prop where
 e2:w.ownsRow base 92 1 v k ((List.range k).map fun s=>.slice (some ⟨bT s,0,none⟩) (M s+1) (M s+1))
 sq:∀s,s<k->base<=bT s/\jG w (bT s) (M s+1) (bD s)
 inj:∀s t,s<k->t<k->s≠t->bT s≠bT t
theorem Hf{w w':World}{base:Nat}{e:TypeId}{size:Nat}{v:Value}{n:Nat}{aK:List Value}(h:w.ownsRow base e size v n aK)(A:Below w.heap.size w w'):w'.ownsRow base e size v n aK:=by
 exact Xz
theorem Qy{w:World}{base:Nat}{e t:TypeId}{size:Nat}{v:Value}{n:Nat}{aK:List Value}(h:w.ownsRow base e size v n aK){b:Nat}{cs:Array Value}{fr:Nat×Nat}(A:w.heap[b]? =some (.cells cs t fr))(ah:t≠e):some b≠v.ownBlock:=by
 exact ai3
theorem mW.U{w w':World}{base:Nat}{v:Value}{k:Nat}{bT M:Nat->Nat}{bD:Nat->Nat->Nat}(h:mW w base v k bT M bD)(A:Below w.heap.size w w'):mW w' base v k bT M bD:=
 ⟨Hf h.e2 A,fun s a=>⟨(h.sq s a).1,(h.sq s a).2.U (h.sq s a).2.1 A⟩,h.inj⟩
theorem mW.mono{w:World}{base:Nat}{v:Value}{k:Nat}{bT M:Nat->Nat}{bD b:Nat->Nat->Nat}(h:mW w base v k bT M bD)(hu:∀s i,s<k->i<M s+1->bD s i<=b s i):mW w base v k bT M b:=
 ⟨h.e2,fun s a=>⟨(h.sq s a).1,(h.sq s a).2.mono fun i hi=>hu s i a hi⟩,h.inj⟩
theorem mW.hz{w:World}{base:Nat}{v:Value}{k:Nat}{bT M:Nat->Nat}{bD:Nat->Nat->Nat}(h:mW w base v k bT M bD)(ab:0<k):∃g cap,v=.slice (some ⟨g,0,none⟩) k cap/\base<=g/\g<w.heap.size/\∀s,s<k->w.cell? ⟨g,s,none⟩=some (.slice (some ⟨bT s,0,none⟩) (M s+1) (M s+1)):=by
 obtain⟨⟨f,a⟩,_,_⟩:=h;rcases a with⟨a,i⟩|⟨g,cap,d,ak,c,bv,j,l,m,e⟩
 ·omega
 ·refine⟨g,cap,ak,c,cX bv,fun s b=>?_⟩;have:(d.toList.take (k*1))[s]? =some (Value.slice (some ⟨bT s,0,none⟩) (M s+1) (M s+1)):=by rw[e];simp[b]
  exact ajg
theorem mW.set{w:World}{base:Nat}{v:Value}{k:Nat}{bT M:Nat->Nat}{bD b:Nat->Nat->Nat}(h:mW w base v k bT M bD)(hu:∀s i,s<k->i<M s+1->bD s i<=b s i){s j m:Nat}{t:ByteArray}(c:s<k)(f:j<M s+1)(ah:y4 t m)(n:m<=b s j):mW (w.setCell ⟨bT s,j,none⟩ (.string t)) base v k bT M b:=by
 obtain⟨_,cs,o,_⟩:=(h.sq s c).2;have b5:=Qy h.e2 o ai;refine⟨⟨h.e2.1,?_⟩,fun q a=>⟨(h.sq q a).1,?_⟩,h.inj⟩
 ·rcases h.e2.2 with d|⟨g,cap,cj,ak,aJ,bv,cT⟩
  ·exact .inl d
  ·exact ajZ
 ·by_cases e:q=s
  ·subst e;exact((h.sq q a).2.mono fun i hi=>hu q i a hi).set f ah n
  ·have H:=((h.sq q a).2.mono fun i hi=>hu q i a hi);obtain⟨ab,r,I,l⟩:=H;exact⟨by simpa using ab,r,by rw[hm _ _ _ _ (h.inj q s a c e)];exact I,l⟩
theorem jG.ane(w:World)(n:Nat)(bD:Nat->Nat):jG (w.alloc (.cells (Array.replicate n (.string ⟨#[]⟩)) 91)) w.heap.size n bD:=
 ⟨am,Array.replicate n (.string ⟨#[]⟩),da w _,am,fun i hi=>⟨⟨#[]⟩,0,by simp[hi],⟨rfl,ai,fun _=>rfl⟩,dq _⟩⟩
theorem mW.next{w a:World}{base:Nat}{v j:Value}{k:Nat}{bT M:Nat->Nat}{bD:Nat->Nat->Nat}(h:mW w base v k bT M bD)(A:base<=w.heap.size){o:Obj} (n:a.ownsRow base 92 1 j (k+1) (((List.range k).map fun s=>Value.slice (some ⟨bT s,0,none⟩) (M s+1) (M s+1))++[.slice (some ⟨w.heap.size,0,none⟩) (M k+1) (M k+1)])) (d:((w.alloc (.cells (Array.replicate (M k+1) (.string ⟨#[]⟩)) 91)).alloc o).grownBy a v.ownBlock):mW a base j (k+1) (fun s=>if s=k then w.heap.size else bT s) M bD:=by
 have g:Below w.heap.size w ((w.alloc (.cells (Array.replicate (M k+1) (.string ⟨#[]⟩)) 91)).alloc o):=((bi _ _).alloc (aZ _) _).alloc am _;have hC:∀(b:Nat) (cs:Array Value) (fr:Nat×Nat),((w.alloc (.cells (Array.replicate (M k+1) (.string ⟨#[]⟩)) 91)).alloc o).heap[b]? =some (Obj.cells cs 91 fr)->a.heap[b]? =some (Obj.cells cs 91 fr):=fun b cs fr c=>by have:=Qy (Hf h.e2 g) c ai;rw[d.block b (cX c) this];exact c
 refine⟨?_,fun s V=>?_,fun s t V ah m=>?_⟩
 ·rw[MY,w1];have ak:(List.range k).map (fun s=>Value.slice (some ⟨if s=k then w.heap.size else bT s,0,none⟩) (M s+1) (M s+1))=(List.range k).map (fun s=>Value.slice (some ⟨bT s,0,none⟩) (M s+1) (M s+1)):=by exact ajj
  rw[ak];simpa using n
 ·by_cases e:s=k
  ·subst e;rw[cv rfl];refine⟨A,?_⟩;obtain⟨ab,cs,H,I⟩:=(jG.ane w (M s+1) (bD s)).U (B:=w.heap.size+1) z (w':=(w.alloc (.cells (Array.replicate (M s+1) (.string ⟨#[]⟩)) 91)).alloc o) ((bi _ _).alloc am _);exact⟨iz ab d.size,cs,hC _ _ _ H,I⟩
  ·rw[bn e];obtain⟨l,f⟩:=h.sq s z;obtain⟨ab,cs,H,I⟩:=f.U f.1 g;exact⟨l,iz ab d.size,cs,hC _ _ _ H,I⟩
 ·have lt:∀s,s<k->bT s<w.heap.size:=fun s V=>(h.sq s V).2.1;by_cases e:s=k
  ·rw[cv e,bn z];have:=lt t z;omega
  ·rw[bn e];by_cases i:t=k
   ·rw[cv i];have:=lt s z;omega
   ·rw[bn i];exact h.inj s t z z m
theorem aw8:(prog.info? 92).map (fun i=>(i.zero,i.size,i.bytes))=some (some (.slice none 0 0),1,24):=au
theorem ayH(m:Nat)(H:1<=m)(a:m<=5):∀(w:World),(Instr.makeSlice 92 (.int .i64 ((m:Int)+1)) (.int .i64 ((m:Int)+1))).run prog w=.ok (.slice (some ⟨w.heap.size,0,none⟩) (m+1) (m+1)) (w.alloc (.cells (Array.replicate (m+1) (.string ⟨#[]⟩)) 91)):=by
 have:m=1∨m=2∨m=3∨m=4∨m=5:=z;rcases this with rfl|rfl|rfl|rfl|rfl
 all_goals(intro w;kernel_rfl)
end Go.bj.N
