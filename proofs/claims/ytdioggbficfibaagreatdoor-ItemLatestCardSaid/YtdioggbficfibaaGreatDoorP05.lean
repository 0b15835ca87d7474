/- ItemLatest, one part of the proof. -/
import Derived.Test.YtdioggbficfibaaGreatDoorP04
set_option linter.all false
set_option maxRecDepth 100000
set_option maxHeartbeats 16000000
namespace Go.bS
open Go Go.Proofs.Tryz Go.Proofs Go.RowKit Go.Lib Go.aJ
def Mb(P dY:World->Array Value->bC->Prop):Prop:=∀(w:World) (F a:Array Value) (v u:bC),P w F v->dY w a u->
 χ 53 #[.agg F,.agg a] w fun e w'=>FU (fun r=>v=u->r=true) e
theorem arm{P dY:World->Array Value->bC->Prop}(u:ye aV P)(x:ye aV dY)(t:Mb P dY)(w:World)(a b:Option Addr)(c d:Nat)(l m:List bC)(h:cz aV P w a l)(n:cz aV dY w b m): χ 52 #[.slice a l c,.slice b m d] w fun e w'=>FU (fun r=>l=m->r=true) e:=by
 by_cases g:l.length=m.length
 ·have dC:((l.length:Int) !=(m.length:Int))=false:=by simp[g]
  have E:=G (fun W (j:β w W)=>(cz.K u h j).2);have J:=G (fun W (j:β w W)=>(cz.K x n j).2);have F:=G t;have i:=G g;have ff:=h.1;clear h n g t;go_enter func52,ntmps52
  go_wp2;go_loopw [5] (fun v wr=>∃k:Nat,k<=l.length/\v=.int .i64 k/\β w wr) (fun v _=>l.length-(RowKit.intOf v).toNat);case atStart=>exact⟨0,dx _,rfl,br _ _⟩
  case round=>
   obtain⟨k,K,rfl,A⟩:=hrel;by_cases au:k<l
   ·have bk:=A.drew;obtain⟨C,eM,rfl,_,H,q⟩:=E.out _ bk z;obtain⟨B,l',rfl,_,I,s⟩:=J.out _ bk (by have:=i.out;omega);obtain⟨b4,T,Q,X,R,gJ,nI,gK,gu,nW,gv,ag,f⟩:=q k au;obtain⟨dF,gN,V,ef,eK,nH,M,oc,nl,N,nn,o,ai⟩:=s k (by have:=i.out;omega);have hA:(0:Int)<=(k:Int):=z;have gU:(k:Int)<l.length:=z;have kf:(k:Int)<m.length:=by have:=i.out;omega
    have yR:C<wr.heap.size:=H;have L:B<wr.heap.size:=I;have ht:Hid (l[k]≠m[k]'(by have:=i.out;omega)->l≠m):=G fun y e=>y (by subst e;rfl);have D:=G (F.out _ _ _ _ _ ag o);have eN:=f.bo;have Z:=f.c1;have dy:=f.c2;have gj:=f.c3;have hF:=f.c4;have hQ:=f.c5;have i8:=f.fe;have fo:=ai.bo;have S:=ai.c1;have Y:=ai.c2;have ej:=ai.c3;have i9:=ai.c4;have l2:=ai.c5;have ll:=ai.fe;clear q s f ai ag o
    go_wp2;go_still_tail 8,av;change wpList _ _ _ _ _ wr.drew;generalize wr.drew=O at*
    go_wp2_with (go_at_call 53;refine D.out.mono ?_;rintro e U ⟨⟨j0,rfl,AL⟩,bu⟩);all_goals exact an7
   exact acx
 ·have dC:((l.length:Int) !=(m.length:Int))=true:=bz;have ht:Hid (l≠m):=G fun e=>g (by rw[e]);clear h n;go_enter func52,ntmps52;exact act
theorem adB{P dY:World->Array Value->bC->Prop}(n:ye aV P)(o:ye aV dY)(u:Mb P dY)(w:World)(a b:Option Addr)(c d:Nat)(l m:List (List bC))(h:hK aV P w a l)(f:hK aV dY w b m): χ 134 #[.slice a l c,.slice b m d] w fun e w'=>FU (fun r=>l=m->r=true) e:=by
 by_cases g:l.length=m.length
 ·have dC:((l.length:Int) !=(m.length:Int))=false:=by simp[g]
  have F:=G (fun W (j:β w W)=>(hK.K n h j).2);have K:=G (fun W (j:β w W)=>(hK.K o f j).2);have H:=G (fun W a b c d l m h f=>arm n o u W a b c d l m h f);have i:=G g;have U:=h.1;clear h f g u;go_enter func134,ntmps134
  go_wp2;go_loopw [5] (fun v wr=>∃k:Nat,k<=l.length/\v=.int .i64 k/\β w wr) (fun v _=>l.length-(RowKit.intOf v).toNat);case atStart=>exact⟨0,dx _,rfl,br _ _⟩
  case round=>
   obtain⟨k,N,rfl,A⟩:=hrel;by_cases au:k<l
   ·have bk:=A.drew;obtain⟨B,T,rfl,_,I,s⟩:=F.out _ bk z;obtain⟨y,l',rfl,_,J,t⟩:=K.out _ bk (by have:=i.out;omega);obtain⟨C,D,ag,q⟩:=s k au;obtain⟨L,M,Q,ai⟩:=t k (by have:=i.out;omega);have V:(0:Int)<=(k:Int):=z;have gU:(k:Int)<l.length:=z;have Y:(k:Int)<m.length:=by have:=i.out;omega
    have Z:B<wr.heap.size:=I;have O:y<wr.heap.size:=J;have ht:Hid (l[k]≠m[k]'(by have:=i.out;omega)->l≠m):=G fun x e=>x (by subst e;rfl);have E:=G (H.out _ C L D M _ _ q ai);clear s t q ai
    go_wp2;go_still_tail 8,av;change wpList _ _ _ _ _ wr.drew;generalize wr.drew=R at*
    go_wp2_with (go_at_call 52;refine E.out.mono ?_;rintro e S ⟨⟨X,rfl,AL⟩,bu⟩);all_goals exact an7
   exact acx
 ·have dC:((l.length:Int) !=(m.length:Int))=true:=bz;have ht:Hid (l≠m):=G fun e=>g (by rw[e]);clear h f;go_enter func134,ntmps134;exact act
theorem Zt(w:World)(k N S n o u x n':Int)(s y:ByteArray)(ca ra q A:Option Addr)(cc rc z B:Nat)(cs f:List ByteArray)(aQ g:List (List bC))(h:hc aV w ca cs)(F:hc aV w q f) (d:∀W,β w W->χ 134 #[.slice ra aQ rc,.slice A g B] W fun e w'=>FU (fun r=>aQ=g->r=true) e): χ 53 #[.agg (bM k s N S n ca cs cc ra aQ rc),.agg (bM o y u x n' q f z A g B)] w fun e w'=>FU (fun r=>bC.mk k s N S n cs aQ=bC.mk o y u x n' f g->r=true) e:=by
 have a:β w ((w.alloc (.cells (bM k s N S n ca cs cc ra aQ rc) 42 (0,0))).alloc (.cells (bM o y u x n' q f z A g B) 42 (0,0))):=
  ((br _ _).alloc (aZ _) _).alloc ao _
 by_cases dC:k=o
 ·subst dC;by_cases aj:s=y
  ·subst aj;have O:=q0 s;by_cases j:N=u
   ·subst j;by_cases l:S=x
    ·subst l;by_cases m:n=n'
     ·subst m;have L:=G (aJH _ ca q cc z cs f (h.K a) (F.K a));have T:=lm w (.cells (bM k s N S n ca cs cc ra aQ rc) 42 (0,0)) (.cells (bM k s N S n q f z A g B) 42 (0,0));have D:=G d;have Q:=G a;clear d a h F;go_enter Iq,LD
      go_wp2_with (first|(go_at_call 133;(with_reducible refine(L.out).mono ?_);rintro e Z ⟨⟨P,rfl,X⟩,E⟩;have H:=T.K E;have i8:=aK 6 H.p;have hf:=aK 6 H.q;have c:=G (cj Q.out E);cases P)|(go_at_call 134;(with_reducible refine(D.out _ c.out).mono ?_);rintro e M ⟨⟨R,rfl,K⟩,C⟩;have I:=G (cj c.out C);clear c))
      ·go_wp2;go_ret;exact⟨⟨_,rfl,fun e=>by injection e with _ _ _ _ _ V _;exact absurd (X V) ao⟩,c.out⟩
      ·go_wp2_with (first|(go_at_call 134;(with_reducible refine(D.out _ c.out).mono ?_);rintro e M ⟨⟨R,rfl,K⟩,C⟩;have I:=Lib.hid (cj c.out C);clear c))
       go_ret;exact⟨⟨_,rfl,fun e=>by injection e with _ _ _ _ _ _ Y;exact K Y⟩,I.out⟩
     ·have i9:(n==n')=false:=by simpa using m
      clear d;go_enter Iq,LD
      go_wp2;go_ret;exact⟨⟨_,rfl,fun e=>by injection e with _ _ _ _ U _ _;exact absurd U m⟩,a⟩
    ·have ej:(S==x)=false:=by simpa using l
     clear d;go_enter Iq,LD
     go_wp2;go_ret;exact⟨⟨_,rfl,fun e=>by injection e with _ _ _ m _ _ _;exact absurd m l⟩,a⟩
   ·have cr:(N==u)=false:=by simpa using j
    clear d;go_enter Iq,LD
    go_wp2;go_ret;exact⟨⟨_,rfl,fun e=>by injection e with _ _ l _ _ _ _;exact absurd l j⟩,a⟩
  ·have O:=fS aj;clear d;go_enter Iq,LD
   go_wp2;go_ret;exact⟨⟨_,rfl,fun e=>by injection e with _ j _ _ _ _ _;exact absurd j aj⟩,a⟩
 ·have fo:(k==o)=false:=by simpa using dC
  clear d;go_enter Iq,LD
  go_wp2;go_ret;exact⟨⟨_,rfl,fun e=>by injection e with aj _ _ _ _ _ _;exact absurd aj dC⟩,a⟩
theorem aU.mono(B:Nat->Prop)(d:Nat):ye B (aU B d):=fun _ _ _ _ h A=>h.ex A
theorem S8:∀(d b:Nat),Mb (aU aV d) (aU aV b):=by
 have E:∀P,Mb (fun _ _ _=>False) P:=fun P w F z v u h=>h.elim;have G:∀P,Mb P (fun _ _ _=>False):=fun P w F z v u _ h=>h.elim;have C:ye aV (fun _ _ _=>False):=fun _ _ _ _ h=>h.elim;have D:∀w a,hK aV (fun _ _ _=>False) w a []:=fun w a=>⟨ao,fun ae=>absurd ae ao⟩;intro d;induction d with
 |zero=>intro b w F z v u h g;obtain⟨k,s,N,S,n,cs,aQ⟩:=v;obtain⟨q,t,x,y,n',r,m⟩:=u;obtain⟨rfl,ca,cc,ra,rc,rfl,o⟩:=h;obtain⟨i,j,c,e,rfl,l,A⟩:=g.gX;exact Zt w k N S n q x y n' s t ca ra i c cc rc j e cs r [] m o l (fun W f=>adB C (aU.mono aV (b-1)) (E _) W ra c rc e [] m (D _ _) (hK.K (aU.mono aV _) A f))
 |succ d H=>
  intro b w F z v u h g;obtain⟨k,s,N,S,n,cs,aQ⟩:=v;obtain⟨q,t,x,y,n',r,m⟩:=u;obtain⟨ca,cc,ra,rc,rfl,o,B⟩:=h.gX;cases b with
  |zero=>obtain⟨rfl,i,j,c,e,rfl,l⟩:=g;exact Zt w k N S n q x y n' s t ca ra i c cc rc j e cs r aQ [] o l (fun W f=>adB (aU.mono aV d) C (G _) W ra c rc e aQ [] (hK.K (aU.mono aV _) B f) (D _ _))
  |succ b=>obtain⟨i,j,c,e,rfl,l,A⟩:=g.gX;exact Zt w k N S n q x y n' s t ca ra i c cc rc j e cs r aQ m o l (fun W f=>adB (aU.mono aV d) (aU.mono aV b) (H b) W ra c rc e aQ m (hK.K (aU.mono aV _) B f) (hK.K (aU.mono aV _) A f))
abbrev afL(d:Nat):=cz aV (aU aV d)
theorem aIb(d f:Nat)(w:World)(a b:Option Addr)(c e:Nat)(l m:List bC)(h:afL d w a l)(g:afL f w b m):
  χ 52 #[.slice a l c,.slice b m e] w fun e w'=>FU (fun r=>l=m->r=true) e:=
 arm (aU.mono aV d) (aU.mono aV f) (S8 d f) w a b c e l m h g
def kp(s:ByteArray):Prop:=s.size<=200/\∀k (a:k<s.size),32<=(s[k].toNat:Int)/\(s[k].toNat:Int)<=126
abbrev bO:ByteArray:=⟨#[]⟩
abbrev gM(n:Int):bC:=.mk 0 bO 0 0 n [] []
abbrev hG(s:ByteArray):bC:=.mk 1 s 0 0 0 [] []
abbrev gD(N S:Int):bC:=.mk 2 bO N S 0 [] []
abbrev kq(n:Int):bC:=.mk 3 bO 0 0 n [] []
abbrev l'(n:Int):bC:=.mk 4 bO 0 0 n [] []
def li:ByteArray:=⟨#[107,105,110,100]⟩
def k5:ByteArray:=⟨#[97,109,111,117,110,116]⟩
abbrev hS(aQ:List (List bC)):bC:=.mk 5 bO 0 0 0 [li,k5] aQ
def tp(r:List bC):Prop:=∃s N,r=[hG s,gD N 0]/\kp s/\ -10<=N/\N<=10
inductive e0 (n:Nat):bC->Prop
 |gM (e:Int) (ae:0<=e) (H:e<=99):e0 n (gM e)
 |hG (s:ByteArray) (h:kp s):e0 n (hG s)
 |gD (N:Int) (S:Nat) (h:hn N S) (ec:N.natAbs<=10^(2*n+1)) (bm:2*S<=n+1):e0 n (gD N S)
 |kq (d:Int) (ae:0<=d) (H:d<=3652058):e0 n (kq d)
 |l' (b:Int) (h:b=0∨b=1):e0 n (l' b)
 |hS (aQ:List (List bC)) (ah:aQ.length<=3) (h:∀r∈aQ,tp r):e0 n (hS aQ)
def oD(e:Ending):Prop:=e=.returned (.bool true)
theorem aGP(s:ByteArray)(w:World)(h:kp s):Calls prog 294 #[s] w fun e w'=>oD e/\w=w':=by
 have aw:=G h.2;have f:(s.size:Int)<=200:=by have:=h.1;omega
 clear h;go_enter func294,ntmps294
 go_wp2;go_loop [3] (fun i=>∃k:Nat,k<=s.size/\i=.int .i64 k) (fun i=>s.size-(RowKit.intOf i).toNat);case atStart=>exact⟨0,dx _,rfl⟩
 case round=>
  obtain⟨k,d,rfl⟩:=hrel;by_cases au:k<s.size
  ·obtain⟨a,b⟩:=aw.out k au;have c:(k:Int)<s.size:=z;have c1:¬(s[k].toNat:Int)<32:=z;have c2:¬126<(s[k].toNat:Int):=z
   go_wp2;all_goals first
    |(
     go_round
     case rel=>exact⟨k+1,z,bG⟩
     case measure=>simp[RowKit.intOf];omega)
    |(exfalso;omega)
  ·have c:¬(k:Int)<s.size:=z
   go_wp2;exact PN
theorem JR(k:Int)(s:ByteArray)(N S n:Int)(ca ra a c:Option Addr)(cc rc b d:Nat)(w:World):χ 53 #[.agg (bM k s N S n ca 0 cc ra 0 rc),.agg (bM k s N S n a 0 b c 0 d)] w fun e w'=>oD e:=
 (S8 0 0 w _ _ _ _ (aU.iW aV 0 w k s N S n ca cc ra rc) (aU.iW aV 0 w k s N S n a b c d)).mono fun e w' ⟨⟨r,H,I⟩,A⟩=>⟨by rw[H,I rfl];rfl,A⟩
theorem aHT(n:Int)(ca:Option Addr)(cc:Nat)(ra:Option Addr)(rc:Nat)(w:World)(ae:0<=n)(H:n<=99):χ 202 #[.agg (bM 0 bO 0 0 n ca 0 cc ra 0 rc)] w fun e w'=>oD e:=by
 have bH:=G fun w=>JR 0 bO 0 0 n ca ra none none cc rc 0 0 w;have T:=lm w (.cells (bM 0 bO 0 0 n ca 0 cc ra 0 rc) 42 (0,0)) (.cells (bM 0 bO 0 0 n none 0 0 none 0 0) 42 (0,0));exact acC
theorem adu(s:ByteArray)(ca:Option Addr)(cc:Nat)(ra:Option Addr)(rc:Nat)(w:World)(h:kp s):χ 202 #[.agg (bM 1 s 0 0 0 ca 0 cc ra 0 rc)] w fun e w'=>oD e:=by
 have b:=G fun w=>aGP s w h;have a:=G fun w=>JR 1 s 0 0 0 ca ra none none cc rc 0 0 w;have T:=lm w (.cells (bM 1 s 0 0 0 ca 0 cc ra 0 rc) 42 (0,0)) (.cells (bM 1 s 0 0 0 none 0 0 none 0 0) 42 (0,0));go_enter V_,ntmps202
 go_wp2_with (first|(go_at_call 294;(with_reducible refine(b.out _).mono ?_);rintro e f ⟨rfl,rfl⟩)|(go_at_call 53;(with_reducible refine(a.out _).mono ?_);rintro e g ⟨rfl,c⟩;have d:=G (cj T.h c)))
 go_ret;exact⟨rfl,d.out⟩
theorem aqU(n:Int)(ca:Option Addr)(cc:Nat)(ra:Option Addr)(rc:Nat)(w:World)(ae:0<=n)(H:n<=3652058):χ 202 #[.agg (bM 3 bO 0 0 n ca 0 cc ra 0 rc)] w fun e w'=>oD e:=by
 have bH:=G fun w=>JR 3 bO 0 0 n ca ra none none cc rc 0 0 w;have T:=lm w (.cells (bM 3 bO 0 0 n ca 0 cc ra 0 rc) 42 (0,0)) (.cells (bM 3 bO 0 0 n none 0 0 none 0 0) 42 (0,0));exact acC
theorem aHS(n:Int)(ca:Option Addr)(cc:Nat)(ra:Option Addr)(rc:Nat)(w:World)(h:n=0∨n=1):χ 202 #[.agg (bM 4 bO 0 0 n ca 0 cc ra 0 rc)] w fun e w'=>oD e:=by
 have bH:=G fun w=>JR 4 bO 0 0 n ca ra none none cc rc 0 0 w;have T:=lm w (.cells (bM 4 bO 0 0 n ca 0 cc ra 0 rc) 42 (0,0)) (.cells (bM 4 bO 0 0 n none 0 0 none 0 0) 42 (0,0));rcases h with rfl|rfl<;>
 exact acC
theorem adt(N:Int)(S:Nat)(ca:Option Addr)(cc:Nat)(ra:Option Addr)(rc:Nat)(w:World)(h:hn N S):χ 202 #[.agg (bM 2 bO N S 0 ca 0 cc ra 0 rc)] w fun e w'=>oD e:=by
 have d:=G fun w=>aqR N S w h;have c:=G fun w=>JR 2 bO N S 0 ca ra none none cc rc 0 0 w;have T:=lm w (.cells (bM 2 bO N S 0 ca 0 cc ra 0 rc) 42 (0,0)) (.cells (bM 2 bO N S 0 none 0 0 none 0 0) 42 (0,0));clear h;go_enter V_,ntmps202
 go_wp2_with (first|(go_at_call 295;(with_reducible refine(d.out _).mono ?_);rintro e j ⟨rfl,b⟩;have a:=T.K b;obtain⟨p,n,o,r,s,t,u⟩:=eX a.p;obtain⟨fo,l,m,q,x,y,z⟩:=eX a.q;have g:=G a.h;clear a T b)|(go_at_call 53;(with_reducible refine(c.out _).mono ?_);rintro e k ⟨rfl,f⟩;have i:=G (cj g.out f)))
 go_ret;exact⟨rfl,i.out⟩
end Go.bS
namespace Go.da
def aT(l:List UInt8):Nat:=l.foldl (fun n c=>n*256+c.toNat) 0
theorem atw(l:List UInt8):∀n,l.foldl (fun n c=>n*256+c.toNat) n=n*256^l.length+aT l:=by
 exact ao5
theorem zT(c:UInt8)(l:List UInt8):aT (c::l)=c.toNat*256^l.length+aT l:=by
 show(c::l).foldl _ 0=_;rw[LN,atw];simp
theorem X5(l:List UInt8)(c:UInt8):aT (l++[c])=aT l*256+c.toNat:=by
 unfold aT;rw[afc];rfl
theorem yk:∀(l:List UInt8),aT l<256^l.length
 |[]=>by simp[aT]
 |c::l=>by
  rw[zT,l7,zw]
  have H:=yk l
  have I:=Rw c
  have a:c.toNat*256^l.length<=255*256^l.length:=qR _ z
  omega
theorem M1(l:List UInt8):∀(k:Nat),(∀i,i<k->l[i]? =some 0)->aT (l.drop k)=aT l
 |0,_=>by simp
 |k+1,h=>by
  have ae:=M1 l k fun i hi=>h i z
  have a:=h k z
  obtain⟨au,a⟩:=k2.1 a
  rw[Iy au,zT,a]at ae
  simpa using ae
variable{l:List UInt8}{n:Nat}
theorem ahE{c:UInt8}(Q:c≠0)(h:aT (c::l)<256^n):(c::l).length<=n:=by
 exact aoK
def WX(s t:ByteArray):Prop:=aT t.data.toList=aT s.data.toList/\t.size<=s.size/\∀n,aT s.data.toList<256^n->t.size<=n
theorem atx(s t:ByteArray)(k:Nat)(aj:t.data.toList=s.data.toList.drop k)(a:k<=s.data.toList.length)(aA:∀j,j<k->s.data.toList[j]? =some 0)(aO:∀h:k<s.data.toList,s.data.toList[k]≠0):WX s t:=by
 exact anZ
theorem asF{k:Nat}(a:∀j,j<k->l[j]? =some 0)(h:l[k]? =some 0):∀j,j<k+1->l[j]? =some 0:=fun j b=>by
 by_cases e:j=k
 ·subst e;exact h
 ·exact a j z
def j4(n j:Nat):List Int:=(List.range j).map fun i=>(((n/2^(56-8*i))%256:Nat):Int)
theorem acY(k:Nat):(UInt8.ofNat (k%256)).toNat=k%256:=by
 rw[V1];omega
theorem atv(n:Nat)(h:n<36028797018963968):aT ((j4 n 8).map fun x=>UInt8.ofNat x.toNat)=n:=by
 exact ao2
def A8(W C:Nat->Nat)(n i a:Nat):Nat:=if a<i/\i-a<n then W a*C (i-a)else 0
def k1(W C:Nat->Nat)(n i:Nat):Nat->Nat
 |0=>0
 |k+1=>k1 W C n i k+A8 W C n i k
def um(W C:Nat->Nat)(n a b i:Nat):Nat:=k1 W C n i a+(if a<i/\i-a<b/\i-a<n then W a*C (i-a)else 0)
theorem aGB(W C:Nat->Nat)(n a i:Nat):um W C n a 1 i=k1 W C n i a:=by
 unfold um;rw[bs z];omega
theorem ap5(W C:Nat->Nat)(n a b i:Nat):um W C n a b i<=k1 W C n i (a+1):=by
 unfold um;show _<=k1 W C n i a+A8 W C n i a;unfold A8;by_cases h:a<i/\i-a<b/\i-a<n;rw[co h,co ⟨h.1,h.2.2⟩];omega;rw[bs h];omega
theorem ap6(W C:Nat->Nat)(n a b:Nat)(ae:0<b)(A:b<n):um W C n a b (a+b)+W a*C b=um W C n a (b+1) (a+b):=by
 unfold um;have e:a+b-a=b:=z;rw[e,bs z,co z];omega
theorem aGA(W C:Nat->Nat)(n a b i:Nat):um W C n a b i<=um W C n a (b+1) i:=by
 unfold um;by_cases h:a<i/\i-a<b/\i-a<n;rw[co h,co ⟨h.1,z,h.2.2⟩];omega;rw[bs h];omega
theorem ar1(W C:Nat->Nat)(n i:Nat):∀(k m:Nat),k<=m->k1 W C n i k<=k1 W C n i m
 |k,0,h=>by
    have:k=0:=z
    subst this;exact aZ _
 |k,m+1,h=>by
  by_cases e:k=m+1
  ·subst e;exact aZ _
  ·exact cO (ar1 W C n i k m z) (IH _ _)
structure bA where
 h:Nat
 op:ByteArray
 aG:ByteArray
 args:List Nat
def lk(i:Nat):Nat:=if i=1 then 1 else 0
def pc(bI:Nat->Nat->Nat):List Nat->(Nat->Nat)->Nat->Nat
 |[],W=>W
 |a::l,W=>pc bI l (fun i=>k1 W (bI a) 6 i 10)
def qJ(bI:Nat->Nat->Nat)(s i:Nat):List bA->Nat
 |[]=>0
 |r::l=>(if r.h=s then pc bI r.args lk i else 0)+qJ bI s i l
def Hn(bI:Nat->Nat->Nat):List Nat->(Nat->Nat)->Prop
 |[],W=>∀i,i<10->W i<281474976710656
 |a::l,W=>(∀i,i<10->W i<16777216)/\(∀i,i<10->k1 W (bI a) 6 i 10<281474976710656)/\Hn bI l (fun i=>k1 W (bI a) 6 i 10)
structure zP (bI:Nat->Nat->Nat) (rs:List bA):Prop where
 sum:∀s i,i<6->qJ bI s i rs<=bI s i
 num:∀r∈rs,Hn bI r.args lk
 lt:∀s i,bI s i<2147483648
theorem ar6{bI:Nat->Nat->Nat}{s i:Nat}{a b:List bA}(h:a.Sublist b):qJ bI s i a<=qJ bI s i b:=by
 induction h with
 |slnil=>exact aZ _
 |cons x _ c=>exact cO c (Nat.le_add_left _ _)
 |cons_cons x _ c=>exact Nat.add_le_add_left c _
variable{i:Nat}
theorem aHZ{W W' C b:Nat->Nat}(c:∀i,i<10->W i<=W' i){n' a:Nat}(e:∀i,i<n->C i<=b i)(d:n<=n')(aH:a<10):A8 W C n i a<=A8 W' b n' i a:=by
 unfold A8;by_cases h:a<i/\i-a<n;rw[co h,co ⟨h.1,iK h.2 d⟩];exact zv (c a aH) (e _ h.2);rw[bs h];exact dx _
theorem QF{W W' C a:Nat->Nat}(b:∀i,i<10->W i<=W' i){n n' i:Nat}(d:∀i,i<n->C i<=a i)(c:n<=n'):∀k,k<=10->k1 W C n i k<=k1 W' a n' i k
 |0,_=>aZ _
 |k+1,h=>Nat.add_le_add (QF b d c k z) (aHZ b d c z)
theorem aiW(bI:Nat->Nat->Nat):∀(l:List Nat) (a:Nat) (W:Nat->Nat),pc bI (l++[a]) W=fun i=>k1 (pc bI l W) (bI a) 6 i 10
 |[],a,W=>rfl
 |b::l,a,W=>aiW bI l a _
theorem apq(bI:Nat->Nat->Nat):∀(l:List Nat) (a:Nat) (m:List Nat) (W:Nat->Nat),Hn bI (l++a::m) W->(∀i,i<10->pc bI l W i<16777216)/\(∀i,i<10->k1 (pc bI l W) (bI a) 6 i 10<281474976710656)
 |[],a,m,W,h=>⟨h.1,h.2.1⟩
 |b::l,a,m,W,h=>apq bI l a m _ h.2.2
theorem apr(bI:Nat->Nat->Nat):∀(l:List Nat) (W:Nat->Nat),Hn bI l W->∀i,i<10->pc bI l W i<281474976710656
 |[],W,h=>h
 |b::l,W,h=>apr bI l _ h.2.2
def qn(bI:Nat->Nat->Nat)(rs:List bA)(af k s i:Nat):Nat:=if i<af then bI s i else if i=af then qJ bI s i (rs.take k)else 0
variable{bI:Nat->Nat->Nat}{rs:List bA}
theorem SL(n:zP bI rs)(af k s i:Nat)(hi:i<6):qn bI rs af k s i<=bI s i:=by
 unfold qn;split;exact aZ _;split;exact cO (ar6 (List.take_sublist k rs)) (n.sum s i hi);exact dx _
theorem axs(n:zP bI rs)(af s i:Nat)(hi:i<6):qn bI rs af rs s i<=qn bI rs (af+1) 0 s i:=by
 by_cases h:i<af+1
 ·have e:qn bI rs (af+1) 0 s i=bI s i:=by unfold qn;rw[co h]
  rw[e];exact SL n af _ s i hi
 unfold qn;rw[bs z,bs z];exact dx _
theorem ar5(bI:Nat->Nat->Nat)(s i:Nat)(r:bA):∀l:List bA,qJ bI s i (l++[r])=qJ bI s i l+(if r.h=s then pc bI r.args lk i else 0)
 |[]=>by simp[qJ]
 |q::l=>by simp only[Wq,qJ,ar5 bI s i r l];omega
theorem YO(af k s i:Nat)(b:k<rs):qn bI rs af (k+1) s i=qn bI rs af k s i+(if i=af/\rs[k].h=s then pc bI rs[k].args lk i else 0):=by
 unfold qn;by_cases h:i<af;rw[co h,co h,bs z];rfl;rw[bs h,bs h];by_cases e:i=af;rw[co e,co e,p9 b,ar5];by_cases a:rs[k].h=s;rw[co a,co ⟨e,a⟩];rw[bs a,bs fun q=>a q.2];rw[bs e,bs e,bs fun q=>e q.1]
def ou(t:List (List Nat))(s i:Nat):Nat:=(t.getD s []).getD i 0
def St(p:Nat->Bool):Bool:=(List.range 10).all p
theorem Yd{p:Nat->Bool}(h:St p=true)(hi:i<10):p i=true:=h6.1 h i (xZ.2 hi)
def U0(bI:Nat->Nat->Nat):List Nat->(Nat->Nat)->Bool
 |[],W=>St fun i=>Nat.blt (W i) 281474976710656
 |a::l,W=>St (fun i=>Nat.blt (W i) 16777216)&&St (fun i=>Nat.blt (k1 W (bI a) 6 i 10) 281474976710656)&&U0 bI l (fun i=>k1 W (bI a) 6 i 10)
theorem app(bI:Nat->Nat->Nat):∀(l:List Nat) (W:Nat->Nat),U0 bI l W=true->Hn bI l W
 |[],W,h=>fun i hi=>by simpa using Yd h hi
 |a::l,W,h=>by
  simp only[U0,dQ]at h
  exact⟨fun i hi=>by simpa using Yd h.1.1 hi,fun i hi=>by simpa using Yd h.1.2 hi,app bI l _ h.2⟩
def acN(t:List (List Nat))(rs:List bA):Bool:=
 (List.range t.length).all (fun s=>(List.range 6).all fun i=>Nat.ble (qJ (ou t) s i rs) (ou t s i))&&rs.all (fun r=>Nat.blt r.h t.length&&U0 (ou t) r.args lk)&&t.all (fun l=>l.all fun n=>Nat.blt n 2147483648)
theorem ad7{bI:Nat->Nat->Nat}{s i:Nat}:∀{rs:List bA},(∀r∈rs,r.h≠s)->qJ bI s i rs=0
 |[],_=>rfl
 |r::l,h=>by
  simp only[qJ]
  rw[bs (h r (qP ..)),ad7 fun q a=>h q (jD _ a)]
theorem aJV{t:List (List Nat)}(h:t.all (fun l=>l.all fun n=>Nat.blt n 2147483648)=true)(s i:Nat):ou t s i<2147483648:=by
 unfold ou;rw[p8,p8];cases a:t[s]? with
 |none=>simp
 |some l=>
  simp only[LY];cases hi:l[i]? with
  |none=>simp
  |some n=>have:=h6.1 (h6.1 h l (CY a)) n (CY hi);simpa using this
theorem aE1{t:List (List Nat)}(h:acN t rs=true):zP (ou t) rs:=by
 simp only[acN,dQ]at h;obtain⟨⟨H,I⟩,c⟩:=h;refine⟨fun s i hi=>?_,fun r a=>?_,aJV c⟩
 ·by_cases b:s<t;have:=h6.1 (h6.1 H s (xZ.2 b)) i (xZ.2 hi);exact hH this
  ·rw[ad7 fun r a e=>?_];exact dx _
   ·have:=h6.1 I r a;simp only[dQ]at this;have d:r.h<t.length:=by simpa using this.1
    omega
 have:=h6.1 I r a;simp only[dQ]at this;exact app _ _ _ this.2
end Go.da
namespace Go.da
open Go Go.Proofs Go.RowKit
theorem aig{W a:World}(A:β W a):(∀b o,b<W.heap.size->a.cell? ⟨b,o,none⟩=W.cell? ⟨b,o,none⟩)/\(∀b o,b<W.heap.size->a.frozen? ⟨b,o,none⟩=W.frozen? ⟨b,o,none⟩):=
 ⟨fun b o h=>A.cell (p:=⟨b,o,none⟩) h,fun b o h=>A.frozen (p:=⟨b,o,none⟩) h⟩
variable{w:World}{b:Nat}
theorem ly{i:Nat}{cs:Array Value}{t:TypeId}{v:Value}(h:w.heap[b]? =some (.cells cs t (0,0)))(hi:cs[i]? =some v):w.cell? ⟨b,i,none⟩=some v:=by simp[World.cell?,h,hi]
theorem cW(w:World)(o:Obj):(w.alloc o).heap[w.heap.size]? =some o:=px w o
theorem tT(w:World)(o:Obj){k:Nat}(h:k<w.heap.size):(w.alloc o).heap[k]? =w.heap[k]? :=CU w o k h
theorem i_(w:World)(o:Obj):(w.alloc o).heap.size=w.heap.size+1:=ao
theorem c8{o:Obj}(h:w.heap[b]? =some o):b<w.heap.size:=(g6.1 h).1
structure cU where
 nm:ByteArray
 db:Nat
 bw:List (ByteArray×Nat)
 aD:List (ByteArray×Nat)
 df:List bA
 al:Nat
 bI:List (List Nat)
structure qZ (S:cU):Prop where
 nm:S.nm.size<=maxLen
 db:S.db<=1000000000
 axy:0<S.bw.length
 bw:S.bw.length<=8
 axT:∀c∈S.bw,c.1.size<=maxLen
 xI:0<S.aD.length
 aD:S.aD.length<=12
 lJ:∀c∈S.aD,c.1.size<=maxLen
 df:S.df.length<=40
 al:S.al<S.aD.length
 need:zP (ou S.bI) S.df
 CC:∀r∈S.df,r.h<S.aD.length/\r.args.length<=3/\(∀a∈r.args,a<S.aD.length)/\r.op.size<=maxLen/\r.aG.size<=maxLen
def jd(w:World)(ca:Option Addr)(cs:List (ByteArray×Nat)):Prop:=∃b o arr bb,ca=some ⟨b,o,none⟩/\w.heap[b]? =some (.cells arr 136 bb)/\∀i (hi:i<cs.length),arr[o+i*2]? =some (.string cs[i].1)/\arr[o+i*2+1]? =some (.int .i64 cs[i].2)
def sA(w:World)(a:Option Addr)(ss:List (ByteArray×Nat))(M:Nat->Nat):Prop:=∃b o,a=some ⟨b,o,none⟩/\b<w.heap.size/\∀i (hi:i<ss.length),w.cell? ⟨b,o+i*3,none⟩=some (.string ss[i].1)/\w.cell? ⟨b,o+i*3+1,none⟩=some (.int .i64 ss[i].2)/\w.cell? ⟨b,o+i*3+2,none⟩=some (.int .i64 (M i))
def qU(w:World)(a:Option Addr)(l:List Nat):Prop:=0<l.length->∃b o,a=some ⟨b,o,none⟩/\b<w.heap.size/\∀i (hi:i<l.length),w.cell? ⟨b,o+i,none⟩=some (.int .i64 l[i])
structure Jf (w:World) (b o:Nat) (r:bA) (aR:Option Addr) (ac:Nat):Prop where
 bo:w.cell? ⟨b,o,none⟩=some (.int .i64 r.h)
 c1:w.cell? ⟨b,o+1,none⟩=some (.string r.op)
 c2:w.cell? ⟨b,o+2,none⟩=some (.string r.aG)
 c3:w.cell? ⟨b,o+3,none⟩=some (.slice aR r.args.length ac)
 args:qU w aR r.args
 cA:∃dR eM,aR=some ⟨dR,eM,none⟩
def wV(w:World)(ra:Option Addr)(rs:List bA):Prop:=∃b o,ra=some ⟨b,o,none⟩/\b<w.heap.size/\∀i (hi:i<rs.length),∃a ac,Jf w b (o+i*4) rs[i] a ac
variable{w':World}{ca:Option Addr}{cs:List (ByteArray×Nat)}
theorem jd.K(h:jd w ca cs)(A:β w w'):jd w' ca cs:=by
 obtain⟨b,o,arr,bb,e,a,c⟩:=h;exact⟨b,o,arr,bb,e,by rw[A.block b (c8 a)];exact a,c⟩
theorem sA.K{M:Nat->Nat}(h:sA w ca cs M)(A:β w w'):sA w' ca cs M:=by
 obtain⟨b,o,e,a,c⟩:=h;exact⟨b,o,e,cS A a,fun i hi=>by rw[A.cell a,A.cell a,A.cell a];exact c i hi⟩
variable{c:Option Addr}
theorem qU.K{l:List Nat}(h:qU w c l)(A:β w w'):qU w' c l:=fun ae=>by
 obtain⟨b,o,e,a,d⟩:=h ae
 exact⟨b,o,e,cS A a,fun i hi=>by rw[A.cell a];exact d i hi⟩
theorem Jf.K{o:Nat}{r:bA}{ac:Nat}(h:Jf w b o r c ac)(a:b<w.heap.size)(A:β w w'):Jf w' b o r c ac:=
 ⟨by rw[A.cell a];exact h.bo,by rw[A.cell a];exact h.c1,by rw[A.cell a];exact h.c2,by rw[A.cell a];exact h.c3,h.args.K A,h.cA⟩
theorem wV.K{ra:Option Addr}{rs:List bA}(h:wV w ra rs)(A:β w w'):wV w' ra rs:=by
 obtain⟨b,o,e,a,c⟩:=h;exact⟨b,o,e,cS A a,fun i hi=>by obtain⟨d,ac,h⟩:=c i hi;exact⟨d,ac,h.K a A⟩⟩
def qV(w w':World):Prop:=∃n,w'=w.drewN n
theorem qV.K(h:qV w w')(B:Nat):Below B w w':=by
 obtain⟨n,rfl⟩:=h;exact⟨rfl,rfl,rfl,aZ _,fun _ _=>rfl⟩
end Go.da
namespace Go.bh
open Go Go.Proofs.Tryz Go.Proofs Go.RowKit Go.da
def atG(n:Nat)(e:Ending):Prop:=∃r:Nat,r<n/\e=.returned (.int .i64 r)
theorem acJ(x:Int)(n:Nat)(w:World)(b:0<n)(A:n<=1000000):Calls prog 194 #[x,n] w fun e w'=>atG n e/\w=w':=by
 have c:((n:Int)==0)=false:=bz;have H:=Wp x (show(0:Int)<n by omega);have I:=ae_ x (show(0:Int)<n by omega);by_cases h:x.tmod n<0
 ·have aj:decide (x.tmod n<0)=true:=by simpa using h
  have a:wrap64 (x.tmod n+n)=x.tmod n+n:=Q6 _ ⟨z,z⟩;go_enter func194,ntmps194
  go_wp2;go_ret;exact⟨⟨(x.tmod n+n).toNat,z,by rw[asV z];first|rfl|simp[a]⟩,rfl⟩
 ·have aj:decide (x.tmod n<0)=false:=by simpa using h
  go_enter func194,ntmps194
  go_wp2;go_ret;exact⟨⟨(x.tmod n).toNat,z,by rw[asV z];rfl⟩,rfl⟩
end Go.bh
namespace Go.aJ
open Go Go.Proofs.Tryz Go.Proofs Go.RowKit Go.Lib
def kR(w:World)(a:Option Addr)(n:Nat):Prop:=n=0∨ ∃b o,a=some ⟨b,o,none⟩/\∀i,i<n->∃x:Int,w.cell? ⟨b,o+i,none⟩=some (.int .i64 x)
theorem K'(x n:Int)(a:0<n)(A:n<=2000000000000001):0<=(wrap64 (x.tmod n+n)).tmod n/\(wrap64 (x.tmod n+n)).tmod n<n:=by
 have H:=Wp x a;have I: -n<x.tmod n:=by have:=ae_ x a;omega
 have b:wrap64 (x.tmod n+n)=x.tmod n+n:=Q6 _ ⟨z,z⟩;rw[b];exact⟨Int.tmod_nonneg _ z,Wp _ a⟩
def tA(n:Int)(e:Ending):Prop:=∃r:Int,0<=r/\r<n/\e=.returned (.int .i64 r)
def el(w:World)(b:Nat)(a:Option Addr)(n:Nat):Prop:=∃c d:Nat,w.heap[b]? =some (.cells #[.slice a n c,.int .i64 d] 54 (0,0))/\kR w a n/\(∀q,a=some q->0<n->q.block≠b)
def uW(w:World)(b:Nat)(a:Option Addr)(len:Nat)(n:Int)(e:Ending)(w':World):Prop:=
 tA n e/\el w' b a len/\w'.heap.size=w.heap.size/\(∀k,k≠b->w'.heap[k]? =w.heap[k]?)/\w'.os=w.os/\w'.tape=w.tape/\w'.output=w.output
theorem qG(w:World)(b:Nat)(a:Option Addr)(len:Nat)(n:Int)(I:0<n)(A:n<=2000000000000001)(H:len<=maxLen)(h:el w b a len):Calls prog 15 #[.pointer (some ⟨b,0,none⟩),.int .i64 n] w fun e w'=>uW w b a len n e w':=by
 obtain⟨c,d,l,o,s⟩:=h;unfold maxLen at H;have bo:w.cell? ⟨b,0,none⟩=some (.slice a len c):=by simp[World.cell?,l]
 have c1:w.cell? ⟨b,1,none⟩=some (.int .i64 d):=by simp[World.cell?,l]
 have K:w.frozen? ⟨b,1,none⟩=false:=by simp[World.frozen?,l]
 by_cases J:len<=d
 ·have hd:decide ((len:Int)<=(d:Int))=true:=by simpa using J
  go_enter func15,ntmps15
  go_wp2;go_quiet (fail)
  go_wp2;go_ret;exact⟨⟨0,z,z,rfl⟩,⟨c,d,l,o,s⟩,rfl,fun _ _=>rfl,rfl,rfl,rfl⟩
 ·have hd:decide ((len:Int)<=(d:Int))=false:=bz;have E:decide (n<1)=false:=bz;rcases o with o|⟨j,eh,rfl,D⟩
  ·omega
  ·obtain⟨x,u⟩:=D d z;have B:=s _ rfl z;have L:(n==0)=false:=bz;have C:=K' x n I A;go_enter func15,ntmps15
   go_wp2;go_quiet (fail)
   go_wp2;have g:∃f,f=(w.drewN nq).setCell ⟨b,1,none⟩ (Value.int .i64 (↑d+1)):=⟨_,rfl⟩;obtain⟨f,g⟩:=g;have q:Hid (f.heap[b]? =some (.cells #[.slice (some ⟨j,eh,none⟩) len c,.int .i64 (↑d+1)] 54 (0,0))):=by subst g;exact hT (w:=w.drewN nq) l _
   have r:Hid (∀k,k≠b->f.heap[k]? =w.heap[k]?):=fun k F=>by subst g;rw[g_ _ _ _ _ F];rfl
   have m:Hid (f.heap.size=w.heap.size/\f.os=w.os/\f.tape=w.tape/\f.output=w.output):=by have t:=(br 0 (w.drewN nq)).setCell (p:=⟨b,1,none⟩) (dx _) (Value.int .i64 (↑d+1));subst g;exact⟨ao,t.os,t.tape,t.output⟩
   rw[←g];have Q:f.cell? ⟨b,0,none⟩=some (.slice (some ⟨j,eh,none⟩) len c):=by simp[World.cell?,q.out]
   have N:f.cell? ⟨b,1,none⟩=some (.int .i64 (↑d+1)):=by simp[World.cell?,q.out]
   have M:f.cell? ⟨j,eh+d,none⟩=some (.int .i64 x):=by rw[nt (w:=w) (r.out j B)];exact u
   have P:0<=(d:Int)+1-1:=z;have O:((d:Int)+1-1)<len:=z;have R:((d:Int)+1-1).toNat=d:=z;clear bo c1 K hd E g l u;go_quiet (fail)
   go_wp2;go_ret;exact⟨⟨_,C.1,C.2,rfl⟩,⟨c,d+1,by rw[ae'];exact q.out,.inr ⟨j,eh,rfl,fun i hi=>by obtain⟨y,G⟩:=D i hi;exact⟨y,by rw[←G];exact nt (w:=w) (r.out j B)⟩⟩,s⟩,m.out.1,r.out,m.out.2.1,m.out.2.2.1,m.out.2.2.2⟩
variable{w w':World}{a:Option Addr}{n:Nat}
theorem kR.K(h:kR w a n)(A:β w w'):kR w' a n:=by
 rcases h with h|⟨b,o,rfl,h⟩;exact .inl h;refine .inr ⟨b,o,rfl,fun i hi=>?_⟩;obtain⟨x,c⟩:=h i hi;exact⟨x,(A.cell (Wk w _ c)).trans c⟩
variable{b:Nat}
theorem el.K(h:el w b a n)(A:β w w'):el w' b a n:=by
 obtain⟨c,e,H,I,d⟩:=h;exact⟨c,e,(A.block b (g6.1 H).1).trans H,I.K A,d⟩
theorem el.lt(h:el w b a n):b<w.heap.size:=by
 obtain⟨c,e,H,I,d⟩:=h;exact(g6.1 H).1
theorem el.alloc(h:el w b a n)(o:Obj):el (w.alloc o) b a n:=h.K ((br _ _).alloc (aZ _) o)
end Go.aJ
namespace Go.bh.N
open Go Go.Proofs Go.RowKit Go.da
def FI(e:Ending):Prop:=∃r:Bool,e=.returned (.bool r)
end Go.bh.N
namespace Go.bh.N
open Go Go.Proofs.Tryz Go.Proofs Go.RowKit Go.da
def Sn(w:World)(a:Option Addr)(n:Nat):Prop:=n<=1000/\(0<n->∃b o,a=some ⟨b,o,none⟩/\b<w.heap.size/\∀i,i<n->∃(s:ByteArray) (k m:Int),s.size<=maxLen/\w.cell? ⟨b,o+i*3,none⟩=some (.string s)/\w.cell? ⟨b,o+i*3+1,none⟩=some (.int .i64 k)/\w.cell? ⟨b,o+i*3+2,none⟩=some (.int .i64 m)/\0<=m/\m<=9)
theorem aDn(w:World):Calls prog 178 #[] w fun e w'=>e=.returned (.slice (some ⟨w,0,none⟩) 6 6)/\w'=w.alloc (.cells #[.string ⟨#[]⟩,.string ⟨#[116,101,120,116]⟩,.string ⟨#[110,117,109,98,101,114]⟩,.string ⟨#[100,97,116,101]⟩,.string ⟨#[98,111,111,108]⟩,.string ⟨#[116,97,98,108,101]⟩] 9):=by
 go_enter func178,ntmps178
 go_wp2;exact PN
def Di(w:World)(a:Option Addr)(n:Nat):Prop:=n<=1000/\(0<n->∃b o,a=some ⟨b,o,none⟩/\b<w.heap.size/\∀i,i<n->∃x:Int,w.cell? ⟨b,o+i,none⟩=some (.int .i64 x))
theorem aCW(a b:Option Addr)(m n c d:Nat)(w:World)(aH:Di w a m)(A:Di w b n):Calls prog 270 #[.slice a m c,.slice b n d] w fun e w'=>FI e/\qV w w':=by
 obtain⟨H,aH⟩:=aH;obtain⟨I,A⟩:=A;by_cases j:m=n
 ·subst j;have aO:((m:Int) !=(m:Int))=false:=ao;go_enter Q9,We
  go_wp2;go_loopw [5] (fun i wr=>∃k:Nat,k<=m/\i=.int .i64 k/\qV w wr) (fun i _=>m-(RowKit.intOf i).toNat);case atStart=>exact⟨0,dx _,rfl,0,rfl⟩
  case round=>
   obtain⟨k,l,rfl,q,rfl⟩:=hrel;by_cases au:k<m
   ·obtain⟨B,D,rfl,s,f⟩:=aH z;obtain⟨t,C,rfl,u,g⟩:=A z;obtain⟨x,o⟩:=f k au;obtain⟨y,r⟩:=g k au;have F:(0:Int)<=(k:Int):=z;have E:(k:Int)<m:=z;clear f g aH A
    go_wp2;go_quiet (fail)
    go_wp2;all_goals first
     |(
      go_roundw
      case rel=>exact⟨k+1,z,bG,_,(by first|rfl|exact World.drewN_drewN _ _ _)⟩
      case measure=>simp[RowKit.intOf];omega)
     |(go_ret;exact⟨⟨_,rfl⟩,_,(by first|rfl|exact World.drewN_drewN _ _ _)⟩)
   ·go_wp2;all_goals(go_ret;exact⟨⟨_,rfl⟩,q,rfl⟩)
 ·have aO:((m:Int) !=(n:Int))=true:=bz;go_enter Q9,We
  go_wp2;all_goals(go_ret;exact⟨⟨_,rfl⟩,0,rfl⟩)
variable{w w':World}{a:Option Addr}{n:Nat}
theorem Di.K(h:Di w a n)(A:β w w'):Di w' a n:=
 ⟨h.1,fun g=>by
  obtain⟨b,o,e,c,d⟩:=h.2 g
  exact⟨b,o,e,cS A c,fun i hi=>by obtain⟨x,f⟩:=d i hi;exact⟨x,by rw[A.cell c];exact f⟩⟩⟩
theorem Sn.K(h:Sn w a n)(A:β w w'):Sn w' a n:=
 ⟨h.1,fun j=>by
  obtain⟨b,o,e,c,d⟩:=h.2 j
  exact⟨b,o,e,cS A c,fun i hi=>by
   obtain⟨s,k,m,H,I,g,f,l⟩:=d i hi
   exact⟨s,k,m,H,by rw[A.cell c];exact I,by rw[A.cell c];exact g,by rw[A.cell c];exact f,l⟩⟩⟩
end Go.bh.N
namespace Go.bh.N
open Go Go.Proofs Go.RowKit Go.da
def X2(w:World)(a:Option Addr)(n:Nat):Prop:=n<=1000/\(0<n->∃b o,a=some ⟨b,o,none⟩/\b<w.heap.size/\∀i,i<n->∃s:ByteArray,s.size<=maxLen/\w.cell? ⟨b,o+i,none⟩=some (.string s))
variable{w w':World}{a:Option Addr}{n:Nat}
theorem X2.K(h:X2 w a n)(A:β w w'):X2 w' a n:=
 ⟨h.1,fun j=>by
  obtain⟨b,o,e,c,d⟩:=h.2 j
  exact⟨b,o,e,cS A c,fun i hi=>by obtain⟨x,g,f⟩:=d i hi;exact⟨x,g,by rw[A.cell c];exact f⟩⟩⟩
def Rx(w:World)(a:Option Addr)(n c:Nat):Prop:=n<=3/\(0<n->∃b o,a=some ⟨b,o,none⟩/\b<w.heap.size/\∀i,i<n->∃x:Nat,x<c/\w.cell? ⟨b,o+i,none⟩=some (.int .i64 x))
variable{d:Nat}
theorem Rx.K(h:Rx w a n d)(A:β w w'):Rx w' a n d:=
 ⟨h.1,fun k=>by
  obtain⟨b,o,e,c,f⟩:=h.2 k
  exact⟨b,o,e,cS A c,fun i hi=>by obtain⟨x,j,g⟩:=f i hi;exact⟨x,j,by rw[A.cell c];exact g⟩⟩⟩
structure Sk (T:ByteArray->ByteArray->Prop) (w:World) (b o eq:Nat) (h:Nat) (op aG:ByteArray) (aR:Option Addr) (iD ac:Nat):Prop where
 bo:w.cell? ⟨b,o,none⟩=some (.int .i64 h)
 c1:w.cell? ⟨b,o+1,none⟩=some (.string op)
 c2:w.cell? ⟨b,o+2,none⟩=some (.string aG)
 c3:w.cell? ⟨b,o+3,none⟩=some (.slice aR iD ac)
 au:h<eq
 t:T op aG
 aGf:op.size<=maxLen
 aGH:aG.size<=maxLen
 args:Rx w aR iD eq
def XY(T:ByteArray->ByteArray->Prop)(w:World)(a:Option Addr)(n d:Nat):Prop:=n<=1000/\(0<n->∃b o,a=some ⟨b,o,none⟩/\b<w.heap.size/\∀i,i<n->∃h op aG c iD ac,Sk T w b (o+i*4) d h op aG c iD ac)
variable{T:ByteArray->ByteArray->Prop}
theorem Sk.K{b o h:Nat}{op aG:ByteArray}{c:Option Addr}{iD ac:Nat}(r:Sk T w b o d h op aG c iD ac)(a:b<w.heap.size)(A:β w w'):Sk T w' b o d h op aG c iD ac:=
 ⟨by rw[A.cell a];exact r.bo,by rw[A.cell a];exact r.c1,by rw[A.cell a];exact r.c2,by rw[A.cell a];exact r.c3,r.au,r.t,r.aGf,r.aGH,r.args.K A⟩
theorem XY.K(h:XY T w a n d)(A:β w w'):XY T w' a n d:=
 ⟨h.1,fun j=>by
  obtain⟨b,o,e,c,f⟩:=h.2 j
  exact⟨b,o,e,cS A c,fun i hi=>by obtain⟨hd,op,aG,g,iD,ac,r⟩:=f i hi;exact⟨hd,op,aG,g,iD,ac,r.K c A⟩⟩⟩
def L3(a:World)(g r:Nat)(b R:Array Value):Prop:=g<a.heap.size/\r<a.heap.size/\a.heap[g]? =some (.cells b 29 (0,0))/\a.heap[r]? =some (.cells R 96 (0,0))
theorem L3.K{g r:Nat}{a R:Array Value}(h:L3 w g r a R)(A:β w w'):L3 w' g r a R:=
 ⟨cS A h.1,cS A h.2.1,by rw[A.block g h.1];exact h.2.2.1,by rw[A.block r h.2.1];exact h.2.2.2⟩
end Go.bh.N
namespace Go.bh.N
open Go Go.Proofs.Tryz Go.Proofs Go.RowKit Go.da
def RE(w:World)(a:Option Addr)(n:Nat):Prop:=n<=1000/\(0<n->∃b o,a=some ⟨b,o,none⟩/\b<w.heap.size/\∀i,i<n->∃(s:ByteArray) (k:Int),s.size<=maxLen/\w.cell? ⟨b,o+i*2,none⟩=some (.string s)/\w.cell? ⟨b,o+i*2+1,none⟩=some (.int .i64 k))
variable{w w':World}{n:Nat}
theorem RE.K{a:Option Addr}(h:RE w a n)(A:β w w'):RE w' a n:=
 ⟨h.1,fun g=>by
  obtain⟨b,o,e,c,d⟩:=h.2 g
  exact⟨b,o,e,cS A c,fun i hi=>by
   obtain⟨s,k,H,I,f⟩:=d i hi
   exact⟨s,k,H,by rw[A.cell c];exact I,by rw[A.cell c];exact f⟩⟩⟩
theorem aCP:(prog.info? 9).map (fun i=>(i.zero,i.size,i.bytes))=some (some (.string ⟨#[]⟩),1,16):=av
def BA(base:Nat)(v:Value)(k:Nat)(w:World):Prop:=∃aP:List ByteArray,aP.length=k/\(∀s∈aP,s.size<=maxLen)/\w.ownsRow base 9 1 v k (aP.map Value.string)
def Bv(w:World)(g:Nat)(a:Array Value):Prop:=g<w.heap.size/\w.heap[g]? =some (.cells a 29 (0,0))
variable{B:Nat}
theorem Bv.K{g:Nat}{a:Array Value}(h:Bv w g a)(an:g<B)(A:Below B w w'):Bv w' g a:=
 ⟨cS A h.1,by rw[A.block g an];exact h.2⟩
variable{base k:Nat}{v:Value}
theorem BA.K(h:BA base v k w)(A:β w w'):BA base v k w':=by
 obtain⟨aP,H,I,a,aM⟩:=h;refine⟨aP,H,I,a,?_⟩;exact aor
theorem apg(w:World)(s:ByteArray):∀(j:Nat) (u:Value),[Value.string s][j]? =some u->(w.alloc (.cells #[s] 9)).cell? ((⟨w,0,none⟩:Addr).add j)=some u:=by
 exact acs
def avC(s:ByteArray)(e:Ending):Prop:=∃t:ByteArray,WX s t/\e=.returned (.string t)
theorem aim{c:UInt8}(h:(((c.toNat:Nat):Int)==0)=true):c=0:=by
 have:c.toNat=0:=by simpa using h
 exact WE.1 (by simpa using this)
theorem Yz(s:ByteArray)(k:Nat)(h:k<s.size):s.data.toList[k]? =some s[k]:=by
 rw[jU (by rw[jC];exact h)];rfl
theorem afN(s:ByteArray)(k:Nat)(a:k<=s.size)(b:∀j,j<k->s.data.toList[j]? =some 0)(aO:∀h:k<s.size,s[k]≠0):WX s (s.extract k s.size):=
 atx s _ k (aeV s k) (by rw[jC];exact a) b fun h=>aO (by rw[jC]at h;exact h)
theorem RK(s:ByteArray)(w:World)(b:s.size<=maxLen):Calls prog 189 #[s] w fun e w'=>avC s e/\w=w':=by
 unfold maxLen at b;go_enter func189,ntmps189
 go_wp2;go_loop [3] (fun i=>∃k:Nat,k<=s.size/\i=.int .i64 k/\Hid (∀j,j<k->s.data.toList[j]? =some 0)) (fun i=>s.size-(RowKit.intOf i).toNat);case atStart=>exact⟨0,dx _,rfl,fun j c=>z⟩
 case round=>
  obtain⟨k,a,rfl,aA⟩:=hrel;by_cases au:k<s.size
  ·go_wp2;exact an5
   ·have aC:((((s[k]'au).toNat:Nat):Int)==0)=false:=by assumption
    go_ret;exact⟨⟨_,afN s k a aA.out (fun h e=>by rw[e]at aC;simp at aC),rfl⟩,rfl⟩
  ·go_wp2;go_ret;exact⟨⟨_,afN s k a aA.out (fun h=>absurd h au),rfl⟩,rfl⟩
theorem ahF(l:List UInt8)(k:Nat)(h:k<=6):aT (l.take k)<281474976710656:=by
 exact aow
theorem ahG(t:ByteArray)(k:Nat)(h:k<t.size):aT (t.data.toList.take (k+1))=aT (t.data.toList.take k)*256+t[k].toNat:=by
 exact aoB
def uZ(n:Nat)(e:Ending):Prop:=e=.returned (.tuple #[.int .i64 n,.bool true])
theorem El(s:ByteArray)(w:World)(b:s.size<=maxLen)(a:aT s.data.toList<256^7):Calls prog 191 #[s] w fun e w'=>uZ (aT s.data.toList) e/\w=w':=by
 have c:=G a;clear a;go_enter func191,ntmps191
 go_wp2_with (go_at_call 189;refine(RK s _ b).mono ?_;rintro e w' ⟨⟨t,T,rfl⟩,rfl⟩;have g:t.size<=7:=T.2.2 7 c.out;have j:decide (8<(t.size:Int))=false:=bz;have f:((t.size:Int)==8)=false:=bz);go_loop [4,5] (fun n i=>∃k:Nat,k<=t.size/\i=.int .i64 k/\n=.int .i64 (aT (t.data.toList.take k))) (fun _ i=>t.size-(RowKit.intOf i).toNat);case atStart=>exact⟨0,dx _,rfl,rfl⟩
 case round=>
  obtain⟨k,d,rfl,rfl⟩:=hrel;by_cases au:k<t.size;exact aoP
  ·have Kn:k=t.size:=z;have aby:aT (t.data.toList.take k)=aT s.data.toList:=by rw[Kn,uK (by rw[jC];exact aZ _)];exact T.1
   exact aoD
theorem RM(s:ByteArray)(n:Nat)(w:World)(b:s.size<=maxLen)(d:n<=7)(a:aT s.data.toList<256^n):Calls prog 110 #[s,n] w fun e w'=>uZ (aT s.data.toList) e/\w=w':=by
 have c:Hid (aT s.data.toList<256^7):=iK a (kO z d);have f:=G a;clear a;go_enter V7,ntmps110
 go_wp2_with (first|(go_at_call 189;refine(RK s _ b).mono ?_;rintro e w' ⟨⟨t,T,rfl⟩,rfl⟩;have g:t.size<=n:=T.2.2 n f.out;have i:decide (n<t.size)=false:=bz)|(go_at_call 191;refine(El s _ b c.out).mono ?_;rintro e w' ⟨rfl,rfl⟩))
 go_ret2
 exact⟨rfl,rfl⟩
theorem aCM:(prog.info? 5).map (fun i=>(i.zero,i.size,i.bytes))=some (some (.int .u8 0),1,1):=av
theorem xv(w:World)(v:Value):∀(j:Nat) (u:Value),[v][j]? =some u->(w.alloc (.cells #[v] 5)).cell? ((⟨w,0,none⟩:Addr).add j)=some u:=by
 exact acs
theorem atz(n j:Nat):j4 n (j+1)=j4 n j++[(((n/2^(56-8*j))%256:Nat):Int)]:=by
 simp[j4,LV]
variable{aP:List Value}
theorem vP{e:TypeId}(h:w.ownsRow base e 1 v k aP):∀g,v.ownBlock=some g->base<=g:=by
 intro g an;obtain⟨a,aM⟩:=h;exact aoF
theorem atC{a b:Int}(h:w.ownsRow base 5 1 v k (aP++[.int .u8 a]))(e:a=b):w.ownsRow base 5 1 v k (aP++[.int .u8 b]):=e▸h
def Dn(n:Nat)(e:Ending):Prop:=∃t:ByteArray,e=.returned (.string t)/\aT t.data.toList=n/\(t.size<=8/\(n=0->t.size=0))
theorem atB(w:World):χ 108 #[.int .i64 0] w fun e w'=>Dn 0 e:=by
 have a:=fun(w:World) (l c:Nat)=>Wm (P:=prog) (w:=w) 126 5 se xV l c;have b:=fun(w:World) (l c:Nat)=>a w l c 101 LF;go_enter Q7,Wc
 go_wp2;refine Bn 1 ?_;rw[py]
 go_wp2_with (go_at_call 189;refine(RK _ _ (by simp[maxLen])).mono ?_;rintro e w' ⟨⟨t,T,rfl⟩,rfl⟩);go_ret;exact⟨⟨t,rfl,T.1.trans rfl,cO T.2.1 ak,fun _=>Nat.le_zero.1 (T.2.2 0 ak)⟩,br _ _⟩
theorem atA(n:Nat)(w:World)(ae:0<n)(H:n<36028797018963968):χ 108 #[n] w fun e w'=>Dn n e:=by
 obtain⟨A,D,L,C,E⟩:=im aCM;have ag:decide (0<(n:Int))=true:=bz;go_enter Q7,Wc
 go_wp2;go_loopw [3,4] (fun v i wr=>∃j:Nat,j<=8/\i=.int .i64 (56-8*(j:Int))/\wr.ownsRow w 5 1 v j ((j4 n j).map (Value.int .u8))/\β w wr) (fun _ i _=>(RowKit.intOf i+8).toNat);case atStart=>exact⟨0,z,rfl,mT _ _ _ _,br _ _⟩
 case round=>
  obtain⟨j,M,rfl,c,b⟩:=hrel;by_cases au:j<8
  ·have u:j=0∨j=1∨j=2∨j=3∨j=4∨j=5∨j=6∨j=7:=z;have f:=atz n j;rcases u with rfl|rfl|rfl|rfl|rfl|rfl|rfl|rfl
   all_goals
    have r:=G f;clear f
    go_wp2_with (at_builtin;refine ln _ rfl _ _ 126 rfl w 5 A (.int .u8 0) 1 1 se D L C E rfl ak _ _ _ rfl (c.alloc _) ⟨wr,0,none⟩ 1 1 [_] rfl rfl (xv _ _) (by simp[Value.oneCell']) (by unfold maxLen;omega) z (by have:=b.size;simp;omega) ?_;intro O x m l _);have a:β w x:=(b.alloc b.size _).grown l (by have:=b.size;simp;omega) (vP c);have K:=G m;clear m l
    go_wp2;first|(refine⟨⟨1,z,bG,?_,a⟩,by simp[RowKit.intOf]⟩)|(refine⟨⟨2,z,bG,?_,a⟩,by simp[RowKit.intOf]⟩)|(refine⟨⟨3,z,bG,?_,a⟩,by simp[RowKit.intOf]⟩)|(refine⟨⟨4,z,bG,?_,a⟩,by simp[RowKit.intOf]⟩)|(refine⟨⟨5,z,bG,?_,a⟩,by simp[RowKit.intOf]⟩)|(refine⟨⟨6,z,bG,?_,a⟩,by simp[RowKit.intOf]⟩)|(refine⟨⟨7,z,bG,?_,a⟩,by simp[RowKit.intOf]⟩)|(refine⟨⟨8,z,bG,?_,a⟩,by simp[RowKit.intOf]⟩)
    rw[r.out,xY,aff];exact atC K.out (by first|omega|(simp;omega)|(simp))
  ·obtain rfl:j=8:=z;obtain⟨s,F⟩:=c;rcases F with⟨_,Q⟩|⟨g,cap,y,rfl,S,jy,N,U,B,q⟩
   omega
   ·have o:∀i,i<8->wr.cell? ⟨g,0+i,none⟩=some (.int .u8 ((j4 n 8).getD i 0)):=fun i hi=>by
     have H:(y.toList.take (8*1))[i]? =((j4 n 8).map (Value.int .u8))[i]? :=by rw[q]
     rw[oZ,co z,n4]at H;have I:i<(j4 n 8).length:=by simpa[j4]using hi
     exact anP
    have R:=Rf (P:=prog) wr 126 5 se xV g 0 8 cap (j4 n 8) (by simp[j4]) o 101 LF;have J:=G (atv n H);have k:(strOfNums (j4 n 8)).size=8:=by rw[Rg];simp[j4]
    have d:=G k;clear k o jy B q s
    go_wp2_with (go_at_call 189;refine(RK _ _ (by rw[d.out];unfold maxLen;omega)).mono ?_;rintro e w' ⟨⟨t,T,rfl⟩,rfl⟩);go_ret;exact⟨⟨t,rfl,T.1.trans (by rw[Wn];exact J.out),by have:=T.2.1;rw[d.out]at this;exact this,fun h=>z⟩,b⟩
theorem WY(n:Nat)(w:World)(H:n<36028797018963968):χ 108 #[n] w fun e w'=>Dn n e:=by
 by_cases ae:n=0;subst ae;exact atB w;exact atA n w z H
def BG(s:ByteArray)(n:Nat):Prop:=aT s.data.toList=n/\(s.size<=8/\(n=0->s.size=0))
theorem Ya(a b:ByteArray)(m n:Nat)(w:World)(aH:BG a m)(A:BG b n)(f:m<281474976710656)(g:n<281474976710656):χ 43 #[a,b] w fun e w'=>Dn (m+n) e:=by
 have d:=G aH;have c:=G A;clear aH A;have c1:∀w,Calls prog 110 #[a,.int .i64 7] w fun e w'=>e=.returned (.tuple #[m,.bool true])/\w=w':=fun w=>by have:=RM a 7 w (cO d.out.2.1 ak) z (by rw[d.out.1];exact iK f ak);rw[d.out.1]at this;exact this
 have c2:∀w,Calls prog 110 #[b,.int .i64 7] w fun e w'=>e=.returned (.tuple #[n,.bool true])/\w=w':=fun w=>by have:=RM b 7 w (cO c.out.2.1 ak) z (by rw[c.out.1];exact iK g ak);rw[c.out.1]at this;exact this
 have bl:=G c1;have bH:=G c2;have c3:∀w,χ 108 #[.int .i64 ((m:Int)+(n:Int))] w fun e w'=>Dn (m+n) e:=fun w=>by have:=WY (m+n) w z;rw[ae']at this;exact this
 have hV:=G c3;clear c1 c2 c3;go_enter V',ntmps43;exact aoQ
theorem aEV(a b:ByteArray)(m n:Nat)(w:World)(aH:BG a m)(A:BG b n)(f:m<16777216)(g:n<2147483648):χ 190 #[a,b] w fun e w'=>Dn (m*n) e:=by
 have d:=G aH;have c:=G A;clear aH A;have i:m*n<36028797018963968:=by have H:m*n<=16777215*n:=qR _ z;omega
 have c1:∀w,Calls prog 110 #[a,.int .i64 3] w fun e w'=>e=.returned (.tuple #[m,.bool true])/\w=w':=fun w=>by have:=RM a 3 w (cO d.out.2.1 ak) z (by rw[d.out.1];exact iK f ak);rw[d.out.1]at this;exact this
 have c2:∀w,Calls prog 110 #[b,.int .i64 4] w fun e w'=>e=.returned (.tuple #[n,.bool true])/\w=w':=fun w=>by have:=RM b 4 w (cO c.out.2.1 ak) z (by rw[c.out.1];exact iK g ak);rw[c.out.1]at this;exact this
 have c3:∀w,χ 108 #[.int .i64 ((m:Int)*(n:Int))] w fun e w'=>Dn (m*n) e:=fun w=>by have:=WY (m*n) w i;rw[Fq]at this;exact this
 have bl:=G c1;have bH:=G c2;have hV:=G c3;have j:wrap64 ((m:Int)*(n:Int))=(m:Int)*(n:Int):=Q6 _ ⟨by rw[←Fq];omega,by rw[←Fq];omega⟩;clear c1 c2 c3;go_enter V9,ntmps190;exact aoQ
def j2(w:World)(b n:Nat)(bI:Nat->Nat):Prop:=b<w.heap.size/\∃cs:Array Value,w.heap[b]? =some (.cells cs 101 (0,0))/\cs.size=n/\∀i,i<n->∃(s:ByteArray) (m:Nat),cs[i]? =some (.string s)/\BG s m/\m<=bI i
variable{b:Nat}{bI:Nat->Nat}
theorem j2.cell(h:j2 w b n bI){i:Nat}(hi:i<n):∃(s:ByteArray) (m:Nat),w.cell? ⟨b,i,none⟩=some (.string s)/\BG s m/\m<=bI i:=by
 obtain⟨_,cs,H,I,c⟩:=h;obtain⟨s,m,e,a⟩:=c i hi;exact⟨s,m,ly H e,a⟩
theorem j2.K(h:j2 w b n bI)(c:b<B)(A:Below B w w'):j2 w' b n bI:=by
 obtain⟨ae,cs,H,I,a⟩:=h;exact⟨cS A ae,cs,by rw[A.block b c];exact H,I,a⟩
theorem j2.free(h:j2 w b n bI)(i:Nat):w.frozen? ⟨b,i,none⟩=false:=by
 obtain⟨_,cs,H,_⟩:=h;simp[World.frozen?,H]
theorem j2.mono{d:Nat->Nat}(h:j2 w b n bI)(hu:∀i,i<n->bI i<=d i):j2 w b n d:=by
 obtain⟨ae,cs,H,I,e⟩:=h;exact⟨ae,cs,H,I,fun i hi=>by obtain⟨s,m,a,b,c⟩:=e i hi;exact⟨s,m,a,b,cO c (hu i hi)⟩⟩
theorem j2.set(h:j2 w b n bI){j m:Nat}{s:ByteArray}(l:j<n)(c:BG s m)(f:m<=bI j):j2 (w.setCell ⟨b,j,none⟩ (.string s)) b n bI:=by
 obtain⟨ae,cs,H,I,d⟩:=h;refine⟨by simpa using ae,cs.setIfInBounds j (.string s),hT H _,by simpa using I,fun i hi=>?_⟩;by_cases e:i=j;subst e;exact⟨s,m,by simp[I,hi],c,f⟩;obtain⟨g,k,a,b⟩:=d i hi;exact⟨g,k,by rw[Bl (h8 e)];exact a,b⟩
theorem j2.zero(w:World):j2 (w.alloc (.cells (Array.replicate 10 (.string ⟨#[]⟩)) 101)) w 10 (fun _=>0):=
 ⟨ao,Array.replicate 10 (.string ⟨#[]⟩),cW w _,ao,fun i hi=>⟨⟨#[]⟩,0,by simp[hi],⟨rfl,ak,fun _=>rfl⟩,aZ _⟩⟩
theorem aDc(a b n ca Y:Nat)(W C:Nat->Nat)(w:World)(ax:n<=10)(A:j2 w a 10 W)(y:j2 w b n C)(Q:∀i,i<10->W i<16777216)(Z:∀i,i<n->C i<2147483648)(nM:∀i,i<10->k1 W C n i 10<281474976710656): Calls prog 109 #[.slice (some ⟨a,0,none⟩) 10 ca,.slice (some ⟨b,0,none⟩) n Y] w fun e w'=>e=.returned (.slice (some ⟨w,0,none⟩) 10 10)/\j2 w' w 10 (fun i=>k1 W C n i 10)/\β w w':=by
 have pR:∀w,(Instr.makeSlice 102 (.int .i64 10) (.int .i64 10)).run prog w=.ok (.slice (some ⟨w,0,none⟩) 10 10) (w.alloc (.cells (Array.replicate 10 (.string ⟨#[]⟩)) 101)):=fun w=>av;have J:=A.1;have D:=y.1;go_enter func109,ntmps109
 go_wp2;have km:=j2.zero w;have kl:β w (w.alloc (.cells (Array.replicate 10 (.string ⟨#[]⟩)) 101)):=(br _ _).alloc (aZ _) _;generalize w.alloc (.cells (Array.replicate 10 (.string ⟨#[]⟩)) 101)=am at*;clear pR;go_loopw [6] (fun i wr=>∃k:Nat,k<=10/\i=.int .i64 k/\j2 wr w 10 (fun i=>k1 W C n i k)/\β w wr) (fun i _=>10-(RowKit.intOf i).toNat);case atStart=>exact⟨0,z,rfl,km,kl⟩
 case round=>
  obtain⟨K,rfl⟩:∃K:World,K=wr:=⟨_,rfl⟩;obtain⟨k,aa,rfl,F,x⟩:=hrel;by_cases au:k<10
  ·have af:(k:Int)<10:=z
   go_wp2;go_loopw [7] (fun i B=>∃m:Nat,1<=m/\m<=10/\i=.int .i64 m/\j2 B w 10 (fun i=>um W C n k m i)/\β w B) (fun i _=>10-(RowKit.intOf i).toNat);case atStart=>exact⟨1,z,z,rfl,F.mono fun i _=>by rw[aGB];exact aZ _,x⟩
   case round=>
    obtain⟨m,l0,ap,rfl,j',iv⟩:=hrel;by_cases gc:m<n/\k+m<10
    ·obtain⟨j,E⟩:=gc;have mP:(m:Int)<n:=z;have lF:(k:Int)+(m:Int)<10:=z;obtain⟨t,L,fL,gM,eh⟩:=j'.cell (i:=k+m) z;obtain⟨U,va,iE,R,r⟩:=(A.K J iv).cell (i:=k) au;obtain⟨bL,f,ab,eo,q⟩:=(y.K D iv).cell (i:=m) j;have d:w.heap.size<wr.heap.size:=j'.1;have ad:a<wr.heap.size:=cS iv J;have ae:b<wr.heap.size:=cS iv D;have V:va<16777216:=p_ r (Q k au);have S:f<2147483648:=p_ q (Z m j);have cw:L+va*f<281474976710656:=by have H:va*f<=W k*C m:=zv r q;have I:=ap6 W C n k m z j;have ah:=ap5 W C n k (m+1) (k+m);have aM:=ar1 W C n (k+m) (k+1) 10 z;have b3:=nM (k+m) E;omega
     have gC:wr.frozen? ⟨w,k+m,none⟩=false:=j'.free _;have lP:=G j';clear j'
     go_wp2;have bV:IntKind.i64.wrap ((k:Int)+(m:Int))=(k:Int)+(m:Int):=pw _ ⟨z,z⟩;have gN:(0:Int)<=(k:Int)+(m:Int):=z;have nX:((k:Int)+(m:Int)).toNat=k+m:=z;have qI:(0:Int)<=(k:Int):=z;have ag:(0:Int)<=(m:Int):=z
     go_region_law (first|(go_simp;go_at_call 190;refine(aEV U bL va f _ R eo V S).mono ?_;rintro e g ⟨⟨X,rfl,M,iY⟩,c⟩;have P:g.cell? ⟨w,k+m,none⟩=some (.string t):=(by rw[c.cell (by simpa using d)];exact fL);have T:g.frozen? ⟨w,k+m,none⟩=false:=(by rw[c.frozen (by simpa using d)];exact gC))|(go_simp;go_at_call 43;refine(Ya t X L (va*f) _ gM ⟨M,iY⟩ z z).mono ?_;rintro e l ⟨⟨cG,rfl,yN,kY⟩,o⟩;have bx:l.frozen? ⟨w,k+m,none⟩=false:=(by rw[o.frozen (cS c d)];exact T);have dt:l.cell? ⟨w,k+m,none⟩=some (.string t):=(by rw[o.cell (cS c d)];exact P)))
     all_goals(
      have j':j2 wr w 10 (fun i=>um W C n k m i):=lP
      go_wp2
      have O:j2 wr.drew w 10 (fun i=>um W C n k m i):=j'.K d (lh wr)
      have s:w.heap.size<wr.drew.heap.size:=d
      have hB:Below w wr.drew g:=c.mono (Br s)
      have u:w.heap.size<g.heap.size:=cS c s
      have gy:Below w g l:=o.mono (Br u)
      have H:va*f<=W k*C m:=zv r q
      have I:=ap6 W C n k m z j
      have N:j2 l w 10 (fun i=>um W C n k (m+1) i):=((O.K s c).K u o).mono fun i _=>aGA W C n k m i
      exact⟨⟨m+1,z,z,bG,N.set E ⟨yN,kY⟩ z,(((iv.drew).trans hB).trans gy).setCell (aZ _) _⟩,by simp[RowKit.intOf];omega⟩)
    by_cases j:m<n;have lF:¬((k:Int)+(m:Int)<10):=z;exact aol;exact aol
  ·obtain rfl:k=10:=z
   go_wp2;go_ret;exact⟨rfl,F,x⟩
end Go.bh.N
namespace Go.bh
open Go Go.Proofs Go.RowKit
structure tv (s:ByteArray):Prop where
 eh:1<=s.size
 hi:s.size<=20
 kC:∀k (L:k<s.size),(97<=(s[k].toNat:Int)/\(s[k].toNat:Int)<=122)∨(65<=(s[k].toNat:Int)/\(s[k].toNat:Int)<=90)∨(0<k/\((s[k].toNat:Int)=95∨48<=(s[k].toNat:Int)/\(s[k].toNat:Int)<=57))
end Go.bh
namespace Go.bh
open Go Go.Proofs Go.RowKit Go.da
def sx(l m:List Nat)(k:Nat):Prop:=∀j,j<k->l[j]? =m[j]?
variable{l m:List Nat}{k:Nat}
theorem sx.xG(h:sx l m k)(H:k<l)(I:k<m)(e:l[k]=m[k]):sx l m (k+1):=fun j b=>by
 by_cases a:j=k
 ·subst a;rw[jU H,jU I,e]
 ·exact h j z
theorem sx.all(h:sx l m k)(c:l.length=m.length)(b:l.length<=k):l=m:=by
 apply Rl;intro j;by_cases a:j<k;exact h j a;rw[uI z,uI z]
theorem Sy(w:World)(b a:Obj):β w ((w.alloc b).alloc a):=((br _ _).alloc (aZ _) _).alloc ao _
theorem YA{a b:ByteArray}(h:a≠b):(a.toList==b.toList)=false:=by
 rw[lp];intro e;rw[Bm,Bm]at e;apply h;cases a;cases b;congr 1;exact aeR.1 e
def L'(r q:bA):Prop:=r.h≠q.h∨r.op≠q.op∨r.aG≠q.aG∨r.args≠q.args
def kz(w:World)(b t:Nat)(v:Array Value):Prop:=w.heap[b]? =some (.cells v t (0,0))
variable{w w':World}
theorem kz.K{b t:Nat}{v:Array Value}(h:kz w b t v)(A:β w w'):kz w' b t v:=by
 unfold kz at*;rw[A.block b (c8 h)];exact h
theorem kz.ee(w:World)(t:Nat)(v:Array Value):kz (w.alloc (.cells v t)) w t v:=cW w _
theorem jd.cell{w:World}{ca:Option Addr}{cs:List (ByteArray×Nat)}(h:jd w ca cs):∃b o,ca=some ⟨b,o,none⟩/\b<w.heap.size/\∀i (hi:i<cs.length),w.cell? ⟨b,o+i*2,none⟩=some (.string cs[i].1)/\w.cell? ⟨b,o+i*2+1,none⟩=some (.int .i64 cs[i].2):=by
 obtain⟨b,o,arr,bb,e,A,a⟩:=h;refine⟨b,o,e,c8 A,fun i hi=>?_⟩;simp only[World.cell?,A];exact a i hi
def au9(s:ByteArray):Prop:=s.data.toList.count 39=0
structure ahn (s:ByteArray):Prop where
 hi:s.size<=60
 kC:∀k (L:k<s.size),32<=(s[k].toNat:Int)/\(s[k].toNat:Int)<=126
 nq:au9 s
structure ahz (eq:Nat) (r:bA):Prop where
 op:tv r.op
 aG:ahn r.aG
 iD:r.args.length<=3
 args:∀a∈r.args,a<eq
 h:r.h<eq
structure FY (S:cU):Prop where
 db:S.db<100
 nm:tv S.nm
 bw:∀c∈S.bw,tv c.1/\1<=c.2/\c.2<=5
 aNs:∀i j (hi:i<S.bw.length) (aa:j<S.bw.length),i<j->S.bw[i].1≠S.bw[j].1
 aD:∀c∈S.aD,tv c.1/\1<=c.2/\c.2<=5
 aPM:∀i j (hi:i<S.aD.length) (aa:j<S.aD.length),i<j->S.aD[i].1≠S.aD[j].1
 df:∀r∈S.df,ahz S.aD.length r
 aPJ:S.df.Pairwise L'
structure hX (w:World) (aI:Array Value) (wr:World):Prop where
 b:β w wr
 g:kz wr w.heap.size 29 aI
theorem hX.K{wr:World}{a:Array Value}(h:hX w a wr)(A:β wr w'):hX w a w':=
 ⟨cj h.b A,h.g.K A⟩
theorem hX.ee(w:World)(a:Array Value):hX w a (w.alloc (.cells a 29)):=⟨(br _ _).alloc (aZ _) _,kz.ee _ _ _⟩
end Go.bh
namespace Go.bh.N
open Go Go.Proofs.Tryz Go.Proofs Go.RowKit Go.da
theorem PR(s:ByteArray)(w:World)(h:tv s):Calls prog 103 #[s] w fun e w'=>e=.returned (.bool true)/\w=w':=by
 have H:=h.eh;have I:=h.hi;have aw:=G h.kC;clear h;have f:¬(s.size:Int)<1:=z;have d:¬20<(s.size:Int):=z;have g:(1:Int)<=(s.size:Int):=z;have j:(s.size:Int)<=20:=z;go_enter func103,ntmps103
 go_wp2;go_loop [3] (fun i=>∃k:Nat,k<=s.size/\i=.int .i64 k) (fun i=>s.size-(RowKit.intOf i).toNat);case atStart=>exact⟨0,dx _,rfl⟩
 case round=>exact aEk
theorem aGo(s:ByteArray)(w:World)(H:s.size<=60)(I:∀k (L:k<s.size),32<=(s[k].toNat:Int)/\(s[k].toNat:Int)<=126):Calls prog 180 #[s] w fun e w'=>e=.returned (.bool true)/\w=w':=by
 have aw:=G I;clear I;have c:¬60<(s.size:Int):=z;go_enter func180,ntmps180
 go_wp2;go_loop [3] (fun i=>∃k:Nat,k<=s.size/\i=.int .i64 k) (fun i=>s.size-(RowKit.intOf i).toNat);case atStart=>exact⟨0,dx _,rfl⟩
 case round=>exact aEf
def au3(e:Ending):Prop:=∃s:ByteArray,e=.returned (.string s)/\(s.toList==[32])=false
theorem afO(k:Nat)(w:World)(H:1<=k)(I:k<=5):χ 104 #[k] w fun e w'=>au3 e:=by
 have:k=1∨k=2∨k=3∨k=4∨k=5:=z;rcases this with rfl|rfl|rfl|rfl|rfl
 all_goals
  go_enter func104,ntmps104
  go_wp2_with (go_at_call 178;refine(aDn _).mono ?_;rintro e w' ⟨rfl,rfl⟩);go_ret;exact⟨⟨_,rfl,dP⟩,(br _ _).alloc (aZ _) _⟩
theorem aEX{s:ByteArray}(h:tv s):(s.toList==[32])=false:=by
 rw[lp,Bm];intro e;have H:=h.eh;have I:s.data.toList.length=s.size:=jC;have b:=h.kC 0 z;have a:s.data.toList[0]? =some s[0]:=by rw[jU z];rfl
 rw[e]at a;have c:(s[0]'z)=32:=by simpa using a.symm
 rw[c]at b;simp at b
def avN(e:Ending):Prop:=∃s:ByteArray,e=.returned (.string s)/\(s.toList==[32])=false
theorem aJL(nm db cs rs al:Value)(a:Option Addr)(ss:List (ByteArray×Nat))(M:Nat->Nat)(g i:Nat)(w:World)(j:sA w a ss M)(d:∀c∈ss,tv c.1)(hi:i<ss)(r:ss.length<=12): χ 182 #[.agg #[nm,db,cs,.slice a ss g,rs,al],i] w fun e w'=>avN e:=by
 obtain⟨b,o,rfl,A,f⟩:=j;obtain⟨bo,_,_⟩:=f i hi;have k:=aEX (d _ (fP hi));have m:(i:Int)<ss.length:=z;have q:(0:Int)<=(i:Int):=z;have n:¬(ss.length:Int)<=(i:Int):=z;have l:¬(i:Int)<0:=z;clear d;go_enter func182,ntmps182
 go_wp2;go_ret;exact⟨⟨_,rfl,k⟩,(br _ _).alloc (aZ _) _⟩
theorem aCZ(a b:Option Addr)(c d:Nat)(l m:List Nat)(w:World)(aH:qU w a l)(A:qU w b m)(H:l.length<=1000)(I:m.length<=1000)(B:l≠m):Calls prog 270 #[.slice a l c,.slice b m d] w fun e w'=>e=.returned (.bool false)/\qV w w':=by
 by_cases f:l.length=m.length
 ·have aO:((l.length:Int) !=(m.length:Int))=false:=by simp[f]
  go_enter Q9,We
  go_wp2;go_loopw [5] (fun i wr=>∃k:Nat,k<=l.length/\i=.int .i64 k/\qV w wr/\sx l m k) (fun i _=>l.length-(RowKit.intOf i).toNat);case atStart=>exact⟨0,dx _,rfl,⟨0,rfl⟩,fun j x=>absurd x (Nat.not_lt_zero _)⟩
  case round=>
   obtain⟨k,D,rfl,⟨q,rfl⟩,o⟩:=hrel;have r:=G o;clear o;by_cases au:k<l
   ·obtain⟨L,N,rfl,F,s⟩:=aH z;obtain⟨J,M,rfl,K,t⟩:=A z;have E:=s k au;have u:=t k z;obtain⟨y,n⟩:∃y,m[k]'z=y:=⟨_,rfl⟩;rw[n]at u;have P:(0:Int)<=(k:Int):=z;have O:(k:Int)<l.length:=z;have Q:(k:Int)<m.length:=z;have R:=G f;clear s t aH A;by_cases g:l[k]=y
    ·have aj:((l[k]:Int) !=(y:Int))=false:=by simp[g]
     have C:=G (r.out.xG au z (g.trans n.symm));clear g f aO n
     go_wp2;go_quiet (fail)
     go_wp2;all_goals first
      |(
       go_roundw
       case rel=>exact⟨k+1,z,bG,⟨_,(by first|rfl|exact World.drewN_drewN _ _ _)⟩,C.out⟩
       case measure=>simp[RowKit.intOf];omega)
      |(exfalso;simp_all)
    ·have aj:((l[k]:Int) !=(y:Int))=true:=bz;clear g f aO n
     go_wp2;go_quiet (fail)
     go_wp2;all_goals first
      |(go_ret;exact⟨rfl,_,(by first|rfl|exact World.drewN_drewN _ _ _)⟩)
      |(exfalso;simp_all)
   exact absurd (r.out.all f z) B
 ·have aO:((l.length:Int) !=(m.length:Int))=true:=bz;clear f;go_enter Q9,We
  go_wp2;all_goals(go_ret;exact⟨rfl,0,rfl⟩)
end Go.bh.N
namespace Go.bS
open Go Go.Proofs.Tryz Go.Proofs Go.RowKit Go.Lib Go.aJ
theorem anA{s:ByteArray}(H:1<=s.size)(I:s.size<=20)(h:(s.data.toList.all fun c=>Nat.ble 97 c.toNat&&Nat.ble c.toNat 122)=true):Go.bh.tv s:=⟨H,I,fun k a=>.inl (by
 have b:s[k]∈s.data.toList:=by
  rw[Ft]
  exact⟨k,Yz s k a⟩
 have:=h6.1 h _ b
 simp only[dQ,LX]at this
 omega)⟩
theorem aDm:Go.bh.tv li:=anA ak ak ak
theorem awo:Go.bh.tv k5:=anA ak ak ak
attribute [local irreducible] wpStill in
theorem aEY(w:World)(a:Option Addr)(c:Nat)(h:hc aV w a [li,k5]): χ 393 #[.slice a 2 c] w fun e w'=>oD e:=by
 obtain⟨b,o,rfl,_,i,d⟩:=h.2 ao;have bo:=d 0 ao;have c1:=d 1 ao;simp only[Bp,IA,h7]at bo c1;have f:=G fun w=>Go.bh.N.PR li w aDm;have g:=G fun w=>Go.bh.N.PR k5 w awo;have aj:(li.toList==k5.toList)=false:=fS ak;clear d h;go_enter func393,ntmps393;generalize li=x at*;generalize k5=y at*
 go_wp2;refine Bn 3 ?_;rw[py]
 go_wp2_with (go_at_call 103;refine(f.out _).mono ?_;rintro e w' ⟨rfl,rfl⟩);refine Bn 1 ?_;rw[py]
 go_wp2;rw[py]
 go_wp2_with (go_at_call 103;refine(g.out _).mono ?_;rintro e w' ⟨rfl,rfl⟩);refine Bn 2 ?_;rw[py]
 go_wp2;go_quiet (fail)
 go_wp2;rw[py]
 go_wp2;rw[py]
 go_wp2;go_ret;exact⟨rfl,LI (br _ _) _⟩
theorem aH3(w:World)(a ra:Option Addr)(c rc:Nat)(aQ:List (List bC))(h:hc aV w a [li,k5])(u:hK aV (aU aV 0) w ra aQ)(ax:aQ.length<=3)(an:∀r∈aQ,tp r): χ 296 #[.slice a 2 c,.slice ra aQ.length rc] w fun e w'=>oD e:=by
 have I:=G (aEY w a c h);have Q:=G (fun W (V:β w W)=>(hK.K (aU.mono aV 0) u V).2);have D:=G (fun i (hi:i<aQ.length)=>an _ (fP hi));have ei:¬100<(aQ.length:Int):=z;have q:=G adu;have R:=G adt;clear h u an;go_enter func296,ntmps296
 go_wp2_with (go_at_call 393;refine I.out.mono ?_;rintro e j ⟨rfl,t⟩);have J:Hid (β w j):=t;clear I t;go_loopw [6] (fun i wr=>∃k:Nat,k<=aQ.length/\i=.int .i64 k/\β j wr) (fun i _=>aQ.length-(RowKit.intOf i).toNat);case atStart=>exact⟨0,dx _,rfl,br _ _⟩
 case round=>
  obtain⟨l,rfl⟩:∃l:World,l=wr:=⟨_,rfl⟩;obtain⟨k,aa,rfl,A⟩:=hrel;by_cases au:k<aQ.length
  ·have n:β w l:=cj J.out A;obtain⟨cV,l',rfl,_,M,O⟩:=Q.out _ n z;obtain⟨dD,ep,g,o⟩:=O k au;obtain⟨s,N,lg,C,ad,Cb⟩:=D.out k au;rw[lg]at g o;obtain⟨i4,gC,rfl,_,d,m⟩:=o.2 ao;obtain⟨en,bP,km,m3,hk,jj,Nx,jk,i0,Qn,js,kc,hs⟩:=m 0 ao;obtain⟨b4,bV,y,cP,b5,gJ,nI,gK,gu,nW,gv,hE,hz⟩:=m 1 ao;obtain⟨_,Nr,Nw,Qg,Qi,dC,_⟩:=kc;obtain⟨_,SC,SG,Ve,Vi,aj,_⟩:=hE;obtain⟨fI,Y,Z,dp,ov,xO,oW⟩:=hs;obtain⟨F,H,E,B,L,K,P⟩:=hz;injection dC with dC
   injection aj with aj
   simp only[p7,Iv,Iw,Fm,Fy,Bt]at dC aj;obtain⟨rfl,rfl,rfl,rfl,rfl,⟨rfl,rfl,rfl⟩,rfl,rfl,rfl⟩:=dC;obtain⟨rfl,rfl,rfl,rfl,rfl,⟨rfl,rfl,rfl⟩,rfl,rfl,rfl⟩:=aj;have gU:(k:Int)<aQ.length:=z;have hA:(0:Int)<=(k:Int):=z;have kf:(k:Int)<=100:=z;simp only[uL,h7,Rv,l7,uJ,Nat.reduceAdd]at fI Y Z dp ov xO oW F H E B L K P g;have x:hn y ((0:Nat):Int):=⟨ao,ao,z,z,.inl rfl⟩;clear O m
   go_wp2;refine Bn 3 ?_;rw[py];have uU:=G (fun W=>q.out bP jj jk i0 js W C);have T:=G (fun W=>R.out y 0 gJ gK gu gv W x);clear q R x C Q D
   go_wp2_with (go_at_call 202;refine(uU.out _).mono ?_;rintro e X ⟨rfl,b⟩);have qf:β w X:=cj n b;have S:=az b M g;have z0:=az b d F;have cy:=az b d H;have dz:=az b d E;have z3:=az b d B;have z4:=az b d L;have z5:=az b d K;have eO:=az b d P;rw[py]
   go_wp2_with (go_at_call 202;refine(T.out _).mono ?_;rintro e U ⟨rfl,f⟩);have rE:β w U:=cj qf f;have yJ:=az f (cS b M) S;rw[py]
   go_wp2;go_roundw;case rel=>first|exact⟨k+1,z,bG,A.trans ((cj b f).mono A.size)⟩|((repeat apply Exists.intro);refine⟨?_,rfl⟩;exact⟨k+1,z,bG,A.trans ((cj b f).mono A.size)⟩)
   case measure=>simp[RowKit.intOf];omega
  ·go_wp2;go_ret;exact⟨rfl,cj J.out A⟩
theorem aHU(w:World)(a ra:Option Addr)(c rc:Nat)(aQ:List (List bC))(h:hc aV w a [li,k5])(b:hK aV (aU aV 0) w ra aQ)(j:aQ.length<=3)(an:∀r∈aQ,tp r): χ 202 #[.agg (bM 5 bO 0 0 0 a 2 c ra aQ rc)] w fun e w'=>oD e:=by
 have T:=lm w (.cells (bM 5 bO 0 0 0 a 2 c ra aQ rc) 42 (0,0)) (.cells (bM 5 bO 0 0 0 a 2 c ra aQ rc) 42 (0,0));have l:=G (aH3 _ a ra c rc aQ (h.K T.h) (hK.K (aU.mono aV 0) b T.h) j an);have k:=G fun W (d:β w W)=>(S8 1 1 W (bM 5 bO 0 0 0 a 2 c ra aQ rc) (bM 5 bO 0 0 0 a 2 c ra aQ rc) (hS aQ) (hS aQ) ⟨_,_,_,_,rfl,h.K d,hK.K (aU.mono aV 0) b d⟩ ⟨_,_,_,_,rfl,h.K d,hK.K (aU.mono aV 0) b d⟩);clear h b an;go_enter V_,ntmps202
 go_wp2_with (first|(go_at_call 296;(with_reducible refine(l.out).mono ?_);rintro e p ⟨rfl,g⟩;have f:=T.K g;obtain⟨z,u,y,B,C,D,E⟩:=eX f.p;obtain⟨fo,s,t,A,F,H,I⟩:=eX f.q;have i:=G f.h;clear f T g)|(go_at_call 53;(with_reducible refine(k.out _ i.out).mono ?_);rintro e q ⟨⟨x,rfl,o⟩,m⟩;have n:=G (cj i.out m);obtain rfl:=o (by trivial)))
 go_ret;exact⟨rfl,n.out⟩
theorem ads{n:Nat}{v:bC}(J:e0 n v)(w:World)(F:Array Value)(h:aU aV 1 w F v):χ 202 #[.agg F] w fun e w'=>oD e:=by
 cases J with
 |gM e ae H=>obtain⟨ca,cc,ra,rc,rfl,_⟩:=h;exact aHT e ca cc ra rc w ae H
 |hG s a=>obtain⟨ca,cc,ra,rc,rfl,_⟩:=h;exact adu s ca cc ra rc w a
 |gD N S a _ _=>obtain⟨ca,cc,ra,rc,rfl,_⟩:=h;exact adt N S ca cc ra rc w a
 |kq d ae H=>obtain⟨ca,cc,ra,rc,rfl,_⟩:=h;exact aqU d ca cc ra rc w ae H
 |l' b a=>obtain⟨ca,cc,ra,rc,rfl,_⟩:=h;exact aHS b ca cc ra rc w a
 |hS aQ g a=>obtain⟨ca,cc,ra,rc,rfl,c,f⟩:=h;exact aHU w ca ra cc rc aQ c f g a
theorem ajQ(n:Int)(w:World):χ 198 #[n] w fun e w'=>e=.returned (.agg (bM 0 bO 0 0 n none 0 0 none 0 0)):=by
 go_enter func198,ntmps198
 go_wp2;refine jT (by simp[results,results198,go_sem];rfl) rfl ?_;exact⟨rfl,by first|exact br _ _|exact(br _ _).alloc (aZ _) _⟩
def ahw(e:Ending):Prop:=∃n:Int,e=.returned (.int .i64 n)/\1<=n/\n<=99
theorem ajL(n:Int)(ca ra:Option Addr)(cc rc:Nat)(ae:0<=n)(H:n<=99)(w:World):χ 468 #[.agg (bM 0 bO 0 0 n ca 0 cc ra 0 rc)] w fun e w'=>ahw e:=by
 by_cases a:n=0
 ·subst a;go_enter func468,ntmps468
  go_wp2;go_ret;exact⟨⟨_,rfl,ak,ak⟩,(br _ _).alloc (aZ _) _⟩
 ·have q:(n==0)=false:=by rw[lp];exact a
  go_enter func468,ntmps468
  go_wp2;go_ret;exact⟨⟨_,rfl,z,H⟩,(br _ _).alloc (aZ _) _⟩
def avc(k a:Int)(e:Ending):Prop:=∃n:Int,e=.returned (.int .i64 n)/\0<=n/\n<=99/\(n=0->k=a)
variable{n:Nat}
theorem Sw(k N S n':Int)(s:ByteArray)(cs:List ByteArray)(aQ:List (List bC))(J:e0 n (.mk k s N S n' cs aQ))(c:Int)(H:1<=c)(w:World)(F:Array Value)(h:aU aV 1 w F (.mk k s N S n' cs aQ)):χ 465 #[.agg F,c] w fun e w'=>avc k c e:=by
 by_cases ae:k=0
 ·subst ae;cases J with
  |gM _ o m=>
   obtain⟨ca,cc,ra,rc,rfl,_⟩:=h;have A:=cW w (.cells (bM 0 bO 0 0 n' ca 0 cc ra 0 rc) 42 (0,0));have d:=G fun w=>ajL n' ca ra cc rc o m w;go_enter func465,ntmps465
   go_wp2_with (go_at_call 468;(with_reducible refine(d.out _).mono ?_);rintro e j ⟨⟨x,rfl,y,u⟩,a⟩);go_ret;exact⟨⟨_,rfl,z,u,fun h=>z⟩,((br _ _).alloc (aZ _) _).trans (a.mono ao)⟩
 ·have q:(k==0)=false:=by simpa using ae
  have f:β w (w.alloc (.cells F 42 (0,0))):=(br _ _).alloc (aZ _) _;have d:=G (ads J _ F (h.K f));obtain⟨ca,cc,ra,rc,rfl,_⟩:=h;have l:=cW w (.cells (bM k s N S n' ca cs cc ra aQ rc) 42 (0,0));have au:=i_ w (.cells (bM k s N S n' ca cs cc ra aQ rc) 42 (0,0));clear J;by_cases g:k=c
  ·subst g;go_enter func465,ntmps465
   go_wp2_with (go_at_call 202;(with_reducible refine(d.out).mono ?_);rintro e j ⟨rfl,a⟩;have r:=aK 0 ((a.block _ z).trans l));go_ret;exact⟨⟨_,rfl,ak,ak,fun _=>rfl⟩,f.trans (a.mono ao)⟩
  ·have B:(k==c)=false:=by simpa using g
   go_enter func465,ntmps465
   go_wp2_with (go_at_call 202;(with_reducible refine(d.out).mono ?_);rintro e j ⟨rfl,a⟩;have r:=aK 0 ((a.block _ z).trans l));go_ret;exact⟨⟨_,rfl,ak,ak,fun h=>by simp at h⟩,f.trans (a.mono ao)⟩
theorem Qx:(prog.info? 42).map (·.size)=some 7:=av
theorem aHM{P:Program}{fn:Func}{p q:Tmp}{ty:TypeId}(h:fn.results=#[.cell p ty,.tmp q])(tmps:Array Value)(w:World)(g:Nat)(t:TypeId)(cs:Array Value)(fr:Nat×Nat)(d:TypeDesc)(v:Value) (ag:tmps.getD p undef=.pointer (some ⟨g,0,none⟩))(a:tmps.getD q undef=v)(an:w.heap[g]? =some (.cells cs t fr)) (hu:P.underlying ty=some d)(hd:(match d with|.struct _|.array _ _=>true|_=>false)=true)(hi:(P.info? ty).map (·.size)=some cs.size): (results fn tmps).run P w=.ok (.tuple #[.agg cs,v]) w:=by
 have b:tmps[p]?.getD undef=.pointer (some ⟨g,0,none⟩):=by simpa using ag
 have c:tmps[q]?.getD undef=v:=by simpa using a
 simp[results,h,b,c,asAddr,run_loadVar_row w g t ty cs fr d an hu hd hi]
abbrev A1(w:World)(r:Nat)(u0 u1 u2 u3 u4 u5 u6:Value):World:=((((((w.setCell ⟨r,0,none⟩ u0).setCell ⟨r,1,none⟩ u1).setCell ⟨r,2,none⟩ u2).setCell ⟨r,3,none⟩ u3).setCell ⟨r,4,none⟩ u4).setCell ⟨r,5,none⟩ u5).setCell ⟨r,6,none⟩ u6
variable{w:World}{r:Nat}
theorem EE{a b c d e f g:Value}{t:TypeId}{fr:Nat×Nat}(h:w.heap[r]? =some (.cells #[a,b,c,d,e,f,g] t fr))(u0 u1 u2 u3 u4 u5 u6:Value):(A1 w r u0 u1 u2 u3 u4 u5 u6).heap[r]? =some (.cells #[u0,u1,u2,u3,u4,u5,u6] t fr):=by
 have ae:=hT (i:=0) h u0;have H:=hT (i:=1) ae u1;have I:=hT (i:=2) H u2;have k:=hT (i:=3) I u3;have j:=hT (i:=4) k u4;have l:=hT (i:=5) j u5;have m:=hT (i:=6) l u6;simpa using m
variable{W:World}
theorem iJ{B:Nat}(h:Below B w W)(a:B<=r)(u0 u1 u2 u3 u4 u5 u6:Value):Below B w (A1 W r u0 u1 u2 u3 u4 u5 u6):=by
 have ae:=h.setCell (p:=⟨r,0,none⟩) a u0;have H:=ae.setCell (p:=⟨r,1,none⟩) a u1;have I:=H.setCell (p:=⟨r,2,none⟩) a u2;have c:=I.setCell (p:=⟨r,3,none⟩) a u3;have b:=c.setCell (p:=⟨r,4,none⟩) a u4;have d:=b.setCell (p:=⟨r,5,none⟩) a u5;exact d.setCell (p:=⟨r,6,none⟩) a u6
variable{B:Nat->Prop}
theorem K6(h:eQ B w W)(a:¬B r)(u0 u1 u2 u3 u4 u5 u6:Value):eQ B w (A1 W r u0 u1 u2 u3 u4 u5 u6):=by
 have ae:=h.set a 0 u0;have H:=ae.set a 1 u1;have I:=H.set a 2 u2;have c:=I.set a 3 u3;have b:=c.set a 4 u4;have d:=b.set a 5 u5;exact d.set a 6 u6
section
variable {P:Program} (w:World)
theorem aH4(base:Nat)(t ty e:TypeId)(i:TypeInfo)(af:Value)(size bytes:Nat)(ai:P.underlying t=some (.slice e))(hi:P.info? e=some i)(q:i.zero=some af) (E:i.size=size)(C:i.bytes=bytes) (v:Value)(n:Nat)(aP:List Value)(k:w.ownsRow base e size v n aP) (a:Addr)(m c:Nat)(g8:List Value)(d:g8.length=m*size)(f:∀j u,g8[j]? =some u->w.cell? (a.add j)=some u)(H:∀u∈g8,u.oneCell'=true) (F:0<m)(D:n+m<=maxLen)(x:(n+m)*bytes<=140737488355328)(l:Value)(w':World)(b:(Builtin.append_ #[t,t] ty #[v,.slice (some a) m c]).run P w=.ok l w'): l.ownBlock=v.ownBlock∨l.ownBlock=some w:=by
 subst E;subst C;have I:n+m<=9223372036854775807:=by simp only[maxLen]at D;omega
 rcases k.2 with⟨rfl,rfl⟩|⟨g,cap,s,rfl,J,an,K,G,B,L⟩
 ·rw[run_append_nil (P:=P) w t ty e i af ai hi q a m c g8 d f F z (by have A:=x;simp only[gP]at A;omega)]at b;injection b with aj r
  exact .inr (by rw[←aj];rfl)
 ·by_cases o:n+m<=cap
  ·have y:n*i.size+g8.length<=s.size:=by rw[d,B,←x0];exact qR _ o
   rw[run_append_room (P:=P) w t ty e i ai hi g n cap s an a m c g8 d f H o y]at b;injection b with aj r
   exact .inl (by rw[←aj];rfl)
  ·have holds:∀j u,aP[j]? =some u->w.cell? ((⟨g,0,none⟩:Addr).add j)=some u:=k.cells (g:=g) rfl;rw[run_append_grow (P:=P) w t ty e i af ai hi q ⟨g,0,none⟩ n cap aP k.1 holds a m c g8 d f z z (growslice_fits z x)]at b;injection b with aj r
   exact .inr (by rw[←aj];rfl)
variable {w}
theorem aLJ{ops:Array Oper}{rest:List Oper}{o:Oper}{a:Act}{dY:Exit->Act->World->Prop}(L:o.guard=none)(s x:Operand)(t:TypeId)
  (E:o.op=.call {callee:=.builtin .append,args:=#[s,x],argTypes:=#[t,t]})
  (base:Nat)(e:TypeId)(i:TypeInfo)(af:Value)(size bytes:Nat)(ai:P.underlying t=some (.slice e))(hi:P.info? e=some i)(g:i.zero=some af)
  (y:i.size=size)(p:i.bytes=bytes)(J:af.cells.size=size)(G:0<size)
  (v:Value)(n:Nat)(aP:List Value)(A:a.eval s=v)(l:w.ownsRow base e size v n aP)
  (ad:Addr)(m c:Nat)(g8:List Value)(z:a.eval x=.slice (some ad) m c)(f:g8.length=m*size)(d:∀j u,g8[j]? =some u->w.cell? (ad.add j)=some u)(H:∀u∈g8,u.oneCell'=true)
  (M:0<m)(r:n+m<=maxLen)(q:(n+m)*bytes<=140737488355328)(K:base<=w.heap.size)
  (h:∀b w',w'.ownsRow base e size b (n+m) (aP++g8)->w.grownBy w' v.ownBlock->b≠ .slice none 0 0->(b.ownBlock=v.ownBlock∨b.ownBlock=some w.heap.size)->wpList P ops dY rest (a.put o.dst b) w'):wpList P ops dY (o::rest) a w:=
 ae9 L fun _ F=>by
  obtain⟨b,w',k,I,C,B⟩:=run_append_own (P:=P) w base t o.type e i af size bytes ai hi g y p J G v n aP l ad m c g8 f d H r q K
  have D:=aH4 (P:=P) w base t o.type e i af size bytes ai hi g y p v n aP l ad m c g8 f d H M r q b w' k
  unfold Oper.wp execOp
  simp only[E,resolve,invoke,builtin,eZ,fJ,eW,Wv,qO,ID,A,z,k]
  exact F _ _ (h b w' I C (fun e=>by have:=(B.1 e).2;omega) D)
end
theorem abQ:(prog.info? 42).map (fun i=>(i.zero,i.size,i.bytes))=some (some (.agg #[.int .i64 0,.string ⟨#[]⟩,.int .i64 0,.int .i64 0,.int .i64 0,.slice none 0 0,.slice none 0 0]),7,96):=av
def jh(base:Nat)(v:Value):Nat->Prop:=fun b=>base<=b/\some b≠v.ownBlock
structure kQ (base d:Nat) (w:World) (v:Value) (l:List bC):Prop where
 o:∃e6:List (Array Value),e6.length=l.length/\w.ownsRow base 42 7 v l.length (e6.flatMap Array.toList)/\∀j (H:j<e6.length) (I:j<l.length),aU (jh base v) d w e6[j] l[j]
theorem kQ.nil(base d:Nat)(w:World):kQ base d w (.slice none 0 0) []:=⟨[],rfl,mT _ _ _ _,fun j H=>by cases H⟩
variable{base d:Nat}{v:Value}
theorem kQ.gX{l:List bC}(h:kQ base d w v l):∃a c,v=.slice a l c:=by
 exact UI
theorem bF{b:Nat}{o:Obj}(h:w.heap[b]? =some o):b<w.heap.size:=(g6.1 h).1
variable{w':World}
theorem xA{e:TypeId}{size:Nat}{aP:List Value}(h:w.ownsRow base e size v n aP)(d:eQ (fa base) w w'):w'.ownsRow base e size v n aP:=by
 obtain⟨f,a⟩:=h;refine⟨f,?_⟩;rcases a with a|⟨g,cap,j,aj,b,c,i⟩
 exact .inl a;exact .inr ⟨g,cap,j,aj,b,by rw[d.2 g b (bF c)];exact c,i⟩
theorem eQ.zq{a:Nat->Prop}(h:eQ B w w')(c:∀b,a b->B b):eQ a w w':=⟨h.1,fun b A=>h.2 b (c b A)⟩
theorem kQ.ex{l:List bC}(h:kQ base d w v l)(L:eQ (fa base) w w'):kQ base d w' v l:=by
 exact aoM
theorem kQ.K{l:List bC}(h:kQ base d w v l)(A:β w w'):kQ base d w' v l:=h.ex (.hP A)
theorem Lr{ops:Array Oper}{rest:List Oper}{o:Oper}{a:Act}{dY:Exit->Act->World->Prop}(Z:o.guard=none)(s x:Operand) (O:o.op=.call {callee:=.builtin .append,args:=#[s,x],argTypes:=#[36,36]}) {w:World}{base d:Nat}{v:Value}{l:List bC}{k N S n:Int}{t:ByteArray}{ca:Option Addr}{cl cc:Nat}{ra:Option Addr}{rl rc:Nat}{y:bC} (E:a.eval s=v)(T:kQ base d w v l)(D:a.eval x=.slice (some ⟨w.heap.size,0,none⟩) 1 1)(U:aU (jh base v) d w (bM k t N S n ca cl cc ra rl rc) y)(ab:l.length<=100)(V:base<=w.heap.size) (h:∀c w',kQ base d w' c (l++[y])->(w.alloc (.cells (bM k t N S n ca cl cc ra rl rc) 42)).grownBy w' v.ownBlock->Below base w w'->wpList prog ops dY rest (a.put o.dst c) w'): wpList prog ops dY (o::rest) a (w.alloc (.cells (bM k t N S n ca cl cc ra rl rc) 42)):=by
 obtain⟨i,hi,Y,W,X⟩:=im abQ;obtain⟨m,H,I,L⟩:=T.o;refine aLJ Z s x 36 O base 42 i _ 7 96 underlying36 hi Y W X rfl ak v l.length (m.flatMap Array.toList) E (xA I ((eQ.refl _ w).alloc _)) ⟨w.heap.size,0,none⟩ 1 1 (bM k t N S n ca cl cc ra rl rc).toList D rfl (rA (px w _)) (by simp[Value.oneCell']) ak (by unfold maxLen;omega) z bz fun c w' K g bx f=>h c w' ?_ g ?_
 ·have C:eQ (jh base v) w w':=⟨by have:=g.size;simp at this;omega,fun b A au=>by
   rw[g.block b bz A.2]
   exact CU w _ b au⟩
  have B:∀F u,aU (jh base v) d w F u->aU (jh base c) d w' F u:=fun F u Q=>by
   have au:aU (fun b=>jh base v b/\b<w.heap.size) d w F u:=aU.lt Q;refine(aU.low ?_ (au.ex (C.zq fun b A=>A.1)):aU (jh base c) d w' F u);rintro b ⟨⟨R,M⟩,cw⟩;refine⟨R,fun e=>?_⟩;rcases f with f|f
   ·exact M (e.trans f)
   ·rw[f]at e;simp at e;omega
  refine⟨m++[bM k t N S n ca cl cc ra rl rc],by simp[H],?_,fun j a b=>?_⟩
  ·simpa using K
  ·by_cases r:j<m.length
   ·have q:j<l.length:=z;rw[xW r,xW q];exact B _ _ (L j r q)
   ·have q:¬j<l.length:=z;rw[xX z,xX z];simp only[LP];exact B _ _ U
 ·exact((br base w).alloc V _).grown g bz (fun b A=>by
   rcases I.2 with⟨J,_⟩|⟨pL,cap,ck,aj,G,bq,cI⟩
   ·subst J;simp[Value.ownBlock]at A
   ·subst aj;simp[Value.ownBlock]at A;subst A;exact G)
theorem ajX:∀(a:List (Array Value)) (_:∀F∈a,F.size=7) (j:Nat) (b:j<a) (i:Nat) (_:i<7),(a.flatMap Array.toList)[j*7+i]? =a[j][i]?
 |F::a,h,0,_,i,hi=>by
  have c:=h F ao
  rw[Bo,CX (by rw[jC];omega)]
  simp
 |F::a,h,j+1,b,i,hi=>by
  have c:=h F ao
  rw[Bo,Fs (by rw[jC];omega),jC,c]
  rw[show(j+1)*7+i-7=j*7+i by omega]
  exact ajX a (fun d e=>h d (jD _ e)) j (by simpa using b) i hi
theorem kQ.Qu{l:List bC}(h:kQ base d w v l)(C:l.length<=8):∃a c,v=.slice a l c/\cz (fa base) (aU (fa base) d) w a l:=by
 obtain⟨m,H,I,q⟩:=h.o;obtain⟨a,c,rfl⟩:=h.gX;refine⟨a,c,rfl,C,fun ae=>?_⟩;have B:∀F∈m,F.size=7:=fun F f=>by obtain⟨j,o,e⟩:=IF.1 f;have J:=q j o z;rw[e]at J;generalize l[j]'z=u at J;obtain⟨k,s,N,S,n,cs,aQ⟩:=u;obtain⟨_,_,_,_,rfl,_⟩:=J.gX;rfl
 have D:=I;rcases I.2 with⟨E,x⟩|⟨g,cap,K,aj,t,y,G,L,M,O⟩
 exact absurd x z
 ·injection aj with r _ _
  refine⟨g,0,r,t,bF y,fun j o=>?_⟩;have J:=q j z o;have f:∀i u,i<7->(m[j]'z)[i]? =some u->w.cell? ⟨g,0+j*7+i,none⟩=some u:=fun i u hi hu=>by have:=D.cells (g:=g) (by rw[r];rfl) (j*7+i) u (by rw[ajX m B j z i hi];exact hu);rw[Fl]at this;simpa[kN]using this
  generalize m[j]'z=F at J f;generalize l[j]=u at J;obtain⟨k,s,N,S,n,cs,aQ⟩:=u;obtain⟨ca,cc,ra,rc,rfl,_⟩:=J.gX;exact⟨k,s,N,S,n,ca,cs.length,cc,ra,aQ.length,rc,J.low fun b A=>A.1,f 0 _ z rfl,f 1 _ z rfl,f 2 _ z rfl,f 3 _ z rfl,f 4 _ z rfl,f 5 _ z rfl,f 6 _ z rfl⟩
theorem kQ.lt{l:List bC}(h:kQ base d w v l):∀g,v.ownBlock=some g->base<=g/\g<w.heap.size:=by
 exact anI
theorem kQ.p1{a:Nat}{l:List bC}(h:kQ base d w v l){F:Array Value}{u:bC}(f:w.heap.size<=n)(A:base<=n)(J:aU (fa n) a w' F u):aU (jh base v) a w' F u:=
 J.low fun b c=>⟨cO A c,fun e=>by have:=(h.lt b e.symm).2;have:n<=b:=c;omega⟩
def uZ(d base:Nat)(v:bC)(e:Ending)(w':World):Prop:=∃F,e=.returned (.agg F)/\aU (fa base) d w' F v
def WQ(P:World->Array Value->bC->Prop)(d:Nat):Prop:=∀(w:World) (F:Array Value) (v:bC),P w F v->
 χ 466 #[.agg F] w (uZ d w.heap.size v)
def XW(d base:Nat)(l:List bC)(e:Ending)(w':World):Prop:=∃a c,e=.returned (.slice a l.length c)/\cz (fa base) (aU (fa base) d) w' a l
theorem aiY{P:World->Array Value->bC->Prop}{d:Nat}(B:ye aV P)(u:WQ P d)(w:World)(a:Option Addr)(c:Nat)(l:List bC)(h:cz aV P w a l): χ 513 #[.slice a l.length c] w (XW d w l):=by
 have Y:=G (fun W (N:β w W)=>(cz.K B h N).2);have Z:=G u;have U:=h.1;clear h u;go_enter func513,ntmps513
 go_wp2;go_loopw [3,4] (fun s i wr=>∃(k:Nat),k<=l.length/\i=.int .i64 k/\kQ w d wr s (l.take k)/\β w wr) (fun _ i _=>l.length-(RowKit.intOf i).toNat);case atStart=>exact⟨0,dx _,rfl,kQ.nil _ _ _,br _ _⟩
 case round=>
  obtain⟨k,C,rfl,b,A⟩:=hrel;by_cases au:k<l.length
  ·obtain⟨dR,eM,rfl,_,jl,q⟩:=Y.out _ A z;obtain⟨b4,bV,b1,cP,b5,gJ,nI,gK,gu,nW,gv,ag,M⟩:=q k au;obtain⟨eN,dv,dy,gj,hF,hQ,i8⟩:=M;have X:=G (Z.out _ _ _ ag);have hA:(0:Int)<=(k:Int):=z;have gU:(k:Int)<l.length:=z;have r:l.take (k+1)=l.take k++[l[k]]:=(p9 au);have S:=G r;have r1:(l.take k).length<=100:=by rw[nu];omega
   have g:=G b;clear q ag b r;generalize l[k]=x at*;obtain⟨I,aP,D,E,K,H,L⟩:=x;obtain⟨va,Q,t⟩:=g.out.gX;rw[nu,WB C]at t;subst t;have R:=A.size
   go_wp2_with (first
    |(go_at_call 466;refine X.out.mono ?_;rintro e bn ⟨⟨F,rfl,J⟩,f⟩;obtain⟨iE,iS,kJ,kh,rfl,_⟩:=J.gX;have V:=G J;have aa:=f.size;clear J)
    |(at_builtin;refine Lr rfl _ _ rfl (base:=w.heap.size) (d:=d) (l:=l.take k) (y:=.mk I aP D E K H L) (v:=.slice va k Q) rfl (g.out.K f) rfl (g.out.p1 (aZ _) R V.out) r1 z ?_;intro v5 a_ m _ n;have j:=G m;have o:=G ((cj A f).trans n);clear m n))
   rw[←S.out]at j;go_roundw;case rel=>first|exact⟨k+1,z,bG,j.out,o.out⟩|((repeat apply Exists.intro);refine⟨?_,rfl⟩;exact⟨k+1,z,bG,j.out,o.out⟩)
   case measure=>simp[RowKit.intOf];omega
  ·obtain rfl:k=l.length:=z;rw[tk]at b;obtain⟨a',T,rfl,O⟩:=b.Qu U
   go_wp2;go_ret;exact⟨⟨a',T,rfl,O⟩,A⟩
end Go.bS
namespace Go.bh.N
open Go Go.Proofs.Tryz Go.Proofs Go.RowKit Go.da
variable{w:World}{ca:Option Addr}{cs:List (ByteArray×Nat)}
theorem _root_.Go.da.jd.bw(h:jd w ca cs)(g:cs.length<=8)(f:∀c∈cs,c.1.size<=maxLen):RE w ca cs:=
 ⟨z,fun _=>by
  obtain⟨b,o,arr,bb,e,a,d⟩:=h
  exact⟨b,o,e,c8 a,fun i hi=>⟨_,_,f _ (fP hi),by simp only[World.cell?,a];exact(d i hi).1,by simp only[World.cell?,a];exact(d i hi).2⟩⟩⟩
variable{M:Nat->Nat}
theorem _root_.Go.da.sA.aD(h:sA w ca cs M)(j:cs.length<=12)(f:∀c∈cs,c.1.size<=maxLen)(g:∀i,1<=M i/\M i<=5):Sn w ca cs:=
 ⟨z,fun _=>by
  obtain⟨b,o,e,d,a⟩:=h
  exact⟨b,o,e,d,fun i hi=>⟨_,_,_,f _ (fP hi),(a i hi).1,(a i hi).2.1,(a i hi).2.2,z,by have:=(g i).2;omega⟩⟩⟩
structure nA (w:World) (base:Nat) (v:Value) (k:Nat) (b2 M:Nat->Nat) (bI:Nat->Nat->Nat):Prop where
 row:w.ownsRow base 102 1 v k ((List.range k).map fun s=>.slice (some ⟨b2 s,0,none⟩) (M s+1) (M s+1))
 s':∀s,s<k->base<=b2 s/\j2 w (b2 s) (M s+1) (bI s)
 inj:∀s t,s<k->t<k->s≠t->b2 s≠b2 t
variable{w':World}{base size n:Nat}{e:TypeId}{v:Value}{aP:List Value}
theorem EB(h:w.ownsRow base e size v n aP)(A:β w w'):w'.ownsRow base e size v n aP:=by
 exact acy
theorem U9{t:TypeId}(h:w.ownsRow base e size v n aP){b:Nat}{cs:Array Value}{fr:Nat×Nat}(A:w.heap[b]? =some (.cells cs t fr))(ai:t≠e):some b≠v.ownBlock:=by
 exact anV
variable{k:Nat}{b2:Nat->Nat}{bI:Nat->Nat->Nat}
theorem nA.K(h:nA w base v k b2 M bI)(A:β w w'):nA w' base v k b2 M bI:=
 ⟨EB h.row A,fun s a=>⟨(h.s' s a).1,(h.s' s a).2.K (h.s' s a).2.1 A⟩,h.inj⟩
variable{b:Nat->Nat->Nat}
theorem nA.mono(h:nA w base v k b2 M bI)(hu:∀s i,s<k->i<M s+1->bI s i<=b s i):nA w base v k b2 M b:=
 ⟨h.row,fun s a=>⟨(h.s' s a).1,(h.s' s a).2.mono fun i hi=>hu s i a hi⟩,h.inj⟩
theorem nA.gX(h:nA w base v k b2 M bI)(ae:0<k):∃g cap,v=.slice (some ⟨g,0,none⟩) k cap/\base<=g/\g<w.heap.size/\∀s,s<k->w.cell? ⟨g,s,none⟩=some (.slice (some ⟨b2 s,0,none⟩) (M s+1) (M s+1)):=by
 obtain⟨⟨f,a⟩,_,_⟩:=h;rcases a with⟨a,i⟩|⟨g,cap,d,aj,c,bq,j,l,m,e⟩
 omega
 ·refine⟨g,cap,aj,c,c8 bq,fun s b=>?_⟩;have:(d.toList.take (k*1))[s]? =some (Value.slice (some ⟨b2 s,0,none⟩) (M s+1) (M s+1)):=by rw[e];simp[b]
  exact an'
theorem nA.set(h:nA w base v k b2 M bI)(hu:∀s i,s<k->i<M s+1->bI s i<=b s i){s j m:Nat}{t:ByteArray}(c:s<k)(f:j<M s+1)(ai:BG t m)(n:m<=b s j):nA (w.setCell ⟨b2 s,j,none⟩ (.string t)) base v k b2 M b:=by
 obtain⟨_,cs,r,_⟩:=(h.s' s c).2;have bT:=U9 h.row r ak;refine⟨⟨h.row.1,?_⟩,fun q a=>⟨(h.s' q a).1,?_⟩,h.inj⟩;rcases h.row.2 with d|⟨g,cap,ck,aj,aF,bq,cI⟩;exact .inl d;exact aoT
 by_cases e:q=s;subst e;exact((h.s' q a).2.mono fun i hi=>hu q i a hi).set f ai n;have H:=((h.s' q a).2.mono fun i hi=>hu q i a hi);obtain⟨ae,o,I,l⟩:=H;exact⟨by simpa using ae,o,by rw[g_ _ _ _ _ (h.inj q s a c e)];exact I,l⟩
theorem j2.asD(w:World)(n:Nat)(bI:Nat->Nat):j2 (w.alloc (.cells (Array.replicate n (.string ⟨#[]⟩)) 101)) w n bI:=
 ⟨ao,Array.replicate n (.string ⟨#[]⟩),cW w _,ao,fun i hi=>⟨⟨#[]⟩,0,by simp[hi],⟨rfl,ak,fun _=>rfl⟩,dx _⟩⟩
theorem nA.next{a:World}{i:Value}(h:nA w base v k b2 M bI)(A:base<=w.heap.size){o:Obj} (m:a.ownsRow base 102 1 i (k+1) (((List.range k).map fun s=>Value.slice (some ⟨b2 s,0,none⟩) (M s+1) (M s+1))++[.slice (some ⟨w,0,none⟩) (M k+1) (M k+1)])) (an:((w.alloc (.cells (Array.replicate (M k+1) (.string ⟨#[]⟩)) 101)).alloc o).grownBy a v.ownBlock):nA a base i (k+1) (fun s=>if s=k then w.heap.size else b2 s) M bI:=by
 have f:β w ((w.alloc (.cells (Array.replicate (M k+1) (.string ⟨#[]⟩)) 101)).alloc o):=((br _ _).alloc (aZ _) _).alloc ao _;have hN:∀(b:Nat) (cs:Array Value) (fr:Nat×Nat),((w.alloc (.cells (Array.replicate (M k+1) (.string ⟨#[]⟩)) 101)).alloc o).heap[b]? =some (Obj.cells cs 101 fr)->a.heap[b]? =some (Obj.cells cs 101 fr):=fun b cs fr c=>by have:=U9 (EB h.row f) c ak;rw[an.block b (c8 c) this];exact c
 refine⟨?_,fun s Y=>?_,fun s t Y ai l=>?_⟩
 ·rw[LV,xY];have aj:(List.range k).map (fun s=>Value.slice (some ⟨if s=k then w.heap.size else b2 s,0,none⟩) (M s+1) (M s+1))=(List.range k).map (fun s=>Value.slice (some ⟨b2 s,0,none⟩) (M s+1) (M s+1)):=by exact aog
  rw[aj];simpa using m
 by_cases e:s=k;subst e;rw[co rfl];refine⟨A,?_⟩;obtain⟨ae,cs,H,I⟩:=(j2.asD w (M s+1) (bI s)).K (B:=w.heap.size+1) z (w':=(w.alloc (.cells (Array.replicate (M s+1) (.string ⟨#[]⟩)) 101)).alloc o) ((br _ _).alloc ao _);exact⟨iK ae an.size,cs,hN _ _ _ H,I⟩;rw[bs e];obtain⟨j,d⟩:=h.s' s z;obtain⟨ae,cs,H,I⟩:=d.K d.1 f;exact⟨j,iK ae an.size,cs,hN _ _ _ H,I⟩;have lt:∀s,s<k->b2 s<w.heap.size:=fun s Y=>(h.s' s Y).2.1;by_cases e:s=k;rw[co e,bs z];have:=lt t z;omega;rw[bs e];by_cases g:t=k;rw[co g];have:=lt s z;omega;rw[bs g];exact h.inj s t z z l
theorem aCK:(prog.info? 102).map (fun i=>(i.zero,i.size,i.bytes))=some (some (.slice none 0 0),1,24):=av
theorem aEF(m:Nat)(H:1<=m)(a:m<=5):∀(w:World),(Instr.makeSlice 102 (.int .i64 ((m:Int)+1)) (.int .i64 ((m:Int)+1))).run prog w=.ok (.slice (some ⟨w,0,none⟩) (m+1) (m+1)) (w.alloc (.cells (Array.replicate (m+1) (.string ⟨#[]⟩)) 101)):=by
 have:m=1∨m=2∨m=3∨m=4∨m=5:=z;rcases this with rfl|rfl|rfl|rfl|rfl
 all_goals(intro w;kernel_rfl)
end Go.bh.N
