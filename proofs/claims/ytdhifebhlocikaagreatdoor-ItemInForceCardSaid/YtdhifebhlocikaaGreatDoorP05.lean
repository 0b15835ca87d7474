/- ItemInForce, one part of the proof. -/
import Derived.Test.YtdhifebhlocikaaGreatDoorP04
set_option linter.all false
set_option maxRecDepth 100000
set_option maxHeartbeats 16000000
namespace Go.bE
open Go Go.Proofs.Tryz Go.Proofs Go.RowKit Go.Lib Go.aM
def aR.mono(B:Nat->Prop)(d:Nat):qF B (aR B d):=λ_ _ _ _ h G=>h.eB G
def Zb:∀(d b:Nat),LB (aR aD d) (aR aD b):=by
 have E:∀P,LB (λ_ _ _=>False) P:=λP w F z v u h=>h.elim;have G:∀P,LB P (λ_ _ _=>False):=λP w F z v u _ h=>h.elim;have B:qF aD (λ_ _ _=>False):=λ_ _ _ _ h=>h.elim;have C:∀w a,fz aD (λ_ _ _=>False) w a []:=λw a=>⟨aq,λaf=>absurd af aq⟩;intro d;induction d with
 |zero=>intro b w F z v u h g;let⟨k,s,N,S,n,cs,aG⟩:=v;let⟨q,r,x,y,n',t,m⟩:=u;obtain⟨rfl,ca,cc,ra,rc,rfl,o⟩:=h;obtain⟨i,j,c,e,rfl,l,A⟩:=g.gX;exact Zc w k N S n q x y n' s r ca ra i c cc rc j e cs t [] m o l (λW f=>Vm B (aR.mono aD (b-1)) (E _) W ra c rc e [] m (C _ _) (fz.K (aR.mono aD _) A f))
 |succ d H=>
  intro b w F z v u h g;let⟨k,s,N,S,n,cs,aG⟩:=v;let⟨q,r,x,y,n',t,m⟩:=u;obtain⟨ca,cc,ra,rc,rfl,o,D⟩:=h.gX;cases b with
  |zero=>obtain⟨rfl,i,j,c,e,rfl,l⟩:=g;exact Zc w k N S n q x y n' s r ca ra i c cc rc j e cs t aG [] o l (λW f=>Vm (aR.mono aD d) B (G _) W ra c rc e aG [] (fz.K (aR.mono aD _) D f) (C _ _))
  |succ b=>obtain⟨i,j,c,e,rfl,l,A⟩:=g.gX;exact Zc w k N S n q x y n' s r ca ra i c cc rc j e cs t aG m o l (λW f=>Vm (aR.mono aD d) (aR.mono aD b) (H b) W ra c rc e aG m (fz.K (aR.mono aD _) D f) (fz.K (aR.mono aD _) A f))
abbrev uk(d:Nat):=cm aD (aR aD d)
def arJ(d f:Nat)(w:Γ)(a b:Θ)(c e:Nat)(l m:List bs)(h:uk d w a l)(g:uk f w b m):
  χ 32 #[.slice a l c,.slice b m e] w λe w'=>p7 (λr=>r=true↔l=m) e:=
 arK (aR.mono aD d) (aR.mono aD f) (Zb d f) w a b c e l m h g
def Za(d b:Nat)(w:Γ)(F a:Ω)(v u:bs)(h:aR aD d w F v)(g:aR aD b w a u):χ 66 #[.agg F,.agg a] w λe w'=>p7 (λr=>v=u->r=true) e:=
 (Zb d b w F a v u h g).mono λe w' ⟨⟨r,H,I⟩,G⟩=>⟨⟨r,H,I.2⟩,G⟩
def aII(d f:Nat)(w:Γ)(a b:Θ)(c e:Nat)(l m:List bs)(h:uk d w a l)(g:uk f w b m):
  χ 32 #[.slice a l c,.slice b m e] w λe w'=>p7 (λr=>l=m->r=true) e:=
 (arJ d f w a b c e l m h g).mono λe w' ⟨⟨r,H,I⟩,G⟩=>⟨⟨r,H,I.2⟩,G⟩
def kC(s:Ψ):Prop:=s.size<=200/\∀k (a:k<s.size),32<=(s[k].toNat:Int)/\(s[k].toNat:Int)<=126
abbrev bX:Ψ:=⟨#[]⟩
abbrev gY(n:Int):bs:=.mk 0 bX 0 0 n [] []
abbrev hX(s:Ψ):bs:=.mk 1 s 0 0 0 [] []
abbrev gR(N S:Int):bs:=.mk 2 bX N S 0 [] []
abbrev kD(n:Int):bs:=.mk 3 bX 0 0 n [] []
abbrev lX(n:Int):bs:=.mk 4 bX 0 0 n [] []
def lM:Ψ:=⟨#[107,105,110,100]⟩
def lv:Ψ:=⟨#[97,109,111,117,110,116]⟩
abbrev jl(aG:List (List bs)):bs:=.mk 5 bX 0 0 0 [lM,lv] aG
def t_(r:List bs):Prop:=∃s N,r=[hX s,gR N 0]/\kC s/\ -10<=N/\N<=10
inductive e9 (n:Nat):bs->Prop
 |gY (e:Int) (af:0<=e) (H:e<=99):e9 n (gY e)
 |hX (s:ByteArray) (h:kC s):e9 n (hX s)
 |gR (N:Int) (S:Nat) (h:hC N S) (dX:N.natAbs<=10^(2*n+1)) (bt:2*S<=n+1):e9 n (gR N S)
 |kD (d:Int) (af:0<=d) (H:d<=3652058):e9 n (kD d)
 |lX (b:Int) (h:b=0∨b=1):e9 n (lX b)
 |jl (aG:List (List bs)) (ah:aG.length<=3) (h:∀r∈aG,t_ r):e9 n (jl aG)
def oW(e:Ending):Prop:=e=.returned (.bool true)
def aHg(s:Ψ)(w:Γ)(h:kC s):Calls prog 302 #[s] w λe w'=>oW e/\w=w':=by
 have ay:=A h.2;have f:(s.size:Int)<=200:=by have:=h.1;omega
 clear h;go_enter func302,ntmps302;go_wp2;go_loop [3] (λi=>∃k:Nat,k<=s.size/\i=.int .i64 k) (λi=>s.size-(RowKit.intOf i).toNat);case atStart=>exact⟨0,dh _,rfl⟩
 case round=>
  obtain⟨k,d,rfl⟩:=hrel;by_cases au:k<s.size
  .obtain⟨a,b⟩:=ay.out k au;have c:(k:Int)<s.size:=z;have c1:¬(s[k].toNat:Int)<32:=z;have c2:¬126<(s[k].toNat:Int):=z
   go_wp2;all_goals first
    |(
     go_round
     case rel=>exact⟨k+1,z,bz⟩
     case measure=>simp[RowKit.intOf];omega)
    |(exfalso;omega)
  .have c:¬(k:Int)<s.size:=z;go_wp2;exact Pn
def Ji(k:Int)(s:Ψ)(N S n:Int)(ca ra a b:Θ)(cc rc d c:Nat)(w:Γ):χ 66 #[.agg (bC k s N S n ca 0 cc ra 0 rc),.agg (bC k s N S n a 0 d b 0 c)] w λe w'=>oW e:=
 (Za 0 0 w _ _ _ _ (aR.jb aD 0 w k s N S n ca cc ra rc) (aR.jb aD 0 w k s N S n a d b c)).mono λe w' ⟨⟨r,H,I⟩,G⟩=>⟨by rw[H,I rfl];rfl,G⟩
def aIm(n:Int)(ca:Θ)(cc:Nat)(ra:Θ)(rc:Nat)(w:Γ)(af:0<=n)(H:n<=99):χ 211 #[.agg (bC 0 bX 0 0 n ca 0 cc ra 0 rc)] w λe w'=>oW e:=by have bP:=A λw=>Ji 0 bX 0 0 n ca ra none none cc rc 0 0 w;have T:=k0 w (.cells (bC 0 bX 0 0 n ca 0 cc ra 0 rc) 44 (0,0)) (.cells (bC 0 bX 0 0 n none 0 0 none 0 0) 44 (0,0));exact acf
def ac7(s:Ψ)(ca:Θ)(cc:Nat)(ra:Θ)(rc:Nat)(w:Γ)(h:kC s):χ 211 #[.agg (bC 1 s 0 0 0 ca 0 cc ra 0 rc)] w λe w'=>oW e:=by have b:=A λw=>aHg s w h;have a:=A λw=>Ji 1 s 0 0 0 ca ra none none cc rc 0 0 w;have T:=k0 w (.cells (bC 1 s 0 0 0 ca 0 cc ra 0 rc) 44 (0,0)) (.cells (bC 1 s 0 0 0 none 0 0 none 0 0) 44 (0,0));go_enter VX,ntmps211;go_wp2_with (first|(go_at_call 302;(with_reducible refine(b.out _).mono ?_);rintro e f ⟨rfl,rfl⟩)|(go_at_call 66;(with_reducible refine(a.out _).mono ?_);rintro e g ⟨rfl,c⟩;have d:=A (b3 T.h c)));go_ret;exact⟨rfl,d⟩
def ari(n:Int)(ca:Θ)(cc:Nat)(ra:Θ)(rc:Nat)(w:Γ)(af:0<=n)(H:n<=3652058):χ 211 #[.agg (bC 3 bX 0 0 n ca 0 cc ra 0 rc)] w λe w'=>oW e:=by have bP:=A λw=>Ji 3 bX 0 0 n ca ra none none cc rc 0 0 w;have T:=k0 w (.cells (bC 3 bX 0 0 n ca 0 cc ra 0 rc) 44 (0,0)) (.cells (bC 3 bX 0 0 n none 0 0 none 0 0) 44 (0,0));exact acf
def aIl(n:Int)(ca:Θ)(cc:Nat)(ra:Θ)(rc:Nat)(w:Γ)(h:n=0∨n=1):χ 211 #[.agg (bC 4 bX 0 0 n ca 0 cc ra 0 rc)] w λe w'=>oW e:=by
 have bP:=A λw=>Ji 4 bX 0 0 n ca ra none none cc rc 0 0 w;have T:=k0 w (.cells (bC 4 bX 0 0 n ca 0 cc ra 0 rc) 44 (0,0)) (.cells (bC 4 bX 0 0 n none 0 0 none 0 0) 44 (0,0));rcases h with rfl|rfl<;>
 exact acf
def ac6(N:Int)(S:Nat)(ca:Θ)(cc:Nat)(ra:Θ)(rc:Nat)(w:Γ)(h:hC N S):χ 211 #[.agg (bC 2 bX N S 0 ca 0 cc ra 0 rc)] w λe w'=>oW e:=by have d:=A λw=>are N S w h;have c:=A λw=>Ji 2 bX N S 0 ca ra none none cc rc 0 0 w;have T:=k0 w (.cells (bC 2 bX N S 0 ca 0 cc ra 0 rc) 44 (0,0)) (.cells (bC 2 bX N S 0 none 0 0 none 0 0) 44 (0,0));clear h;go_enter VX,ntmps211;go_wp2_with (first|(go_at_call 303;(with_reducible refine(d.out _).mono ?_);rintro e j ⟨rfl,b⟩;have a:=T.K b;let⟨p,n,o,r,t,s,u⟩:=eU a.p;let⟨fi,l,m,q,x,z,y⟩:=eU a.q;have g:=A a.h;clear a T b)|(go_at_call 66;(with_reducible refine(c.out _).mono ?_);rintro e k ⟨rfl,f⟩;have i:=A (b3 g f)));go_ret;exact⟨rfl,i⟩
def LF(e:Ending):Prop:=∃r:Bool,e=.returned (.bool r)
def zn(c:Nat):Int:=if c<32∨126<c then 0 else if 48<=c/\c<=57 then 1 else if 65<=c/\c<=90 then 2 else if 97<=c/\c<=122 then 3 else if c=32 then 5 else 6
def axL(c:Nat)(a:c<256)(w:Γ):Calls prog 470 #[.int .u8 (c:Int)] w λe w'=>e=.returned (.int .i64 (zn c))/\w'=w:=by go_enter func470,ntmps470;go_wp2;all_goals(go_ret;refine⟨?_,rfl⟩;refine iY (λx=>Ending.returned (Value.int .i64 x)) ?_;unfold zn;(repeat' split)<;>first|rfl|(exfalso;omega)|(exfalso;simp at*;omega))
def Fx(c:Nat)(cl:Int):Bool:=if zn c=0 then false else decide (zn c=cl∨cl=7)
def ax1(k:Int)(cl:Int)(a:cl=1∨cl=2∨cl=7)(w:Γ):Calls prog 516 #[k,cl] w λe w'=>e=.returned (.bool (decide (k=cl∨cl=7)))/\w'=w:=by
 by_cases h:k=cl
 .subst h;go_enter func516,ntmps516;go_wp2;go_ret;exact⟨aq,rfl⟩
 .have e:(k==cl)=false:=by simpa using h
  rcases a with rfl|rfl|rfl;exact api;exact api
  .go_enter func516,ntmps516;go_wp2;go_ret;exact⟨aq,rfl⟩
def aiq(c:Nat)(f:c<256)(cl:Int)(d:cl=1∨cl=2∨cl=7)(w:Γ):Calls prog 464 #[.int .u8 (c:Int),cl] w λe w'=>e=.returned (.bool (Fx c cl))/\w'=w:=by
 have b:=A (axL c f w);have i:=A λk=>ax1 k cl d w;have af:0<=zn c:=by unfold zn;(repeat' split)<;>decide
 clear d;by_cases a:zn c=0
 .have G:Fx c cl=false:=by simp[Fx,a]
  rw[a]at b;rw[G];go_enter func464,ntmps464;go_wp2_with (first|(go_at_call 470;(with_reducible refine(b.out).mono ?_);rintro e g ⟨rfl,rfl⟩));exact Pn
 .have G:Fx c cl=decide (zn c=cl∨cl=7):=by simp[Fx,a]
  have H:0<zn c:=z;rw[G];generalize zn c=k at*;go_enter func464,ntmps464;go_wp2_with (first|(go_at_call 470;(with_reducible refine(b.out).mono ?_);rintro e g ⟨rfl,rfl⟩)|(go_at_call 516;(with_reducible refine(i.out _).mono ?_);rintro e j ⟨rfl,rfl⟩));go_ret;exact⟨aq,rfl⟩
def awK(s:Ψ)(f:s.size<=200)(w:Γ):Calls prog 402 #[s,.int .i64 7] w λe w'=>LF e/\w=w':=by
 have C:=A λc a w=>aiq c a 7 z w;go_enter func402,ntmps402;go_wp2;go_loop [5] (λi=>∃k:Nat,k<=s.size/\i=.int .i64 k) (λi=>s.size-(RowKit.intOf i).toNat);case atStart=>exact⟨0,dh _,rfl⟩
 case round=>
  obtain⟨k,d,rfl⟩:=hrel;by_cases au:k<s.size
  .have b:(k:Int)<s.size:=z;have l:(k:Int)<=200:=z;have a:=s[k].toNat_lt
   go_wp2_with (go_at_call 464;refine(C.out _ a _).mono ?_;rintro e g ⟨rfl,rfl⟩;generalize Fx _ _=j);all_goals first
    |(
     go_round
     case rel=>exact⟨k+1,z,bz⟩
     case measure=>simp[RowKit.intOf];omega)
    |(go_ret;exact⟨⟨_,rfl⟩,rfl⟩)
  .have b:¬(k:Int)<s.size:=z;go_wp2;go_ret;exact⟨⟨_,rfl⟩,rfl⟩
def anc(s:Ψ)(a:s.size<=200)(w:Γ):Calls prog 281 #[s] w λe w'=>LF e/\w=w':=by have C:=A (awK s a w);have d:(s.size:Int)<=200:=z;go_enter func281,ntmps281;go_wp2_with (go_at_call 402;refine(C.out).mono ?_;rintro e b ⟨⟨c,rfl⟩,rfl⟩);go_ret;exact⟨⟨_,rfl⟩,rfl⟩
def p5(w:Γ)(a:Θ)(cl:Int):Prop:=∃b o arr bd,a=some ⟨b,o,none⟩/\w.heap[b]? =some (.cells arr 299 bd)/\arr[o]? =some (.int .i64 cl)/\arr[o+1]? =some (.int .i64 1)/\arr[o+2]? =some (.int .i64 200)/\arr[o+3]? =some (.string ⟨#[]⟩)
variable{w w':Γ}{a:Θ}{cl:Int}
def p5.K(h:p5 w a cl)(G:β w w'):p5 w' a cl:=by let⟨b,o,arr,bd,e,c,h⟩:=h;exact⟨b,o,arr,bd,e,(G.block _ (hl.1 c).1).trans c,h⟩
def p5.cells(h:p5 w a cl):∃b o,a=some ⟨b,o,none⟩/\b<w/\w ⟨b,o,none⟩=cl/\w ⟨b,o+1,none⟩=(1:Int)/\w ⟨b,o+2,none⟩=(200:Int)/\w ⟨b,o+3,none⟩=some (.string ⟨#[]⟩):=by let⟨b,o,arr,bd,e,c,af,H,I,d⟩:=h;exact⟨b,o,e,(hl.1 c).1,by simp[World.cell?,c,af],by simp[World.cell?,c,H],by simp[World.cell?,c,I],by simp[World.cell?,c,d]⟩
def oS(w:Γ)(b n:Nat):Prop:=b<w.heap.size/\(∀i,i<n->∃x,w ⟨b,i,none⟩=some (.bool x))/\∀i,w.frozen? ⟨b,i,none⟩=false
variable{b n:Nat}
def oS.K(h:oS w b n)(G:β w w'):oS w' b n:=
 ⟨cT G h.1,λi hi=>by let⟨x,e⟩:=h.2.1 i hi;exact⟨x,(G.cell h.1).trans e⟩,λi=>(G.frozen h.1).trans (h.2.2 i)⟩
def oS.set(h:oS w b n)(j:Nat)(f:j<n)(x:Bool):oS (w.setCell ⟨b,j,none⟩ (.bool x)) b n:=by refine⟨by simpa using h.1,λi hi=>?_,λi=>by simpa using h.2.2 i⟩;by_cases e:i=j;subst e;let⟨y,a⟩:=h.2.1 i hi;exact⟨x,afn _ _ _ a⟩;rw[V9 _ _ _ _ (λc=>e (by injection c with _ d;exact d.symm))];exact h.2.1 i hi
def oS.aIX(h:oS w b n)(c j:Nat)(a:c≠b)(u:Φ):oS (w.setCell ⟨c,j,none⟩ u) b n:=by refine⟨by simpa using h.1,λi hi=>?_,λi=>by simpa using h.2.2 i⟩;rw[ve _ _ _ _ a];exact h.2.1 i hi
def oS.d_(w:Γ)(n:Nat):oS (w.alloc (.cells (Array.replicate n (.bool false)) 4)) w n:=
 ⟨aq,λi hi=>⟨false,kQ (c7 w _) (by simp[hi])⟩,λi=>cM (c7 w _)⟩
def aDk:(prog.info? 4).map (λi=>(i.zero,i.size,i.bytes))=some (some (.bool false),1,1):=aw
def aFb(n:Nat)(H:1<=n)(h:n<=300)(w:Γ):(Instr.makeSlice 109 (.int .i64 (n:Int)) (.int .i64 (n:Int))).run prog w=.ok (.slice (some ⟨w,0,none⟩) n n) (w.alloc (.cells (Array.replicate n (.bool false)) 4)):=by
 let⟨i,hi,c,b,G⟩:=iz aDk;have g:IntKind.i64.wrap (n:Int)=n:=pU _ ⟨z,z⟩;have aj:prog.underlying 109=some (.slice 4):=underlying109;have d:¬(n:Int)<0:=z;have f:¬(281474976710656<(n:Int)):=z;simp[Instr.makeSlice,afr aj,typeInfo,hi,G,b,c,g,d,f,asInt,asIntOf,zeroValue,sizeOf];rw[bo z];have e:(Array.map (λx=>(Value.bool false).cells[x%(Value.bool false).cells.size]!) (Array.range n))=Array.replicate n (Value.bool false):=by apply Array.ext;simp;intro j H I;have a:(Value.bool false).cells=#[Value.bool false]:=rfl;simp[a,Nat.mod_one]
 rw[e];simp[newRow]
def Xz(e:Ending):Prop:=∃s:Ψ,e=.returned (.string s)/\kC s
structure Ia (w:Γ) (b:Nat) (l:List UInt8):Prop where
 c:∀i (hi:i<l.length),w ⟨b,i,none⟩=some (.int .u8 (l[i].toNat:Int))
 f:∀i,i<l.length->w.frozen? ⟨b,i,none⟩=false
variable{l:List UInt8}
def Ia.set(h:Ia w b l)(k:Nat)(a:k<l)(x:UInt8):Ia (w.setCell ⟨b,k,none⟩ (.int .u8 (x.toNat:Int))) b (l.set k x):=by
 refine⟨λi hi=>?_,λi hi=>by simpa using h.f i (by simpa using hi)⟩;have d:i<l.length:=by simpa using hi
 by_cases e:k=i;subst e;rw[afn _ _ _ (h.c k a)];simp;rw[V9 _ _ _ _ (λc=>e (by injection c)),h.c i d];simp[Rj e]
def sf(l:List UInt8):Prop:=∀c∈l,32<=c.toNat/\c.toNat<=126
def sf.hs{s:Ψ}(h:kC s):sf s.data.toList:=λc a=>by
 let⟨k,b,e⟩:=AI.1 a
 have f:k<s.size:=by simpa using b
 have:=h.2 k f
 have d:s[k]=c:=by rw[<-e];rfl
 rw[d]at this
 omega
def sf.Cx(h:sf l)(c:l.length<=200):kC ⟨l.toArray⟩:=⟨by simpa[ByteArray.size]using c,λk a=>by
 have b:k<l.length:=by simpa[ByteArray.size]using a
 have:=h l[k] (fp b)
 show 32<=((l.toArray[k]'(by simpa using b)).toNat:Int)/\_
 have e:(⟨l.toArray⟩:Ψ)[k]'a=l[k]:=by show l.toArray[k]'_=_;simp
 simp only[List.getElem_toArray]
 rw[e]
 omega⟩
def sf.set(h:sf l)(k:Nat)(x:UInt8)(b:32<=x.toNat/\x.toNat<=126):sf (l.set k x):=λc a=>by
 rcases atw a with H|rfl
 .exact h c H
 .exact b
def axd(s:Ψ)(w:Γ)(a:Nat):Ia (w.drew.alloc (.cells (bytesRow s a) 5 ((bytesRow s a).size,(bytesRow s a).size+1))) w s.data.toList:=by
 have c:(w.drew.alloc (.cells (bytesRow s a) 5 ((bytesRow s a).size,(bytesRow s a).size+1))).heap[w.heap.size]? =some (.cells (bytesRow s a) 5 ((bytesRow s a).size,(bytesRow s a).size+1)):=pW w.drew _;have d:s.size<=(bytesRow s a).size:=by unfold bytesRow;rw[Array.size_append,Array.size_map];exact H8 _ _
 refine⟨λi hi=>?_,λi hi=>?_⟩
 .have b:i<s.data.size:=by simpa using hi
  simp only[World.cell?,c];rw[bytesRow,ata (by simpa using b)];simp only[Array.getElem?_map,VO b,ov];simp
 .have b:i<s.size:=by simpa using hi
  simp only[World.frozen?,c];simp;omega
def aLW(s:Ψ)(g:kC s)(w:Γ):χ 520 #[s] w λe w'=>Xz e:=by
 have O:(s.size:Int)<=200:=by have:=g.1;omega
 have F:=run_bytes_of_string (P:=prog) w 9 131 5 s K6 sK xH;have a:=A (sf.hs g);have E:s.data.toList.length=s.size:=iV;have m:β w ((w.alloc (.cells (bytesRow s (grownCap w s.size 0 5)) 5 ((bytesRow s (grownCap w s.size 0 5)).size,(bytesRow s (grownCap w s.size 0 5)).size+1))).drew):=(fu w _).drew;have r:Ia ((w.alloc (.cells (bytesRow s (grownCap w s.size 0 5)) 5 ((bytesRow s (grownCap w s.size 0 5)).size,(bytesRow s (grownCap w s.size 0 5)).size+1))).drew) w s.data.toList:=axd s w _;have x:w.heap.size<((w.alloc (.cells (bytesRow s (grownCap w s.size 0 5)) 5 ((bytesRow s (grownCap w s.size 0 5)).size,(bytesRow s (grownCap w s.size 0 5)).size+1))).drew).heap.size:=aq;have t:=A r;have B:=A m;clear r m;go_enter func520,ntmps520;go_wp2;clear F;generalize ((w.alloc (.cells (bytesRow s (grownCap w s.size 0 5)) 5 ((bytesRow s (grownCap w s.size 0 5)).size,(bytesRow s (grownCap w s.size 0 5)).size+1))).drew)=R at*;generalize grownCap w s.size 0 5=I at*;go_loopw [4] (λi wr=>∃(k:Nat) (l:List UInt8),k<=s.size/\i=.int .i64 k/\l.length=s.size/\sf l/\Ia wr w l/\β w wr/\w.heap.size<wr) (λi _=>s.size-(RowKit.intOf i).toNat);case atStart=>exact⟨0,s.data.toList,dh _,rfl,E,a,t,B,x⟩
 case round=>clear t B a x g;obtain⟨k,l,M,rfl,L,a,b,d,az⟩:=hrel;by_cases au:k<s.size;{have V:(0:Int)<=(k:Int):=z;have G:(k:Int)<s.size:=z;have f:k<l.length:=z;have bi:=b.c k f;have J:=b.f k f;have eh:=A a;have jZ:=A b;have co:=A d;let⟨T,S⟩:=a l[k] (fp f);by_cases K:97<=l[k].toNat/\l[k].toNat<=122;{(have u:(97:Int)<=(l[k].toNat:Int):=z;have H:(l[k].toNat:Int)<=122:=z;have Q:UInt8.size=256:=rfl;have U:IntKind.u8.wrap ((l[k].toNat:Int)-32)=(((UInt8.ofNat (l[k].toNat-32)).toNat:Nat):Int):=by rw[afc (z:l[k].toNat-32<UInt8.size),show(l[k].toNat:Int)-32=((l[k].toNat-32:Nat):Int) by omega,QG,AL z]);have o:=A (b.set k f (UInt8.ofNat (l[k].toNat-32)));have q:=A (a.set k (UInt8.ofNat (l[k].toNat-32)) (by rw[afc (z:l[k].toNat-32<UInt8.size)];omega));have n:=A (d.setCell (p:=⟨w,k,none⟩) (aY _) (.int .u8 ((UInt8.ofNat (l[k].toNat-32)).toNat:Int)));generalize N:((UInt8.ofNat (l[k].toNat-32)).toNat:Int)=y at*;clear a b d;(go_wp2;go_roundw;case rel=>first|exact⟨k+1,_,z,bz,by simpa using L,q,o,n,by simpa using az⟩|((repeat apply Exists.intro);refine⟨?_,rfl⟩;exact⟨k+1,_,z,bz,by simpa using L,q,o,n,by simpa using az⟩));case measure=>simp[RowKit.intOf];omega};clear a b d J;generalize l[k]=c at*;by_cases W:97<=c.toNat;have u:(97:Int)<=(c.toNat:Int):=z;have H:¬(c.toNat:Int)<=122:=z;exact aoJ;have u:¬(97:Int)<=(c.toNat:Int):=z;exact aoJ};{have G:¬(k:Int)<s.size:=z;have C:=run_convert_bytes_back (P:=prog) wr 131 9 5 ⟨w,0,none⟩ I l sK xH K6 (λj D=>by rw[AD,gy];exact b.c j D);rw[L]at C;have eh:=A (a.Cx (by rw[L];omega));clear a b;go_wp2;go_ret;exact⟨⟨_,rfl,eh⟩,d⟩}
end Go.bE
namespace Go.di
def aZ(l:List UInt8):Nat:=l.foldl (λn c=>n*256+c.toNat) 0
def at1(l:List UInt8):∀n,l.foldl (λn c=>n*256+c.toNat) n=n*256^l.length+aZ l:=by exact app
def zd(c:UInt8)(l:List UInt8):aZ (c::l)=c.toNat*256^l.length+aZ l:=by show(c::l).foldl _ 0=_;rw[Lc,at1];simp
def XH(l:List UInt8)(c:UInt8):aZ (l++[c])=aZ l*256+c.toNat:=by unfold aZ;rw[afy];rfl
def x5:∀(l:List UInt8),aZ l<256^l.length
 |[]=>by simp[aZ]
 |c::l=>by rw[zd,l8,yR];have H:=x5 l;have I:=Rs c;have a:c.toNat*256^l.length<=255*256^l.length:=rm _ z;omega
def MA(l:List UInt8):∀(k:Nat),(∀i,i<k->l[i]? =some 0)->aZ (l.drop k)=aZ l
 |0,_=>by simp
 |k+1,h=>by have af:=MA l k λi hi=>h i z;have a:=h k z;let⟨au,a⟩:=kL.1 a;rw[H0 au,zd,a]at af;simpa using af
variable{l:List UInt8}{n:Nat}
def ahN{c:UInt8}(O:c≠0)(h:aZ (c::l)<256^n):(c::l).length<=n:=by exact ao3
def WG(s t:Ψ):Prop:=aZ t.data.toList=aZ s.data.toList/\t.size<=s.size/\∀n,aZ s.data.toList<256^n->t.size<=n
def at2(s t:Ψ)(k:Nat)(ak:t.data.toList=s.data.toList.drop k)(a:k<=s.data.toList.length)(az:∀j,j<k->s.data.toList[j]? =some 0)(aP:∀h:k<s.data.toList,s.data.toList[k]≠0):WG s t:=by exact aod
def as6{k:Nat}(a:∀j,j<k->l[j]? =some 0)(h:l[k]? =some 0):∀j,j<k+1->l[j]? =some 0:=λj b=>by
 by_cases e:j=k
 .subst e;exact h
 .exact a j z
def kj(n j:Nat):List Int:=(List.range j).map λi=>(((n/2^(56-8*i))%256:Nat):Int)
def acz(k:Nat):(UInt8.ofNat (k%256)).toNat=k%256:=by rw[VN];omega
def at0(n:Nat)(h:n<36028797018963968):aZ ((kj n 8).map λx=>UInt8.ofNat x.toNat)=n:=by exact apk
def Am(W C:Nat->Nat)(n i a:Nat):Nat:=if a<i/\i-a<n then W a*C (i-a)else 0
def lq(W C:Nat->Nat)(n i:Nat):Nat->Nat
 |0=>0
 |k+1=>lq W C n i k+Am W C n i k
def uU(W C:Nat->Nat)(n a b i:Nat):Nat:=lq W C n i a+(if a<i/\i-a<b/\i-a<n then W a*C (i-a)else 0)
def aG4(W C:Nat->Nat)(n a i:Nat):uU W C n a 1 i=lq W C n i a:=by unfold uU;rw[bo z];omega
def aqs(W C:Nat->Nat)(n a b i:Nat):uU W C n a b i<=lq W C n i (a+1):=by unfold uU;show _<=lq W C n i a+Am W C n i a;unfold Am;by_cases h:a<i/\i-a<b/\i-a<n;rw[ci h,ci ⟨h.1,h.2.2⟩];omega;rw[bo h];omega
def aqt(W C:Nat->Nat)(n a b:Nat)(af:0<b)(G:b<n):uU W C n a b (a+b)+W a*C b=uU W C n a (b+1) (a+b):=by unfold uU;have e:a+b-a=b:=z;rw[e,bo z,ci z];omega
def aG3(W C:Nat->Nat)(n a b i:Nat):uU W C n a b i<=uU W C n a (b+1) i:=by unfold uU;by_cases h:a<i/\i-a<b/\i-a<n;rw[ci h,ci ⟨h.1,z,h.2.2⟩];omega;rw[bo h];omega
def aso(W C:Nat->Nat)(n i:Nat):∀(k m:Nat),k<=m->lq W C n i k<=lq W C n i m
 |k,0,h=>by have:k=0:=z;subst this;exact aY _
 |k,m+1,h=>by by_cases e:k=m+1;{subst e;exact aY _};{exact c6 (aso W C n i k m z) (H8 _ _)}
structure bD where
 h:Nat
 op:Ψ
 aO:Ψ
 args:List Nat
def lO(i:Nat):Nat:=if i=1 then 1 else 0
def pz(bQ:Nat->Nat->Nat):List Nat->(Nat->Nat)->Nat->Nat
 |[],W=>W
 |a::l,W=>pz bQ l (λi=>lq W (bQ a) 6 i 10)
def q8(bQ:Nat->Nat->Nat)(s i:Nat):List bD->Nat
 |[]=>0
 |r::l=>(if r.h=s then pz bQ r.args lO i else 0)+q8 bQ s i l
def GW(bQ:Nat->Nat->Nat):List Nat->(Nat->Nat)->Prop
 |[],W=>∀i,i<10->W i<281474976710656
 |a::l,W=>(∀i,i<10->W i<16777216)/\(∀i,i<10->lq W (bQ a) 6 i 10<281474976710656)/\GW bQ l (λi=>lq W (bQ a) 6 i 10)
structure y' (bQ:Nat->Nat->Nat) (rs:List bD):Prop where
 sum:∀s i,i<6->q8 bQ s i rs<=bQ s i
 num:∀r∈rs,GW bQ r.args lO
 lt:∀s i,bQ s i<2147483648
def ast{bQ:Nat->Nat->Nat}{s i:Nat}{a b:List bD}(h:a.Sublist b):q8 bQ s i a<=q8 bQ s i b:=by
 induction h with
 |slnil=>exact aY _
 |cons x _ c=>exact c6 c (Nat.le_add_left _ _)
 |cons_cons x _ c=>exact Nat.add_le_add_left c _
variable{i:Nat}
def aIs{W W' C b:Nat->Nat}(c:∀i,i<10->W i<=W' i){n' a:Nat}(e:∀i,i<n->C i<=b i)(d:n<=n')(aL:a<10):Am W C n i a<=Am W' b n' i a:=by unfold Am;by_cases h:a<i/\i-a<n;rw[ci h,ci ⟨h.1,i4 h.2 d⟩];exact yQ (c a aL) (e _ h.2);rw[bo h];exact dh _
def Qg{W W' C a:Nat->Nat}(b:∀i,i<10->W i<=W' i){n n' i:Nat}(d:∀i,i<n->C i<=a i)(c:n<=n'):∀k,k<=10->lq W C n i k<=lq W' a n' i k
 |0,_=>aY _
 |k+1,h=>Nat.add_le_add (Qg b d c k z) (aIs b d c z)
def ai5(bQ:Nat->Nat->Nat):∀(l:List Nat) (a:Nat) (W:Nat->Nat),pz bQ (l++[a]) W=λi=>lq (pz bQ l W) (bQ a) 6 i 10
 |[],a,W=>rfl
 |b::l,a,W=>ai5 bQ l a _
def apN(bQ:Nat->Nat->Nat):∀(l:List Nat) (a:Nat) (m:List Nat) (W:Nat->Nat),GW bQ (l++a::m) W->(∀i,i<10->pz bQ l W i<16777216)/\(∀i,i<10->lq (pz bQ l W) (bQ a) 6 i 10<281474976710656)
 |[],a,m,W,h=>⟨h.1,h.2.1⟩
 |b::l,a,m,W,h=>apN bQ l a m _ h.2.2
def apO(bQ:Nat->Nat->Nat):∀(l:List Nat) (W:Nat->Nat),GW bQ l W->∀i,i<10->pz bQ l W i<281474976710656
 |[],W,h=>h
 |b::l,W,h=>apO bQ l _ h.2.2
def qJ(bQ:Nat->Nat->Nat)(rs:List bD)(ai k s i:Nat):Nat:=if i<ai then bQ s i else if i=ai then q8 bQ s i (rs.take k)else 0
variable{bQ:Nat->Nat->Nat}{rs:List bD}
def SH(n:y' bQ rs)(ai k s i:Nat)(hi:i<6):qJ bQ rs ai k s i<=bQ s i:=by unfold qJ;split;exact aY _;split;exact c6 (ast (List.take_sublist k rs)) (n.sum s i hi);exact dh _
def axR(n:y' bQ rs)(ai s i:Nat)(hi:i<6):qJ bQ rs ai rs s i<=qJ bQ rs (ai+1) 0 s i:=by
 by_cases h:i<ai+1
 .have e:qJ bQ rs (ai+1) 0 s i=bQ s i:=by unfold qJ;rw[ci h]
  rw[e];exact SH n ai _ s i hi
 unfold qJ;rw[bo z,bo z];exact dh _
def ass(bQ:Nat->Nat->Nat)(s i:Nat)(r:bD):∀l:List bD,q8 bQ s i (l++[r])=q8 bQ s i l+(if r.h=s then pz bQ r.args lO i else 0)
 |[]=>by simp[q8]
 |q::l=>by simp only[Wd,q8,ass bQ s i r l];omega
def Yq(ai k s i:Nat)(b:k<rs):qJ bQ rs ai (k+1) s i=qJ bQ rs ai k s i+(if i=ai/\rs[k].h=s then pz bQ rs[k].args lO i else 0):=by unfold qJ;by_cases h:i<ai;rw[ci h,ci h,bo z];rfl;rw[bo h,bo h];by_cases e:i=ai;rw[ci e,ci e,r6 b,ass];by_cases a:rs[k].h=s;rw[ci a,ci ⟨e,a⟩];rw[bo a,bo λq=>a q.2];rw[bo e,bo e,bo λq=>e q.1]
def oN(t:List (List Nat))(s i:Nat):Nat:=(t.getD s []).getD i 0
def So(p:Nat->Bool):Bool:=(List.range 10).all p
def XQ{p:Nat->Bool}(h:So p=true)(hi:i<10):p i=true:=iq.1 h i (xK.2 hi)
def US(bQ:Nat->Nat->Nat):List Nat->(Nat->Nat)->Bool
 |[],W=>So λi=>Nat.blt (W i) 281474976710656
 |a::l,W=>So (λi=>Nat.blt (W i) 16777216)&&So (λi=>Nat.blt (lq W (bQ a) 6 i 10) 281474976710656)&&US bQ l (λi=>lq W (bQ a) 6 i 10)
def apM(bQ:Nat->Nat->Nat):∀(l:List Nat) (W:Nat->Nat),US bQ l W=true->GW bQ l W
 |[],W,h=>λi hi=>by simpa using XQ h hi
 |a::l,W,h=>by simp only[US,dW]at h;exact⟨λi hi=>by simpa using XQ h.1.1 hi,λi hi=>by simpa using XQ h.1.2 hi,apM bQ l _ h.2⟩
def aco(t:List (List Nat))(rs:List bD):Bool:=
 (List.range t.length).all (λs=>(List.range 6).all λi=>Nat.ble (q8 (oN t) s i rs) (oN t s i))&&rs.all (λr=>Nat.blt r.h t.length&&US (oN t) r.args lO)&&t.all (λl=>l.all λn=>Nat.blt n 2147483648)
def adI{bQ:Nat->Nat->Nat}{s i:Nat}:∀{rs:List bD},(∀r∈rs,r.h≠s)->q8 bQ s i rs=0
 |[],_=>rfl
 |r::l,h=>by simp only[q8];rw[bo (h r (ri ..)),adI λq a=>h q (jw _ a)]
def aKq{t:List (List Nat)}(h:t.all (λl=>l.all λn=>Nat.blt n 2147483648)=true)(s i:Nat):oN t s i<2147483648:=by
 unfold oN;rw[qt,qt];cases a:t[s]? with
 |none=>simp
 |some l=>
  simp only[Ln];cases hi:l[i]? with
  |none=>simp
  |some n=>have:=iq.1 (iq.1 h l (CO a)) n (CO hi);simpa using this
def aFs{t:List (List Nat)}(h:aco t rs=true):y' (oN t) rs:=by
 simp only[aco,dW]at h;let⟨⟨H,I⟩,c⟩:=h;refine⟨λs i hi=>?_,λr a=>?_,aKq c⟩
 .by_cases b:s<t;have:=iq.1 (iq.1 H s (xK.2 b)) i (xK.2 hi);exact hZ this
  .rw[adI λr a e=>?_];exact dh _
   .have:=iq.1 I r a;simp only[dW]at this;have d:r.h<t.length:=by simpa using this.1
    omega
 have:=iq.1 I r a;simp only[dW]at this;exact apM _ _ _ this.2
end Go.di
namespace Go.di
open Go Go.Proofs Go.RowKit
def aip{W a:Γ}(G:β W a):(∀b o,b<W.heap.size->a ⟨b,o,none⟩=W ⟨b,o,none⟩)/\(∀b o,b<W.heap.size->a.frozen? ⟨b,o,none⟩=W.frozen? ⟨b,o,none⟩):=
 ⟨λb o h=>G.cell (p:=⟨b,o,none⟩) h,λb o h=>G.frozen (p:=⟨b,o,none⟩) h⟩
variable{w:Γ}{b:Nat}
def kQ{i:Nat}{cs:Ω}{t:TypeId}{v:Φ}(h:w.heap[b]? =some (.cells cs t (0,0)))(hi:cs[i]? =some v):w ⟨b,i,none⟩=some v:=by simp[World.cell?,h,hi]
def c7(w:Γ)(o:Obj):(w.alloc o).heap[w.heap.size]? =some o:=pW w o
def uC(w:Γ)(o:Obj){k:Nat}(h:k<w):(w.alloc o).heap[k]? =w.heap[k]? :=CJ w o k h
def jt(w:Γ)(o:Obj):(w.alloc o).heap.size=w.heap.size+1:=aq
def de{o:Obj}(h:w.heap[b]? =some o):b<w.heap.size:=(hl.1 h).1
structure c8 where
 nm:Ψ
 dk:Nat
 bB:List (Ψ×Nat)
 aJ:List (Ψ×Nat)
 dp:List bD
 an:Nat
 bQ:List (List Nat)
structure rx (S:c8):Prop where
 nm:S.nm.size<=maxLen
 dk:S.dk<=1000000000
 axX:0<S.bB.length
 bB:S.bB.length<=8
 ayh:∀c∈S.bB,c.1.size<=maxLen
 xw:0<S.aJ.length
 aJ:S.aJ.length<=12
 l6:∀c∈S.aJ,c.1.size<=maxLen
 dp:S.dp.length<=40
 an:S.an<S.aJ.length
 need:y' (oN S.bQ) S.dp
 BX:∀r∈S.dp,r.h<S.aJ.length/\r.args.length<=3/\(∀a∈r.args,a<S.aJ.length)/\r.op.size<=maxLen/\r.aO.size<=maxLen
def jy(w:Γ)(ca:Θ)(cs:List (Ψ×Nat)):Prop:=∃b o arr bd,ca=some ⟨b,o,none⟩/\w.heap[b]? =some (.cells arr 141 bd)/\∀i (hi:i<cs.length),arr[o+i*2]? =some (.string cs[i].1)/\arr[o+i*2+1]? =some (.int .i64 cs[i].2)
def s4(w:Γ)(a:Θ)(ss:List (Ψ×Nat))(M:Nat->Nat):Prop:=∃b o,a=some ⟨b,o,none⟩/\b<w.heap.size/\∀i (hi:i<ss.length),w ⟨b,o+i*3,none⟩=some (.string ss[i].1)/\w ⟨b,o+i*3+1,none⟩=some (.int .i64 ss[i].2)/\w ⟨b,o+i*3+2,none⟩=some (.int .i64 (M i))
def rp(w:Γ)(a:Θ)(l:List Nat):Prop:=0<l.length->∃b o,a=some ⟨b,o,none⟩/\b<w.heap.size/\∀i (hi:i<l.length),w ⟨b,o+i,none⟩=some (.int .i64 l[i])
structure II (w:Γ) (b o:Nat) (r:bD) (aU:Θ) (ac:Nat):Prop where
 bi:w ⟨b,o,none⟩=some (.int .i64 r.h)
 c1:w ⟨b,o+1,none⟩=some (.string r.op)
 c2:w ⟨b,o+2,none⟩=some (.string r.aO)
 c3:w ⟨b,o+3,none⟩=some (.slice aU r.args.length ac)
 args:rp w aU r.args
 cG:∃dK eL,aU=some ⟨dK,eL,none⟩
def wH(w:Γ)(ra:Θ)(rs:List bD):Prop:=∃b o,ra=some ⟨b,o,none⟩/\b<w.heap.size/\∀i (hi:i<rs.length),∃a ac,II w b (o+i*4) rs[i] a ac
variable{w':Γ}{ca:Θ}{cs:List (Ψ×Nat)}
def jy.K(h:jy w ca cs)(G:β w w'):jy w' ca cs:=by let⟨b,o,arr,bd,e,a,c⟩:=h;exact⟨b,o,arr,bd,e,by rw[G.block b (de a)];exact a,c⟩
def s4.K{M:Nat->Nat}(h:s4 w ca cs M)(G:β w w'):s4 w' ca cs M:=by let⟨b,o,e,a,c⟩:=h;exact⟨b,o,e,cT G a,λi hi=>by rw[G.cell a,G.cell a,G.cell a];exact c i hi⟩
variable{c:Θ}
def rp.K{l:List Nat}(h:rp w c l)(G:β w w'):rp w' c l:=λaf=>by
 let⟨b,o,e,a,d⟩:=h af
 exact⟨b,o,e,cT G a,λi hi=>by rw[G.cell a];exact d i hi⟩
def II.K{o:Nat}{r:bD}{ac:Nat}(h:II w b o r c ac)(a:b<w)(G:β w w'):II w' b o r c ac:=
 ⟨by rw[G.cell a];exact h.bi,by rw[G.cell a];exact h.c1,by rw[G.cell a];exact h.c2,by rw[G.cell a];exact h.c3,h.args.K G,h.cG⟩
def wH.K{ra:Θ}{rs:List bD}(h:wH w ra rs)(G:β w w'):wH w' ra rs:=by let⟨b,o,e,a,c⟩:=h;exact⟨b,o,e,cT G a,λi hi=>by let⟨d,ac,h⟩:=c i hi;exact⟨d,ac,h.K a G⟩⟩
def rq(w w':Γ):Prop:=∃n,w'=w.drewN n
def rq.K(h:rq w w')(B:Nat):Below B w w':=by obtain⟨n,rfl⟩:=h;exact⟨rfl,rfl,rfl,aY _,λ_ _=>rfl⟩
end Go.di
namespace Go.bk
open Go Go.Proofs.Tryz Go.Proofs Go.RowKit Go.di
def at'(n:Nat)(e:Ending):Prop:=∃r:Nat,r<n/\e=.returned (.int .i64 r)
def ack(x:Int)(n:Nat)(w:Γ)(b:0<n)(G:n<=1000000):Calls prog 203 #[x,n] w λe w'=>at' n e/\w=w':=by
 have c:((n:Int)==0)=false:=bw;have H:=Wc x (show(0:Int)<n by omega);have I:=afu x (show(0:Int)<n by omega);by_cases h:x.tmod n<0
 .have ak:decide (x.tmod n<0)=true:=by simpa using h
  have a:wrap64 (x.tmod n+n)=x.tmod n+n:=Q4 _ ⟨z,z⟩;go_enter func203,ntmps203;go_wp2;go_ret;exact⟨⟨(x.tmod n+n).toNat,z,by rw[atk z];first|rfl|simp[a]⟩,rfl⟩
 .have ak:decide (x.tmod n<0)=false:=by simpa using h
  go_enter func203,ntmps203;go_wp2;go_ret;exact⟨⟨(x.tmod n).toNat,z,by rw[atk z];rfl⟩,rfl⟩
end Go.bk
namespace Go.aM
open Go Go.Proofs.Tryz Go.Proofs Go.RowKit Go.Lib
def k_(w:Γ)(a:Θ)(n:Nat):Prop:=n=0∨ ∃b o,a=some ⟨b,o,none⟩/\∀i,i<n->∃x:Int,w ⟨b,o+i,none⟩=some (.int .i64 x)
def Kx(x n:Int)(a:0<n)(G:n<=2000000000000001):0<=(wrap64 (x.tmod n+n)).tmod n/\(wrap64 (x.tmod n+n)).tmod n<n:=by
 have H:=Wc x a;have I: -n<x.tmod n:=by have:=afu x a;omega
 have b:wrap64 (x.tmod n+n)=x.tmod n+n:=Q4 _ ⟨z,z⟩;rw[b];exact⟨Int.tmod_nonneg _ z,Wc _ a⟩
def uj(n:Int)(e:Ending):Prop:=∃r:Int,0<=r/\r<n/\e=.returned (.int .i64 r)
def er(w:Γ)(b:Nat)(a:Θ)(n:Nat):Prop:=∃c d:Nat,w.heap[b]? =some (.cells #[.slice a n c,.int .i64 d] 53 (0,0))/\k_ w a n/\(∀q,a=some q->0<n->q.block≠b)
def vq(w:Γ)(b:Nat)(a:Θ)(len:Nat)(n:Int)(e:Ending)(w':Γ):Prop:=
 uj n e/\er w' b a len/\w'.heap.size=w.heap.size/\(∀k,k≠b->w'.heap[k]? =w.heap[k]?)/\w'.os=w.os/\w'.tape=w.tape/\w'.output=w.output
def q5(w:Γ)(b:Nat)(a:Θ)(len:Nat)(n:Int)(I:0<n)(G:n<=2000000000000001)(H:len<=maxLen)(h:er w b a len):Calls prog 19 #[.pointer (some ⟨b,0,none⟩),.int .i64 n] w λe w'=>vq w b a len n e w':=by
 obtain⟨c,d,l,o,s⟩:=h;unfold maxLen at H;have bi:w ⟨b,0,none⟩=some (.slice a len c):=by simp[World.cell?,l]
 have c1:w ⟨b,1,none⟩=some (.int .i64 d):=by simp[World.cell?,l]
 have K:w.frozen? ⟨b,1,none⟩=false:=by simp[World.frozen?,l]
 by_cases J:len<=d
 .have hd:decide ((len:Int)<=(d:Int))=true:=by simpa using J
  go_enter func19,ntmps19;go_wp2;go_quiet (fail);go_wp2;go_ret;exact⟨⟨0,z,z,rfl⟩,⟨c,d,l,o,s⟩,rfl,λ_ _=>rfl,rfl,rfl,rfl⟩
 .have hd:decide ((len:Int)<=(d:Int))=false:=bw;have D:decide (n<1)=false:=bw;rcases o with o|⟨j,eo,rfl,C⟩
  .omega
  .obtain⟨x,u⟩:=C d z;have A:=s _ rfl z;have L:(n==0)=false:=bw;have B:=Kx x n I G;go_enter func19,ntmps19;go_wp2;go_quiet (fail);go_wp2;have g:∃f,f=(w.drewN nq).setCell ⟨b,1,none⟩ (Value.int .i64 (↑d+1)):=⟨_,rfl⟩;obtain⟨f,g⟩:=g;have q:Hid (f.heap[b]? =some (.cells #[.slice (some ⟨j,eo,none⟩) len c,.int .i64 (↑d+1)] 53 (0,0))):=by subst g;exact h' (w:=w.drewN nq) l _
   have r:Hid (∀k,k≠b->f.heap[k]? =w.heap[k]?):=λk E=>by subst g;rw[ht _ _ _ _ E];rfl
   have m:Hid (f.heap.size=w.heap.size/\f.os=w.os/\f.tape=w.tape/\f.output=w.output):=by have t:=(bl 0 (w.drewN nq)).setCell (p:=⟨b,1,none⟩) (dh _) (Value.int .i64 (↑d+1));subst g;exact⟨aq,t.os,t.tape,t.output⟩
   rw[<-g];have P:f ⟨b,0,none⟩=some (.slice (some ⟨j,eo,none⟩) len c):=by simp[World.cell?,q.out]
   have M:f ⟨b,1,none⟩=some (.int .i64 (↑d+1)):=by simp[World.cell?,q.out]
   have N:f ⟨j,eo+d,none⟩=some (.int .i64 x):=by rw[nN (w:=w) (r.out j A)];exact u
   have O:0<=(d:Int)+1-1:=z;have Q:((d:Int)+1-1)<len:=z;have R:((d:Int)+1-1).toNat=d:=z;clear bi c1 K hd D g l u;go_quiet (fail);go_wp2;go_ret;exact⟨⟨_,B.1,B.2,rfl⟩,⟨c,d+1,by rw[afv];exact q.out,.inr ⟨j,eo,rfl,λi hi=>by obtain⟨y,F⟩:=C i hi;exact⟨y,by rw[<-F];exact nN (w:=w) (r.out j A)⟩⟩,s⟩,m.out.1,r.out,m.out.2.1,m.out.2.2.1,m.out.2.2.2⟩
variable{w w':Γ}{a:Θ}{n:Nat}
def k_.K(h:k_ w a n)(G:β w w'):k_ w' a n:=by rcases h with h|⟨b,o,rfl,h⟩;exact .inl h;refine .inr ⟨b,o,rfl,λi hi=>?_⟩;let⟨x,c⟩:=h i hi;exact⟨x,(G.cell (V8 w _ c)).trans c⟩
variable{b:Nat}
def er.K(h:er w b a n)(G:β w w'):er w' b a n:=by let⟨c,e,H,I,d⟩:=h;exact⟨c,e,(G.block b (hl.1 H).1).trans H,I.K G,d⟩
def er.lt(h:er w b a n):b<w.heap.size:=by let⟨c,e,H,I,d⟩:=h;exact(hl.1 H).1
def er.alloc(h:er w b a n)(o:Obj):er (w.alloc o) b a n:=h.K ((bl _ _).alloc (aY _) o)
end Go.aM
namespace Go.bk.N
open Go Go.Proofs Go.RowKit Go.di
def E7(e:Ending):Prop:=∃r:Bool,e=.returned (.bool r)
end Go.bk.N
namespace Go.bk.N
open Go Go.Proofs.Tryz Go.Proofs Go.RowKit Go.di
def Si(w:Γ)(a:Θ)(n:Nat):Prop:=n<=1000/\(0<n->∃b o,a=some ⟨b,o,none⟩/\b<w.heap.size/\∀i,i<n->∃(s:Ψ) (k m:Int),s.size<=maxLen/\w ⟨b,o+i*3,none⟩=some (.string s)/\w ⟨b,o+i*3+1,none⟩=some (.int .i64 k)/\w ⟨b,o+i*3+2,none⟩=some (.int .i64 m)/\0<=m/\m<=9)
def aDS(w:Γ):Calls prog 187 #[] w λe w'=>e=.returned (.slice (some ⟨w,0,none⟩) 6 6)/\w'=w.alloc (.cells #[.string ⟨#[]⟩,.string ⟨#[116,101,120,116]⟩,.string ⟨#[110,117,109,98,101,114]⟩,.string ⟨#[100,97,116,101]⟩,.string ⟨#[98,111,111,108]⟩,.string ⟨#[116,97,98,108,101]⟩] 9):=by go_enter func187,ntmps187;go_wp2;exact Pn
def Db(w:Γ)(a:Θ)(n:Nat):Prop:=n<=1000/\(0<n->∃b o,a=some ⟨b,o,none⟩/\b<w.heap.size/\∀i,i<n->∃x:Int,w ⟨b,o+i,none⟩=some (.int .i64 x))
def aDs(a b:Θ)(m n c d:Nat)(w:Γ)(aL:Db w a m)(G:Db w b n):Calls prog 278 #[.slice a m c,.slice b n d] w λe w'=>E7 e/\rq w w':=by
 let⟨H,aL⟩:=aL;let⟨I,G⟩:=G;by_cases j:m=n
 .subst j;have aP:((m:Int) !=(m:Int))=false:=aq;go_enter Q8,V3;go_wp2;go_loopw [5] (λi wr=>∃k:Nat,k<=m/\i=.int .i64 k/\rq w wr) (λi _=>m-(RowKit.intOf i).toNat);case atStart=>exact⟨0,dh _,rfl,0,rfl⟩
  case round=>
   obtain⟨k,l,rfl,q,rfl⟩:=hrel;by_cases au:k<m
   .obtain⟨A,C,rfl,r,f⟩:=aL z;obtain⟨t,B,rfl,u,g⟩:=G z;let⟨x,s⟩:=f k au;let⟨y,o⟩:=g k au;have D:(0:Int)<=(k:Int):=z;have E:(k:Int)<m:=z;clear f g aL G;go_wp2;go_quiet (fail)
    go_wp2;all_goals first
     |(
      go_roundw
      case rel=>exact⟨k+1,z,bz,_,(by first|rfl|exact World.drewN_drewN _ _ _)⟩
      case measure=>simp[RowKit.intOf];omega)
     |(go_ret;exact⟨⟨_,rfl⟩,_,(by first|rfl|exact World.drewN_drewN _ _ _)⟩)
   .go_wp2;all_goals(go_ret;exact⟨⟨_,rfl⟩,q,rfl⟩)
 .have aP:((m:Int) !=(n:Int))=true:=bw;go_enter Q8,V3;go_wp2;all_goals(go_ret;exact⟨⟨_,rfl⟩,0,rfl⟩)
variable{w w':Γ}{a:Θ}{n:Nat}
def Db.K(h:Db w a n)(G:β w w'):Db w' a n:=
 ⟨h.1,λg=>by
  let⟨b,o,e,c,d⟩:=h.2 g
  exact⟨b,o,e,cT G c,λi hi=>by let⟨x,f⟩:=d i hi;exact⟨x,by rw[G.cell c];exact f⟩⟩⟩
def Si.K(h:Si w a n)(G:β w w'):Si w' a n:=
 ⟨h.1,λj=>by
  let⟨b,o,e,c,d⟩:=h.2 j
  exact⟨b,o,e,cT G c,λi hi=>by
   let⟨s,k,m,H,I,g,f,l⟩:=d i hi
   exact⟨s,k,m,H,by rw[G.cell c];exact I,by rw[G.cell c];exact g,by rw[G.cell c];exact f,l⟩⟩⟩
end Go.bk.N
namespace Go.bk.N
open Go Go.Proofs Go.RowKit Go.di
def XE(w:Γ)(a:Θ)(n:Nat):Prop:=n<=1000/\(0<n->∃b o,a=some ⟨b,o,none⟩/\b<w.heap.size/\∀i,i<n->∃s:Ψ,s.size<=maxLen/\w ⟨b,o+i,none⟩=some (.string s))
variable{w w':Γ}{a:Θ}{n:Nat}
def XE.K(h:XE w a n)(G:β w w'):XE w' a n:=
 ⟨h.1,λg=>by
  let⟨b,o,e,c,d⟩:=h.2 g
  exact⟨b,o,e,cT G c,λi hi=>by let⟨x,j,f⟩:=d i hi;exact⟨x,j,by rw[G.cell c];exact f⟩⟩⟩
def Ru(w:Γ)(a:Θ)(n c:Nat):Prop:=n<=3/\(0<n->∃b o,a=some ⟨b,o,none⟩/\b<w.heap.size/\∀i,i<n->∃x:Nat,x<c/\w ⟨b,o+i,none⟩=some (.int .i64 x))
variable{d:Nat}
def Ru.K(h:Ru w a n d)(G:β w w'):Ru w' a n d:=
 ⟨h.1,λj=>by
  let⟨b,o,e,c,f⟩:=h.2 j
  exact⟨b,o,e,cT G c,λi hi=>by let⟨x,k,g⟩:=f i hi;exact⟨x,k,by rw[G.cell c];exact g⟩⟩⟩
structure Sf (T:Ψ->Ψ->Prop) (w:Γ) (b o ev:Nat) (h:Nat) (op aO:Ψ) (aU:Θ) (iZ ac:Nat):Prop where
 bi:w ⟨b,o,none⟩=some (.int .i64 h)
 c1:w ⟨b,o+1,none⟩=some (.string op)
 c2:w ⟨b,o+2,none⟩=some (.string aO)
 c3:w ⟨b,o+3,none⟩=some (.slice aU iZ ac)
 au:h<ev
 t:T op aO
 aGI:op.size<=maxLen
 aG_:aO.size<=maxLen
 args:Ru w aU iZ ev
def XA(T:Ψ->Ψ->Prop)(w:Γ)(a:Θ)(n d:Nat):Prop:=n<=1000/\(0<n->∃b o,a=some ⟨b,o,none⟩/\b<w.heap.size/\∀i,i<n->∃h op aO c iZ ac,Sf T w b (o+i*4) d h op aO c iZ ac)
def Sf.K{T:Ψ->Ψ->Prop}{b o h:Nat}{op aO:Ψ}{c:Θ}{iZ ac:Nat}(r:Sf T w b o d h op aO c iZ ac)(a:b<w)(G:β w w'):Sf T w' b o d h op aO c iZ ac:=
 ⟨by rw[G.cell a];exact r.bi,by rw[G.cell a];exact r.c1,by rw[G.cell a];exact r.c2,by rw[G.cell a];exact r.c3,r.au,r.t,r.aGI,r.aG_,r.args.K G⟩
def XA.K{T:Ψ->Ψ->Prop}(h:XA T w a n d)(G:β w w'):XA T w' a n d:=
 ⟨h.1,λj=>by
  let⟨b,o,e,c,f⟩:=h.2 j
  exact⟨b,o,e,cT G c,λi hi=>by let⟨hd,op,aO,g,iZ,ac,r⟩:=f i hi;exact⟨hd,op,aO,g,iZ,ac,r.K c G⟩⟩⟩
def Lr(a:Γ)(g r:Nat)(b R:Ω):Prop:=g<a.heap.size/\r<a.heap.size/\a.heap[g]? =some (.cells b 29 (0,0))/\a.heap[r]? =some (.cells R 101 (0,0))
def Lr.K{g r:Nat}{a R:Ω}(h:Lr w g r a R)(G:β w w'):Lr w' g r a R:=
 ⟨cT G h.1,cT G h.2.1,by rw[G.block g h.1];exact h.2.2.1,by rw[G.block r h.2.1];exact h.2.2.2⟩
end Go.bk.N
namespace Go.bk.N
open Go Go.Proofs.Tryz Go.Proofs Go.RowKit Go.di
def RB(w:Γ)(a:Θ)(n:Nat):Prop:=n<=1000/\(0<n->∃b o,a=some ⟨b,o,none⟩/\b<w.heap.size/\∀i,i<n->∃(s:Ψ) (k:Int),s.size<=maxLen/\w ⟨b,o+i*2,none⟩=some (.string s)/\w ⟨b,o+i*2+1,none⟩=some (.int .i64 k))
variable{w w':Γ}{n:Nat}
def RB.K{a:Θ}(h:RB w a n)(G:β w w'):RB w' a n:=
 ⟨h.1,λg=>by
  let⟨b,o,e,c,d⟩:=h.2 g
  exact⟨b,o,e,cT G c,λi hi=>by
   let⟨s,k,H,I,f⟩:=d i hi
   exact⟨s,k,H,by rw[G.cell c];exact I,by rw[G.cell c];exact f⟩⟩⟩
def aDj:(prog.info? 9).map (λi=>(i.zero,i.size,i.bytes))=some (some (.string ⟨#[]⟩),1,16):=aw
def AT(base:Nat)(v:Φ)(k:Nat)(w:Γ):Prop:=∃aH:List Ψ,aH.length=k/\(∀s∈aH,s.size<=maxLen)/\w.ownsRow base 9 1 v k (aH.map Value.string)
def AO(w:Γ)(g:Nat)(a:Ω):Prop:=g<w.heap.size/\w.heap[g]? =some (.cells a 29 (0,0))
variable{B:Nat}
def AO.K{g:Nat}{a:Ω}(h:AO w g a)(ar:g<B)(G:Below B w w'):AO w' g a:=
 ⟨cT G h.1,by rw[G.block g ar];exact h.2⟩
variable{k:Nat}{v:Φ}
def AT.K{base:Nat}(h:AT base v k w)(G:β w w'):AT base v k w':=by let⟨aH,H,I,a,aS⟩:=h;refine⟨aH,H,I,a,?_⟩;exact aoI
def apD(w:Γ)(s:Ψ):∀(j:Nat) (u:Φ),[Value.string s][j]? =some u->(w.alloc (.cells #[s] 9)).cell? ((⟨w,0,none⟩:Addr).add j)=some u:=by exact ab8
def av2(s:Ψ)(e:Ending):Prop:=∃t:Ψ,WG s t/\e=.returned (.string t)
def aiv{c:UInt8}(h:(((c.toNat:Nat):Int)==0)=true):c=0:=by
 have:c.toNat=0:=by simpa using h
 exact Wo.1 (by simpa using this)
def Yb(s:Ψ)(k:Nat)(h:k<s.size):s.data.toList[k]? =some s[k]:=by rw[j_ (by rw[iV];exact h)];rfl
def af'(s:Ψ)(k:Nat)(a:k<=s.size)(b:∀j,j<k->s.data.toList[j]? =some 0)(aP:∀h:k<s.size,s[k]≠0):WG s (s.extract k s.size):=
 at2 s _ k (afh s k) (by rw[iV];exact a) b λh=>aP (by rw[iV]at h;exact h)
def RI(s:Ψ)(w:Γ)(b:s.size<=maxLen):Calls prog 198 #[s] w λe w'=>av2 s e/\w=w':=by
 unfold maxLen at b;go_enter func198,ntmps198;go_wp2;go_loop [3] (λi=>∃k:Nat,k<=s.size/\i=.int .i64 k/\Hid (∀j,j<k->s.data.toList[j]? =some 0)) (λi=>s.size-(RowKit.intOf i).toNat);case atStart=>exact⟨0,dh _,rfl,λj c=>z⟩
 case round=>obtain⟨k,a,rfl,az⟩:=hrel;by_cases au:k<s.size;{go_wp2;exact aoi;{(have aE:((((s[k]'au).toNat:Nat):Int)==0)=false:=by assumption);go_ret;exact⟨⟨_,af' s k a az (λh e=>by rw[e]at aE;simp at aE),rfl⟩,rfl⟩}};{go_wp2;go_ret;exact⟨⟨_,af' s k a az (λh=>absurd h au),rfl⟩,rfl⟩}
def ahO(l:List UInt8)(k:Nat)(h:k<=6):aZ (l.take k)<281474976710656:=by exact aoP
def ahP(t:Ψ)(k:Nat)(h:k<t.size):aZ (t.data.toList.take (k+1))=aZ (t.data.toList.take k)*256+t[k].toNat:=by exact aoW
def vu(n:Nat)(e:Ending):Prop:=e=.returned (.tuple #[.int .i64 n,.bool true])
def Ec(s:Ψ)(w:Γ)(b:s.size<=maxLen)(a:aZ s.data.toList<256^7):Calls prog 200 #[s] w λe w'=>vu (aZ s.data.toList) e/\w=w':=by
 have c:=A a;clear a;go_enter func200,ntmps200;go_wp2_with (go_at_call 198;refine(RI s _ b).mono ?_;rintro e w' ⟨⟨t,T,rfl⟩,rfl⟩;have g:t.size<=7:=T.2.2 7 c;have f:decide (8<(t.size:Int))=false:=bw;have j:((t.size:Int)==8)=false:=bw);go_loop [4,5] (λn i=>∃k:Nat,k<=t.size/\i=.int .i64 k/\n=.int .i64 (aZ (t.data.toList.take k))) (λ_ i=>t.size-(RowKit.intOf i).toNat);case atStart=>exact⟨0,dh _,rfl,rfl⟩
 case round=>obtain⟨k,d,rfl,rfl⟩:=hrel;by_cases au:k<t.size;exact ao9;{(have TT:k=t.size:=z;have abh:aZ (t.data.toList.take k)=aZ s.data.toList:=by rw[TT,vg (by rw[iV];exact aY _)];exact T.1);exact aoY}
def RK(s:Ψ)(n:Nat)(w:Γ)(b:s.size<=maxLen)(d:n<=7)(a:aZ s.data.toList<256^n):Calls prog 123 #[s,n] w λe w'=>vu (aZ s.data.toList) e/\w=w':=by have c:Hid (aZ s.data.toList<256^7):=i4 a (k5 z d);have f:=A a;clear a;go_enter VU,ntmps123;go_wp2_with (first|(go_at_call 198;refine(RI s _ b).mono ?_;rintro e w' ⟨⟨t,T,rfl⟩,rfl⟩;have i:t.size<=n:=T.2.2 n f;have g:decide (n<t.size)=false:=bw)|(go_at_call 200;refine(Ec s _ b c).mono ?_;rintro e w' ⟨rfl,rfl⟩));go_ret2;exact⟨rfl,rfl⟩
def aDg:(prog.info? 5).map (λi=>(i.zero,i.size,i.bytes))=some (some (.int .u8 0),1,1):=aw
def xk(w:Γ)(v:Φ):∀(j:Nat) (u:Φ),[v][j]? =some u->(w.alloc (.cells #[v] 5)).cell? ((⟨w,0,none⟩:Addr).add j)=some u:=by exact ab8
def at4(n j:Nat):kj n (j+1)=kj n j++[(((n/2^(56-8*j))%256:Nat):Int)]:=by simp[kj,Li]
variable{aH:List Φ}
def wh{base:Nat}{e:TypeId}(h:w.ownsRow base e 1 v k aH):∀g,v.ownBlock=some g->base<=g:=by intro g ar;let⟨a,aS⟩:=h;exact ao0
def at7{base:Nat}{a b:Int}(h:w.ownsRow base 5 1 v k (aH++[.int .u8 a]))(e:a=b):w.ownsRow base 5 1 v k (aH++[.int .u8 b]):=e▸h
def Dg(n:Nat)(e:Ending):Prop:=∃t:Ψ,e=.returned (.string t)/\aZ t.data.toList=n/\(t.size<=8/\(n=0->t.size=0))
def at6(w:Γ):χ 121 #[.int .i64 0] w λe w'=>Dg 0 e:=by have a:=λ(w:Γ) (l c:Nat)=>V_ (P:=prog) (w:=w) 131 5 sK xH l c;have b:=λ(w:Γ) (l c:Nat)=>a w l c 106 K4;go_enter Q6,V1;go_wp2;refine AF 1 ?_;rw[pX];go_wp2_with (go_at_call 198;refine(RI _ _ (by simp[maxLen])).mono ?_;rintro e w' ⟨⟨t,T,rfl⟩,rfl⟩);go_ret;exact⟨⟨t,rfl,T.1.trans rfl,c6 T.2.1 al,λ_=>Nat.le_zero.1 (T.2.2 0 al)⟩,bl _ _⟩
def at5(n:Nat)(w:Γ)(af:0<n)(H:n<36028797018963968):χ 121 #[n] w λe w'=>Dg n e:=by
 let⟨B,G,L,D,K⟩:=iz aDg;have ag:decide (0<(n:Int))=true:=bw;go_enter Q6,V1;go_wp2;go_loopw [3,4] (λv i wr=>∃j:Nat,j<=8/\i=.int .i64 (56-8*(j:Int))/\wr.ownsRow w 5 1 v j ((kj n j).map (Value.int .u8))/\β w wr) (λ_ i _=>(RowKit.intOf i+8).toNat);case atStart=>exact⟨0,z,rfl,ne _ _ _ _,bl _ _⟩
 case round=>obtain⟨j,M,rfl,c,b⟩:=hrel;by_cases au:j<8;{(have u:j=0∨j=1∨j=2∨j=3∨j=4∨j=5∨j=6∨j=7:=z;have f:=at4 n j;rcases u with rfl|rfl|rfl|rfl|rfl|rfl|rfl|rfl);all_goals(have s:=A f;clear f;go_wp2_with (at_builtin;refine lP _ rfl _ _ 131 rfl w 5 B (.int .u8 0) 1 1 sK G L D K rfl al _ _ _ rfl (c.alloc _) ⟨wr,0,none⟩ 1 1 [_] rfl rfl (xk _ _) (by simp[Value.oneCell']) (by unfold maxLen;omega) z (by have:=b.size;simp;omega) ?_;intro O x l m _);have a:β w x:=(b.alloc b.size _).grown m (by have:=b.size;simp;omega) (wh c);have F:=A l;clear l m;(go_wp2;first|(refine⟨⟨1,z,bz,?_,a⟩,by simp[RowKit.intOf]⟩)|(refine⟨⟨2,z,bz,?_,a⟩,by simp[RowKit.intOf]⟩)|(refine⟨⟨3,z,bz,?_,a⟩,by simp[RowKit.intOf]⟩)|(refine⟨⟨4,z,bz,?_,a⟩,by simp[RowKit.intOf]⟩)|(refine⟨⟨5,z,bz,?_,a⟩,by simp[RowKit.intOf]⟩)|(refine⟨⟨6,z,bz,?_,a⟩,by simp[RowKit.intOf]⟩)|(refine⟨⟨7,z,bz,?_,a⟩,by simp[RowKit.intOf]⟩)|(refine⟨⟨8,z,bz,?_,a⟩,by simp[RowKit.intOf]⟩));rw[s.out,yO,afC];exact at7 F (by first|omega|(simp;omega)|(simp)))};{(obtain rfl:j=8:=z;let⟨r,E⟩:=c;rcases E with⟨_,Q⟩|⟨g,cap,y,rfl,U,iQ,N,S,C,q⟩);omega;{(have o:∀i,i<8->wr ⟨g,0+i,none⟩=some (.int .u8 ((kj n 8).getD i 0)):=λi hi=>by(have H:(y.toList.take (8*1))[i]? =((kj n 8).map (Value.int .u8))[i]? :=by rw[q]);(rw[pk,ci z,ou]at H;have I:i<(kj n 8).length:=by simpa[kj]using hi);exact an6);(have R:=Rc (P:=prog) wr 131 5 sK xH g 0 8 cap (kj n 8) (by simp[kj]) o 106 K4;have J:=A (at0 n H);have k:(strOfNums (kj n 8)).size=8:=by rw[Re];simp[kj]);have d:=A k;clear k o iQ C q r;go_wp2_with (go_at_call 198;refine(RI _ _ (by rw[d.out];unfold maxLen;omega)).mono ?_;rintro e w' ⟨⟨t,T,rfl⟩,rfl⟩);go_ret;exact⟨⟨t,rfl,T.1.trans (by rw[V'];exact J.out),by have:=T.2.1;rw[d.out]at this;exact this,λh=>z⟩,b⟩}}
def WH(n:Nat)(w:Γ)(H:n<36028797018963968):χ 121 #[n] w λe w'=>Dg n e:=by by_cases af:n=0;subst af;exact at6 w;exact at5 n w z H
def AY(s:Ψ)(n:Nat):Prop:=aZ s.data.toList=n/\(s.size<=8/\(n=0->s.size=0))
def XO(a b:Ψ)(m n:Nat)(w:Γ)(aL:AY a m)(G:AY b n)(f:m<281474976710656)(g:n<281474976710656):χ 54 #[a,b] w λe w'=>Dg (m+n) e:=by
 have d:=A aL;have c:=A G;clear aL G;have c1:∀w,Calls prog 123 #[a,.int .i64 7] w λe w'=>e=.returned (.tuple #[m,.bool true])/\w=w':=λw=>by have:=RK a 7 w (c6 d.out.2.1 al) z (by rw[d.out.1];exact i4 f al);rw[d.out.1]at this;exact this
 have c2:∀w,Calls prog 123 #[b,.int .i64 7] w λe w'=>e=.returned (.tuple #[n,.bool true])/\w=w':=λw=>by have:=RK b 7 w (c6 c.out.2.1 al) z (by rw[c.out.1];exact i4 g al);rw[c.out.1]at this;exact this
 have bp:=A c1;have bP:=A c2;have c3:∀w,χ 121 #[.int .i64 ((m:Int)+(n:Int))] w λe w'=>Dg (m+n) e:=λw=>by have:=WH (m+n) w z;rw[afv]at this;exact this
 have ia:=A c3;clear c1 c2 c3;go_enter V0,ntmps54;exact apb
def aFk(a b:Ψ)(m n:Nat)(w:Γ)(aL:AY a m)(G:AY b n)(f:m<16777216)(g:n<2147483648):χ 199 #[a,b] w λe w'=>Dg (m*n) e:=by
 have d:=A aL;have c:=A G;clear aL G;have i:m*n<36028797018963968:=by have H:m*n<=16777215*n:=rm _ z;omega
 have c1:∀w,Calls prog 123 #[a,.int .i64 3] w λe w'=>e=.returned (.tuple #[m,.bool true])/\w=w':=λw=>by have:=RK a 3 w (c6 d.out.2.1 al) z (by rw[d.out.1];exact i4 f al);rw[d.out.1]at this;exact this
 have c2:∀w,Calls prog 123 #[b,.int .i64 4] w λe w'=>e=.returned (.tuple #[n,.bool true])/\w=w':=λw=>by have:=RK b 4 w (c6 c.out.2.1 al) z (by rw[c.out.1];exact i4 g al);rw[c.out.1]at this;exact this
 have c3:∀w,χ 121 #[.int .i64 ((m:Int)*(n:Int))] w λe w'=>Dg (m*n) e:=λw=>by have:=WH (m*n) w i;rw[EN]at this;exact this
 have bp:=A c1;have bP:=A c2;have ia:=A c3;have j:wrap64 ((m:Int)*(n:Int))=(m:Int)*(n:Int):=Q4 _ ⟨by rw[<-EN];omega,by rw[<-EN];omega⟩;clear c1 c2 c3;go_enter VW,ntmps199;exact apb
def kg(w:Γ)(b n:Nat)(bQ:Nat->Nat):Prop:=b<w.heap.size/\∃cs:Ω,w.heap[b]? =some (.cells cs 106 (0,0))/\cs.size=n/\∀i,i<n->∃(s:Ψ) (m:Nat),cs[i]? =some (.string s)/\AY s m/\m<=bQ i
variable{b:Nat}{bQ:Nat->Nat}
def kg.cell(h:kg w b n bQ){i:Nat}(hi:i<n):∃(s:Ψ) (m:Nat),w ⟨b,i,none⟩=s/\AY s m/\m<=bQ i:=by let⟨_,cs,H,I,c⟩:=h;let⟨s,m,e,a⟩:=c i hi;exact⟨s,m,kQ H e,a⟩
def kg.K(h:kg w b n bQ)(c:b<B)(G:Below B w w'):kg w' b n bQ:=by let⟨af,cs,H,I,a⟩:=h;exact⟨cT G af,cs,by rw[G.block b c];exact H,I,a⟩
def kg.free(h:kg w b n bQ)(i:Nat):w.frozen? ⟨b,i,none⟩=false:=by let⟨_,cs,H,_⟩:=h;simp[World.frozen?,H]
def kg.mono{d:Nat->Nat}(h:kg w b n bQ)(hu:∀i,i<n->bQ i<=d i):kg w b n d:=by let⟨af,cs,H,I,e⟩:=h;exact⟨af,cs,H,I,λi hi=>by let⟨s,m,a,b,c⟩:=e i hi;exact⟨s,m,a,b,c6 c (hu i hi)⟩⟩
def kg.set(h:kg w b n bQ){j m:Nat}{s:Ψ}(l:j<n)(c:AY s m)(f:m<=bQ j):kg (w.setCell ⟨b,j,none⟩ (.string s)) b n bQ:=by let⟨af,cs,H,I,d⟩:=h;refine⟨by simpa using af,cs.setIfInBounds j (.string s),h' H _,by simpa using I,λi hi=>?_⟩;by_cases e:i=j;subst e;exact⟨s,m,by simp[I,hi],c,f⟩;let⟨g,k,a,b⟩:=d i hi;exact⟨g,k,by rw[AC (it e)];exact a,b⟩
def kg.zero(w:Γ):kg (w.alloc (.cells (Array.replicate 10 (.string ⟨#[]⟩)) 106)) w 10 (λ_=>0):=
 ⟨aq,Array.replicate 10 (.string ⟨#[]⟩),c7 w _,aq,λi hi=>⟨⟨#[]⟩,0,by simp[hi],⟨rfl,al,λ_=>rfl⟩,aY _⟩⟩
def aDK(a b n ca Y:Nat)(W C:Nat->Nat)(w:Γ)(ax:n<=10)(D:kg w a 10 W)(y:kg w b n C)(Q:∀i,i<10->W i<16777216)(Z:∀i,i<n->C i<2147483648)(sr:∀i,i<10->lq W C n i 10<281474976710656): Calls prog 122 #[.slice (some ⟨a,0,none⟩) 10 ca,.slice (some ⟨b,0,none⟩) n Y] w λe w'=>e=.returned (.slice (some ⟨w.heap.size,0,none⟩) 10 10)/\kg w' w.heap.size 10 (λi=>lq W C n i 10)/\β w w':=by
 have qf:∀w,(Instr.makeSlice 107 (.int .i64 10) (.int .i64 10)).run prog w=.ok (.slice (some ⟨w.heap.size,0,none⟩) 10 10) (w.alloc (.cells (Array.replicate 10 (.string ⟨#[]⟩)) 106)):=λw=>aw;have J:=D.1;have x:=y.1;go_enter func122,ntmps122;go_wp2;have kz:=kg.zero w;have ky:β w (w.alloc (.cells (Array.replicate 10 (.string ⟨#[]⟩)) 106)):=(bl _ _).alloc (aY _) _;generalize w.alloc (.cells (Array.replicate 10 (.string ⟨#[]⟩)) 106)=am at*;clear qf;go_loopw [6] (λi wr=>∃k:Nat,k<=10/\i=.int .i64 k/\kg wr w.heap.size 10 (λi=>lq W C n i k)/\β w wr) (λi _=>10-(RowKit.intOf i).toNat);case atStart=>exact⟨0,z,rfl,kz,ky⟩
 case round=>
  obtain⟨K,rfl⟩:∃K:Γ,K=wr:=⟨_,rfl⟩;obtain⟨k,aa,rfl,G,B⟩:=hrel;by_cases au:k<10
  .have af:(k:Int)<10:=z;go_wp2;go_loopw [7] (λi E=>∃m:Nat,1<=m/\m<=10/\i=.int .i64 m/\kg E w.heap.size 10 (λi=>uU W C n k m i)/\β w E) (λi _=>10-(RowKit.intOf i).toNat);case atStart=>exact⟨1,z,z,rfl,G.mono λi _=>by rw[aG4];exact aY _,B⟩
   case round=>
    obtain⟨m,mq,av,rfl,kp,iP⟩:=hrel;by_cases hx:m<n/\k+m<10
    .obtain⟨g,F⟩:=hx;have m':(m:Int)<n:=z;have l4:(k:Int)+(m:Int)<10:=z;obtain⟨t,L,fW,gY,eo⟩:=kp.cell (i:=k+m) z;obtain⟨T,va,g9,V,s⟩:=(D.K J iP).cell (i:=k) au;obtain⟨bS,f,ab,et,q⟩:=(y.K x iP).cell (i:=m) g;have d:w.heap.size<wr.heap.size:=kp.1;have ad:a<wr.heap.size:=cT iP J;have ae:b<wr.heap.size:=cT iP x;have U:va<16777216:=rk s (Q k au);have R:f<2147483648:=rk q (Z m g);have cF:L+va*f<281474976710656:=by have H:va*f<=W k*C m:=yQ s q;have I:=aqt W C n k m z g;have ah:=aqs W C n k (m+1) (k+m);have aS:=aso W C n (k+m) (k+1) 10 z;have b4:=sr (k+m) F;omega
     have gP:wr.frozen? ⟨w.heap.size,k+m,none⟩=false:=kp.free _;have k9:=A kp;clear kp;go_wp2;have bH:IntKind.i64.wrap ((k:Int)+(m:Int))=(k:Int)+(m:Int):=pU _ ⟨z,z⟩;have g6:(0:Int)<=(k:Int)+(m:Int):=z;have oh:((k:Int)+(m:Int)).toNat=k+m:=z;have q7:(0:Int)<=(k:Int):=z;have ag:(0:Int)<=(m:Int):=z
     go_region_law (first
       |(go_simp;go_at_call 199;refine(aFk T bS va f _ V et U R).mono ?_;rintro e j ⟨⟨X,rfl,M,jf⟩,c⟩;have P:j ⟨w.heap.size,k+m,none⟩=some (.string t):=(by rw[c.cell (by simpa using d)];exact fW);have S:j.frozen? ⟨w.heap.size,k+m,none⟩=false:=(by rw[c.frozen (by simpa using d)];exact gP))
       |(go_simp;go_at_call 54;refine(XO t X L (va*f) _ gY ⟨M,jf⟩ z z).mono ?_;rintro e l ⟨⟨cO,rfl,yw,lj⟩,o⟩;have bI:l.frozen? ⟨w.heap.size,k+m,none⟩=false:=(by rw[o.frozen (cT c d)];exact S);have dr:l ⟨w.heap.size,k+m,none⟩=some (.string t):=(by rw[o.cell (cT c d)];exact P)))
     all_goals(
      have kp:kg wr w.heap.size 10 (λi=>uU W C n k m i):=k9
      go_wp2
      have O:kg wr.drew w.heap.size 10 (λi=>uU W C n k m i):=kp.K d (lk wr)
      have r:w.heap.size<wr.drew.heap.size:=d
      have hR:Below w.heap.size wr.drew j:=c.mono (AK r)
      have u:w.heap.size<j.heap.size:=cT c r
      have gC:Below w.heap.size j l:=o.mono (AK u)
      have H:va*f<=W k*C m:=yQ s q
      have I:=aqt W C n k m z g
      have N:kg l w.heap.size 10 (λi=>uU W C n k (m+1) i):=((O.K r c).K u o).mono λi _=>aG3 W C n k m i
      exact⟨⟨m+1,z,z,bz,N.set F ⟨yw,lj⟩ z,(((iP.drew).trans hR).trans gC).setCell (aY _) _⟩,by simp[RowKit.intOf];omega⟩)
    .by_cases g:m<n
     .have l4:¬((k:Int)+(m:Int)<10):=z;exact aoy
     .exact aoy
  .obtain rfl:k=10:=z;go_wp2;go_ret;exact⟨rfl,G,B⟩
end Go.bk.N
namespace Go.bk
open Go Go.Proofs Go.RowKit
structure uf (s:Ψ):Prop where
 eo:1<=s.size
 hi:s.size<=20
 kP:∀k (Q:k<s.size),(97<=(s[k].toNat:Int)/\(s[k].toNat:Int)<=122)∨(65<=(s[k].toNat:Int)/\(s[k].toNat:Int)<=90)∨(0<k/\((s[k].toNat:Int)=95∨48<=(s[k].toNat:Int)/\(s[k].toNat:Int)<=57))
end Go.bk
namespace Go.bk
open Go Go.Proofs Go.RowKit Go.di
def s3(l m:List Nat)(k:Nat):Prop:=∀j,j<k->l[j]? =m[j]?
variable{l m:List Nat}{k:Nat}
def s3.xu(h:s3 l m k)(H:k<l)(I:k<m)(e:l[k]=m[k]):s3 l m (k+1):=λj b=>by
 by_cases a:j=k
 .subst a;rw[j_ H,j_ I,e]
 .exact h j z
def s3.all(h:s3 l m k)(c:l.length=m.length)(b:l.length<=k):l=m:=by apply Lb;intro j;by_cases a:j<k;exact h j a;rw[rh z,rh z]
def Su(w:Γ)(b a:Obj):β w ((w.alloc b).alloc a):=((bl _ _).alloc (aY _) _).alloc aq _
def Yc{a b:Ψ}(h:a≠b):(a.toList==b.toList)=false:=by rw[mx];intro e;rw[AE,AE]at e;apply h;cases a;cases b;congr 1;exact afe.1 e
def Lz(r q:bD):Prop:=r.h≠q.h∨r.op≠q.op∨r.aO≠q.aO∨r.args≠q.args
def jM(w:Γ)(b t:Nat)(v:Ω):Prop:=w.heap[b]? =some (.cells v t (0,0))
variable{w w':Γ}
def jM.K{b t:Nat}{v:Ω}(h:jM w b t v)(G:β w w'):jM w' b t v:=by unfold jM at*;rw[G.block b (de h)];exact h
def jM.d_(w:Γ)(t:Nat)(v:Ω):jM (w.alloc (.cells v t)) w t v:=c7 w _
def jy.cell{w:Γ}{ca:Θ}{cs:List (Ψ×Nat)}(h:jy w ca cs):∃b o,ca=some ⟨b,o,none⟩/\b<w.heap.size/\∀i (hi:i<cs.length),w ⟨b,o+i*2,none⟩=some (.string cs[i].1)/\w ⟨b,o+i*2+1,none⟩=some (.int .i64 cs[i].2):=by obtain⟨b,o,arr,bd,e,G,a⟩:=h;refine⟨b,o,e,de G,λi hi=>?_⟩;simp only[World.cell?,G];exact a i hi
def avx(s:Ψ):Prop:=s.data.toList.count 39=0
structure ahw (s:Ψ):Prop where
 hi:s.size<=60
 kP:∀k (Q:k<s.size),32<=(s[k].toNat:Int)/\(s[k].toNat:Int)<=126
 nq:avx s
structure ahI (ev:Nat) (r:bD):Prop where
 op:uf r.op
 aO:ahw r.aO
 iZ:r.args.length<=3
 args:∀a∈r.args,a<ev
 h:r.h<ev
structure Fm (S:c8):Prop where
 dk:S.dk<100
 nm:uf S.nm
 bB:∀c∈S.bB,uf c.1/\1<=c.2/\c.2<=5
 aML:∀i j (hi:i<S.bB.length) (ab:j<S.bB.length),i<j->S.bB[i].1≠S.bB[j].1
 aJ:∀c∈S.aJ,uf c.1/\1<=c.2/\c.2<=5
 aO9:∀i j (hi:i<S.aJ.length) (ab:j<S.aJ.length),i<j->S.aJ[i].1≠S.aJ[j].1
 dp:∀r∈S.dp,ahI S.aJ.length r
 aO6:S.dp.Pairwise Lz
structure ie (w:Γ) (aF:Ω) (wr:Γ):Prop where
 b:Below w.heap.size w wr
 g:jM wr w.heap.size 29 aF
def ie.K{wr:Γ}{a:Ω}(h:ie w a wr)(G:β wr w'):ie w a w':=
 ⟨b3 h.b G,h.g.K G⟩
def ie.d_(w:Γ)(a:Ω):ie w a (w.alloc (.cells a 29)):=⟨(bl _ _).alloc (aY _) _,jM.d_ _ _ _⟩
end Go.bk
namespace Go.bk.N
open Go Go.Proofs.Tryz Go.Proofs Go.RowKit Go.di
def Ps(s:Ψ)(w:Γ)(h:uf s):Calls prog 116 #[s] w λe w'=>e=.returned (.bool true)/\w=w':=by
 have H:=h.eo;have I:=h.hi;have ay:=A h.kP;clear h;have d:¬(s.size:Int)<1:=z;have f:¬20<(s.size:Int):=z;have g:(1:Int)<=(s.size:Int):=z;have j:(s.size:Int)<=20:=z;go_enter func116,ntmps116;go_wp2;go_loop [3] (λi=>∃k:Nat,k<=s.size/\i=.int .i64 k) (λi=>s.size-(RowKit.intOf i).toNat);case atStart=>exact⟨0,dh _,rfl⟩
 case round=>exact aEL
def aGR(s:Ψ)(w:Γ)(H:s.size<=60)(I:∀k (Q:k<s.size),32<=(s[k].toNat:Int)/\(s[k].toNat:Int)<=126):Calls prog 189 #[s] w λe w'=>e=.returned (.bool true)/\w=w':=by
 have ay:=A I;clear I;have c:¬60<(s.size:Int):=z;go_enter func189,ntmps189;go_wp2;go_loop [3] (λi=>∃k:Nat,k<=s.size/\i=.int .i64 k) (λi=>s.size-(RowKit.intOf i).toNat);case atStart=>exact⟨0,dh _,rfl⟩
 case round=>exact aEG
def avt(e:Ending):Prop:=∃s:Ψ,e=.returned (.string s)/\(s.toList==[32])=false
def aga(k:Nat)(w:Γ)(H:1<=k)(I:k<=5):χ 117 #[k] w λe w'=>avt e:=by
 have:k=1∨k=2∨k=3∨k=4∨k=5:=z;rcases this with rfl|rfl|rfl|rfl|rfl
 all_goals(go_enter func117,ntmps117;go_wp2_with (go_at_call 187;refine(aDS _).mono ?_;rintro e w' ⟨rfl,rfl⟩);go_ret;exact⟨⟨_,rfl,dV⟩,(bl _ _).alloc (aY _) _⟩)
def aFo{s:Ψ}(h:uf s):(s.toList==[32])=false:=by
 rw[mx,AE];intro e;have H:=h.eo;have I:s.data.toList.length=s.size:=iV;have b:=h.kP 0 z;have a:s.data.toList[0]? =some s[0]:=by rw[j_ z];rfl
 rw[e]at a;have c:(s[0]'z)=32:=by simpa using a.symm
 rw[c]at b;simp at b
def awb(e:Ending):Prop:=∃s:Ψ,e=.returned (.string s)/\(s.toList==[32])=false
def aKg(nm dk cs rs an:Φ)(a:Θ)(ss:List (Ψ×Nat))(M:Nat->Nat)(g i:Nat)(w:Γ)(j:s4 w a ss M)(d:∀c∈ss,uf c.1)(hi:i<ss)(r:ss.length<=12): χ 191 #[.agg #[nm,dk,cs,.slice a ss g,rs,an],i] w λe w'=>awb e:=by obtain⟨b,o,rfl,G,f⟩:=j;let⟨bi,_,_⟩:=f i hi;have k:=aFo (d _ (fp hi));have m:(i:Int)<ss.length:=z;have q:(0:Int)<=(i:Int):=z;have n:¬(ss.length:Int)<=(i:Int):=z;have l:¬(i:Int)<0:=z;clear d;go_enter func191,ntmps191;go_wp2;go_ret;exact⟨⟨_,rfl,k⟩,(bl _ _).alloc (aY _) _⟩
def aDv(a b:Θ)(c d:Nat)(l m:List Nat)(w:Γ)(aL:rp w a l)(G:rp w b m)(H:l.length<=1000)(I:m.length<=1000)(B:l≠m):Calls prog 278 #[.slice a l c,.slice b m d] w λe w'=>e=.returned (.bool false)/\rq w w':=by
 by_cases f:l.length=m.length
 .have aP:((l.length:Int) !=(m.length:Int))=false:=by simp[f]
  go_enter Q8,V3;go_wp2;go_loopw [5] (λi wr=>∃k:Nat,k<=l.length/\i=.int .i64 k/\rq w wr/\s3 l m k) (λi _=>l.length-(RowKit.intOf i).toNat);case atStart=>exact⟨0,dh _,rfl,⟨0,rfl⟩,λj x=>absurd x (wu _)⟩
  case round=>
   obtain⟨k,D,rfl,⟨q,rfl⟩,o⟩:=hrel;have r:=A o;clear o;by_cases au:k<l
   .obtain⟨L,N,rfl,E,s⟩:=aL z;obtain⟨J,M,rfl,K,t⟩:=G z;have F:=s k au;have u:=t k z;obtain⟨y,n⟩:∃y,m[k]'z=y:=⟨_,rfl⟩;rw[n]at u;have O:(0:Int)<=(k:Int):=z;have P:(k:Int)<l.length:=z;have Q:(k:Int)<m.length:=z;have R:=A f;clear s t aL G;by_cases g:l[k]=y
    .have ak:((l[k]:Int) !=(y:Int))=false:=by simp[g]
     have C:=A (r.out.xu au z (g.trans n.symm));clear g f aP n;go_wp2;go_quiet (fail)
     go_wp2;all_goals first
      |(
       go_roundw
       case rel=>exact⟨k+1,z,bz,⟨_,(by first|rfl|exact World.drewN_drewN _ _ _)⟩,C⟩
       case measure=>simp[RowKit.intOf];omega)
      |(exfalso;simp_all)
    .have ak:((l[k]:Int) !=(y:Int))=true:=bw;clear g f aP n;go_wp2;go_quiet (fail);go_wp2;all_goals first|(go_ret;exact⟨rfl,_,(by first|rfl|exact World.drewN_drewN _ _ _)⟩)|(exfalso;simp_all)
   exact absurd (r.out.all f z) B
 .have aP:((l.length:Int) !=(m.length:Int))=true:=bw;clear f;go_enter Q8,V3;go_wp2;all_goals(go_ret;exact⟨rfl,0,rfl⟩)
end Go.bk.N
namespace Go.bE
open Go Go.Proofs.Tryz Go.Proofs Go.RowKit Go.Lib Go.aM
def anQ{s:Ψ}(H:1<=s.size)(I:s.size<=20)(h:(s.data.toList.all λc=>Nat.ble 97 c.toNat&&Nat.ble c.toNat 122)=true):Go.bk.uf s:=⟨H,I,λk a=>.inl (by
 have b:s[k]∈s.data.toList:=by
  rw[ES]
  exact⟨k,Yb s k a⟩
 have:=iq.1 h _ b
 simp only[dW,Lk]at this
 omega)⟩
def aDR:Go.bk.uf lM:=anQ al al al
def awN:Go.bk.uf lv:=anQ al al al
attribute [local irreducible] wpStill in
def aFp(w:Γ)(a:Θ)(c:Nat)(h:g0 aD w a [lM,lv]): χ 401 #[.slice a 2 c] w λe w'=>oW e:=by obtain⟨b,o,rfl,_,i,d⟩:=h.2 aq;have bi:=d 0 aq;have c1:=d 1 aq;simp only[AG,H2,hY]at bi c1;have f:=A λw=>Go.bk.N.Ps lM w aDR;have g:=A λw=>Go.bk.N.Ps lv w awN;have ak:(lM.toList==lv.toList)=false:=fX al;clear d h;go_enter func401,ntmps401;generalize lM=x at*;generalize lv=y at*;go_wp2;refine AF 3 ?_;rw[pX];go_wp2_with (go_at_call 116;refine(f.out _).mono ?_;rintro e w' ⟨rfl,rfl⟩);refine AF 1 ?_;rw[pX];go_wp2;rw[pX];go_wp2_with (go_at_call 116;refine(g.out _).mono ?_;rintro e w' ⟨rfl,rfl⟩);refine AF 2 ?_;rw[pX];go_wp2;go_quiet (fail);go_wp2;rw[pX];go_wp2;rw[pX];go_wp2;go_ret;exact⟨rfl,pV (bl _ _) _⟩
def aIw(w:Γ)(a ra:Θ)(c rc:Nat)(aG:List (List bs))(h:g0 aD w a [lM,lv])(u:fz aD (aR aD 0) w ra aG)(ax:aG.length<=3)(ar:∀r∈aG,t_ r): Calls prog 304 #[.slice a 2 c,.slice ra aG.length rc] w λe w'=>oW e/\β w w':=by
 have I:=A (aFp w a c h);have M:=A (λW (U:β w W)=>(fz.K (aR.mono aD 0) u U).2);have C:=A (λi (hi:i<aG.length)=>ar _ (fp hi));have dZ:¬100<(aG.length:Int):=z;have q:=A ac7;have R:=A ac6;clear h u ar;go_enter func304,ntmps304;go_wp2_with (go_at_call 401;refine I.out.mono ?_;rintro e j ⟨rfl,t⟩);have J:Hid (β w j):=t;clear I t;go_loopw [6] (λi wr=>∃k:Nat,k<=aG.length/\i=.int .i64 k/\β j wr) (λi _=>aG.length-(RowKit.intOf i).toNat);case atStart=>exact⟨0,dh _,rfl,bl _ _⟩
 case round=>obtain⟨l,rfl⟩:∃l:Γ,l=wr:=⟨_,rfl⟩;obtain⟨k,aa,rfl,G⟩:=hrel;by_cases au:k<aG.length;{(have n:β w l:=b3 J.out G;obtain⟨cV,lX,rfl,_,K,P⟩:=M.out _ n z;obtain⟨dI,eu,g,o⟩:=P k au;obtain⟨s,N,lL,E,ab,Bt⟩:=C.out k au;rw[lL]at g o;obtain⟨jq,gP,rfl,_,d,m⟩:=o.2 aq;obtain⟨es,bY,kz,nr,hc,jC,M8,jD,jj,P0,jK,ks,hH⟩:=m 0 aq;obtain⟨bN,bH,y,cL,bT,fq,mB,fs,e5,mO,e6,hV,ik⟩:=m 1 aq;obtain⟨_,M1,M7,PT,PV,dA,_⟩:=ks;obtain⟨_,Sz,SD,U7,U_,ak,_⟩:=hV;obtain⟨fV,Y,Z,du,oO,xB,ph⟩:=hH;obtain⟨H,F,D,B,O,L,Q⟩:=ik;injection dA with dA);(injection ak with ak);simp only[qs,HX,HY,EK,EX,AM]at dA ak;obtain⟨rfl,rfl,rfl,rfl,rfl,⟨rfl,rfl,rfl⟩,rfl,rfl,rfl⟩:=dA;obtain⟨rfl,rfl,rfl,rfl,rfl,⟨rfl,rfl,rfl⟩,rfl,rfl,rfl⟩:=ak;have gb:(k:Int)<aG.length:=z;have gQ:(0:Int)<=(k:Int):=z;have jg:(k:Int)<=100:=z;simp only[vh,hY,Rr,l8,tV,Nat.reduceAdd]at fV Y Z du oO xB ph H F D B O L Q g;have x:hC y ((0:Nat):Int):=⟨aq,aq,z,z,.inl rfl⟩;clear P m;go_wp2;refine AF 3 ?_;rw[pX];have vp:=A (λW=>q.out bY jC jD jj jK W E);have T:=A (λW=>R.out y 0 fq fs e5 e6 W x);clear q R x E M C;go_wp2_with (go_at_call 211;refine(vp.out _).mono ?_;rintro e X ⟨rfl,b⟩);have i7:β w X:=b3 n b;have S:=aA b K g;have z0:=aA b d H;have cC:=aA b d F;have dC:=aA b d D;have z3:=aA b d B;have z4:=aA b d O;have z5:=aA b d L;have eJ:=aA b d Q;rw[pX];go_wp2_with (go_at_call 211;refine(T.out _).mono ?_;rintro e V ⟨rfl,f⟩);have qA:β w V:=b3 i7 f;have ys:=aA f (cT b K) S;rw[pX];(go_wp2;go_roundw;case rel=>first|exact⟨k+1,z,bz,G.trans ((b3 b f).mono G.size)⟩|((repeat apply Exists.intro);refine⟨?_,rfl⟩;exact⟨k+1,z,bz,G.trans ((b3 b f).mono G.size)⟩));case measure=>simp[RowKit.intOf];omega};{go_wp2;go_ret;exact⟨rfl,b3 J.out G⟩}
def aIn(w:Γ)(a ra:Θ)(c rc:Nat)(aG:List (List bs))(h:g0 aD w a [lM,lv])(b:fz aD (aR aD 0) w ra aG)(j:aG.length<=3)(ar:∀r∈aG,t_ r): χ 211 #[.agg (bC 5 bX 0 0 0 a 2 c ra aG rc)] w λe w'=>oW e:=by
 have T:=k0 w (.cells (bC 5 bX 0 0 0 a 2 c ra aG rc) 44 (0,0)) (.cells (bC 5 bX 0 0 0 a 2 c ra aG rc) 44 (0,0));have l:=A (aIw _ a ra c rc aG (h.K T.h) (fz.K (aR.mono aD 0) b T.h) j ar);have k:=A λW (d:β w W)=>(Za 1 1 W (bC 5 bX 0 0 0 a 2 c ra aG rc) (bC 5 bX 0 0 0 a 2 c ra aG rc) (jl aG) (jl aG) ⟨_,_,_,_,rfl,h.K d,fz.K (aR.mono aD 0) b d⟩ ⟨_,_,_,_,rfl,h.K d,fz.K (aR.mono aD 0) b d⟩);clear h b ar;go_enter VX,ntmps211
 go_wp2_with (first
  |(go_at_call 304;(with_reducible refine(l.out).mono ?_);rintro e p ⟨rfl,g⟩;have f:=T.K g;obtain⟨z,u,x,C,E,D,F⟩:=eU f.p;obtain⟨fi,s,t,B,G,I,H⟩:=eU f.q;have i:=A f.h;clear f T g)
  |(go_at_call 66;(with_reducible refine(k.out _ i.out).mono ?_);rintro e q ⟨⟨y,rfl,o⟩,m⟩;have n:=A (b3 i.out m);obtain rfl:=o (by trivial)))
 go_ret;exact⟨rfl,n.out⟩
def ac5{n:Nat}{v:bs}(J:e9 n v)(w:Γ)(F:Ω)(h:aR aD 1 w F v):χ 211 #[.agg F] w λe w'=>oW e:=by
 cases J with
 |gY e af H=>obtain⟨ca,cc,ra,rc,rfl,_⟩:=h;exact aIm e ca cc ra rc w af H
 |hX s a=>obtain⟨ca,cc,ra,rc,rfl,_⟩:=h;exact ac7 s ca cc ra rc w a
 |gR N S a _ _=>obtain⟨ca,cc,ra,rc,rfl,_⟩:=h;exact ac6 N S ca cc ra rc w a
 |kD d af H=>obtain⟨ca,cc,ra,rc,rfl,_⟩:=h;exact ari d ca cc ra rc w af H
 |lX b a=>obtain⟨ca,cc,ra,rc,rfl,_⟩:=h;exact aIl b ca cc ra rc w a
 |jl aG g a=>obtain⟨ca,cc,ra,rc,rfl,c,f⟩:=h;exact aIn w ca ra cc rc aG c f g a
def aj0(n:Int)(w:Γ):χ 207 #[n] w λe w'=>e=.returned (.agg (bC 0 bX 0 0 n none 0 0 none 0 0)):=by go_enter func207,ntmps207;go_wp2;refine gd (by simp[results,results207,go_sem];rfl) rfl ?_;exact⟨rfl,by first|exact bl _ _|exact(bl _ _).alloc (aY _) _⟩
def ahF(e:Ending):Prop:=∃n:Int,e=.returned (.int .i64 n)/\1<=n/\n<=99
def ajV(n:Int)(ca ra:Θ)(cc rc:Nat)(af:0<=n)(H:n<=99)(w:Γ):χ 475 #[.agg (bC 0 bX 0 0 n ca 0 cc ra 0 rc)] w λe w'=>ahF e:=by
 by_cases a:n=0
 .subst a;go_enter func475,ntmps475;go_wp2;go_ret;exact⟨⟨_,rfl,al,al⟩,(bl _ _).alloc (aY _) _⟩
 .have q:(n==0)=false:=by rw[mx];exact a
  go_enter func475,ntmps475;go_wp2;go_ret;exact⟨⟨_,rfl,z,H⟩,(bl _ _).alloc (aY _) _⟩
def avC(k a:Int)(e:Ending):Prop:=∃n:Int,e=.returned (.int .i64 n)/\0<=n/\n<=99/\(n=0->k=a)
variable{n:Nat}
def Sr(k N S n':Int)(s:Ψ)(cs:List Ψ)(aG:List (List bs))(J:e9 n (.mk k s N S n' cs aG))(c:Int)(H:1<=c)(w:Γ)(F:Ω)(h:aR aD 1 w F (.mk k s N S n' cs aG)):χ 473 #[.agg F,c] w λe w'=>avC k c e:=by
 by_cases af:k=0
 .subst af;cases J with
  |gY _ o m=>
   obtain⟨ca,cc,ra,rc,rfl,_⟩:=h;have B:=c7 w (.cells (bC 0 bX 0 0 n' ca 0 cc ra 0 rc) 44 (0,0));have d:=A λw=>ajV n' ca ra cc rc o m w;go_enter func473,ntmps473
   go_wp2_with (go_at_call 475;(with_reducible refine(d.out _).mono ?_);rintro e j ⟨⟨x,rfl,y,u⟩,a⟩);go_ret;exact⟨⟨_,rfl,z,u,λh=>z⟩,((bl _ _).alloc (aY _) _).trans (a.mono aq)⟩
 .have q:(k==0)=false:=by simpa using af
  have f:β w (w.alloc (.cells F 44 (0,0))):=(bl _ _).alloc (aY _) _;have d:=A (ac5 J _ F (h.K f));obtain⟨ca,cc,ra,rc,rfl,_⟩:=h;have l:=c7 w (.cells (bC k s N S n' ca cs cc ra aG rc) 44 (0,0));have au:=jt w (.cells (bC k s N S n' ca cs cc ra aG rc) 44 (0,0));clear J;by_cases g:k=c
  .subst g;go_enter func473,ntmps473;go_wp2_with (go_at_call 211;(with_reducible refine(d.out).mono ?_);rintro e j ⟨rfl,a⟩;have r:=aN 0 ((a.block _ z).trans l));go_ret;exact⟨⟨_,rfl,al,al,λ_=>rfl⟩,f.trans (a.mono aq)⟩
  .have C:(k==c)=false:=by simpa using g
   go_enter func473,ntmps473;go_wp2_with (go_at_call 211;(with_reducible refine(d.out).mono ?_);rintro e j ⟨rfl,a⟩;have r:=aN 0 ((a.block _ z).trans l));go_ret;exact⟨⟨_,rfl,al,al,λh=>by simp at h⟩,f.trans (a.mono aq)⟩
def jk:(prog.info? 44).map (·.size)=some 7:=aw
def j5{P:Program}{fn:Func}{p q:Tmp}{ty:TypeId}(h:fn.results=#[.cell p ty,.tmp q])(tmps:Ω)(w:Γ)(g:Nat)(t:TypeId)(cs:Ω)(fr:Nat×Nat)(d:TypeDesc)(v:Φ) (ag:tmps.getD p undef=.pointer (some ⟨g,0,none⟩))(a:tmps.getD q undef=v)(ar:w.heap[g]? =some (.cells cs t fr)) (hu:P.underlying ty=some d)(hd:(match d with|.struct _|.array _ _=>true|_=>false)=true)(hi:(P.info? ty).map (·.size)=some cs.size): (results fn tmps).run P w=.ok (.tuple #[.agg cs,v]) w:=by
 have b:tmps[p]?.getD undef=.pointer (some ⟨g,0,none⟩):=by simpa using ag
 have c:tmps[q]?.getD undef=v:=by simpa using a
 simp[results,h,b,c,asAddr,run_loadVar_row w g t ty cs fr d ar hu hd hi]
abbrev Ae(w:Γ)(r:Nat)(u0 u1 u2 u3 u4 u5 u6:Φ):Γ:=((((((w.setCell ⟨r,0,none⟩ u0).setCell ⟨r,1,none⟩ u1).setCell ⟨r,2,none⟩ u2).setCell ⟨r,3,none⟩ u3).setCell ⟨r,4,none⟩ u4).setCell ⟨r,5,none⟩ u5).setCell ⟨r,6,none⟩ u6
variable{w:Γ}{r:Nat}
def iJ{a b c d e f g:Φ}{t:TypeId}{fr:Nat×Nat}(h:w.heap[r]? =some (.cells #[a,b,c,d,e,f,g] t fr))(u0 u1 u2 u3 u4 u5 u6:Φ):(Ae w r u0 u1 u2 u3 u4 u5 u6).heap[r]? =some (.cells #[u0,u1,u2,u3,u4,u5,u6] t fr):=by have af:=h' (i:=0) h u0;have H:=h' (i:=1) af u1;have I:=h' (i:=2) H u2;have k:=h' (i:=3) I u3;have j:=h' (i:=4) k u4;have l:=h' (i:=5) j u5;have m:=h' (i:=6) l u6;simpa using m
variable{W:Γ}
def iU{B:Nat}(h:Below B w W)(a:B<=r)(u0 u1 u2 u3 u4 u5 u6:Φ):Below B w (Ae W r u0 u1 u2 u3 u4 u5 u6):=by have af:=h.setCell (p:=⟨r,0,none⟩) a u0;have H:=af.setCell (p:=⟨r,1,none⟩) a u1;have I:=H.setCell (p:=⟨r,2,none⟩) a u2;have c:=I.setCell (p:=⟨r,3,none⟩) a u3;have b:=c.setCell (p:=⟨r,4,none⟩) a u4;have d:=b.setCell (p:=⟨r,5,none⟩) a u5;exact d.setCell (p:=⟨r,6,none⟩) a u6
variable{B:Nat->Prop}
def Kr(h:eR B w W)(a:¬B r)(u0 u1 u2 u3 u4 u5 u6:Φ):eR B w (Ae W r u0 u1 u2 u3 u4 u5 u6):=by have af:=h.set a 0 u0;have H:=af.set a 1 u1;have I:=H.set a 2 u2;have c:=I.set a 3 u3;have b:=c.set a 4 u4;have d:=b.set a 5 u5;exact d.set a 6 u6
section
variable {P:Program} (w:Γ)
def aIy(base:Nat)(t ty e:TypeId)(i:TypeInfo)(ai:Φ)(size bytes:Nat)(aj:P.underlying t=some (.slice e))(hi:P.info? e=some i)(r:i.zero=some ai) (D:i.size=size)(B:i.bytes=bytes) (v:Φ)(n:Nat)(aH:List Φ)(f:w.ownsRow base e size v n aH) (a:Addr)(m c:Nat)(fD:List Φ)(d:fD.length=m*size)(l:∀j u,fD[j]? =some u->w.cell? (a.add j)=some u)(H:∀u∈fD,u.oneCell'=true) (E:0<m)(C:n+m<=maxLen)(x:(n+m)*bytes<=140737488355328)(k:Φ)(w':Γ)(b:(Builtin.append_ #[t,t] ty #[v,.slice (some a) m c]).run P w=.ok k w'): k.ownBlock=v.ownBlock∨k.ownBlock=some w:=by
 subst D;subst B;have I:n+m<=9223372036854775807:=by simp only[maxLen]at C;omega
 rcases f.2 with⟨rfl,rfl⟩|⟨g,cap,s,rfl,J,ar,K,F,A,L⟩
 .rw[run_append_nil (P:=P) w t ty e i ai aj hi r a m c fD d l E z (by have G:=x;simp only[gy]at G;omega)]at b;injection b with ak q
  exact .inr (by rw[<-ak];rfl)
 .by_cases o:n+m<=cap
  .have y:n*i.size+fD.length<=s.size:=by rw[d,A,<-xM];exact rm _ o
   rw[run_append_room (P:=P) w t ty e i aj hi g n cap s ar a m c fD d l H o y]at b;injection b with ak q
   exact .inl (by rw[<-ak];rfl)
  .have holds:∀j u,aH[j]? =some u->w.cell? ((⟨g,0,none⟩:Addr).add j)=some u:=f.cells (g:=g) rfl;rw[run_append_grow (P:=P) w t ty e i ai aj hi r ⟨g,0,none⟩ n cap aH f.1 holds a m c fD d l z z (growslice_fits z x)]at b;injection b with ak q
   exact .inr (by rw[<-ak];rfl)
variable {w}
def asW{ops:Array Oper}{rest:List Oper}{o:Oper}{a:Act}{c':Exit->Act->Γ->Prop}(L:o.guard=none)(s x:Operand)(t:TypeId)
  (E:o.op=.call {callee:=.builtin .append,args:=#[s,x],argTypes:=#[t,t]})
  (base:Nat)(e:TypeId)(i:TypeInfo)(ai:Φ)(size bytes:Nat)(aj:P.underlying t=some (.slice e))(hi:P.info? e=some i)(g:i.zero=some ai)
  (r:i.size=size)(l:i.bytes=bytes)(J:ai.cells.size=size)(G:0<size)
  (v:Φ)(n:Nat)(aH:List Φ)(z:a.eval s=v)(k:w.ownsRow base e size v n aH)
  (ad:Addr)(m c:Nat)(fD:List Φ)(B:a.eval x=.slice (some ad) m c)(d:fD.length=m*size)(y:∀j u,fD[j]? =some u->w.cell? (ad.add j)=some u)(H:∀u∈fD,u.oneCell'=true)
  (M:0<m)(q:n+m<=maxLen)(p:(n+m)*bytes<=140737488355328)(K:base<=w.heap.size)
  (h:∀b w',w'.ownsRow base e size b (n+m) (aH++fD)->w.grownBy w' v.ownBlock->b≠ .slice none 0 0->(b.ownBlock=v.ownBlock∨b.ownBlock=some w.heap.size)->wpList P ops c' rest (a.put o.dst b) w'):wpList P ops c' (o::rest) a w:=
 Wb L λ_ F=>by
  obtain⟨b,w',f,I,C,A⟩:=run_append_own (P:=P) w base t o.type e i ai size bytes aj hi g r l J G v n aH k ad m c fD d y H q p K
  have D:=aIy (P:=P) w base t o.type e i ai size bytes aj hi g r l v n aH k ad m c fD d y H M q p b w' f
  unfold Oper.wp execOp
  simp only[E,resolve,invoke,builtin,e7,fI,eY,Rl,qu,ER,z,B,f]
  exact F _ _ (h b w' I C (λe=>by have:=(A.1 e).2;omega) D)
end
def abw:(prog.info? 44).map (λi=>(i.zero,i.size,i.bytes))=some (some (.agg #[.int .i64 0,.string ⟨#[]⟩,.int .i64 0,.int .i64 0,.int .i64 0,.slice none 0 0,.slice none 0 0]),7,96):=aw
def i_(base:Nat)(v:Φ):Nat->Prop:=λb=>base<=b/\some b≠v.ownBlock
structure k7 (base d:Nat) (w:Γ) (v:Φ) (l:List bs):Prop where
 o:∃ce:List Ω,ce.length=l.length/\w.ownsRow base 44 7 v l.length (ce.flatMap Array.toList)/\∀j (H:j<ce.length) (I:j<l.length),aR (i_ base v) d w ce[j] l[j]
def k7.nil(base d:Nat)(w:Γ):k7 base d w (.slice none 0 0) []:=⟨[],rfl,ne _ _ _ _,λj H=>by cases H⟩
variable{d:Nat}{v:Φ}
def k7.gX{base:Nat}{l:List bs}(h:k7 base d w v l):∃a c,v=.slice a l c:=by let⟨e,H,I,b⟩:=h.o;exact UA
def bM{b:Nat}{o:Obj}(h:w.heap[b]? =some o):b<w.heap.size:=(hl.1 h).1
variable{w':Γ}
def uS{base:Nat}{e:TypeId}{size:Nat}{aH:List Φ}(h:w.ownsRow base e size v n aH)(d:eR (fj base) w w'):w'.ownsRow base e size v n aH:=by
 let⟨f,a⟩:=h;refine⟨f,?_⟩;rcases a with a|⟨g,cap,j,ak,b,c,i⟩
 exact .inl a;exact .inr ⟨g,cap,j,ak,b,by rw[d.2 g b (bM c)];exact c,i⟩
def eR.yL{B':Nat->Prop}(h:eR B w w')(a:∀b,B' b->B b):eR B' w w':=⟨h.1,λb G=>h.2 b (a b G)⟩
def k7.eB{base:Nat}{l:List bs}(h:k7 base d w v l)(Q:eR (fj base) w w'):k7 base d w' v l:=by exact ao5
def k7.K{base:Nat}{l:List bs}(h:k7 base d w v l)(G:β w w'):k7 base d w' v l:=h.eB (.hs G)
def KR{ops:Array Oper}{rest:List Oper}{o:Oper}{a:Act}{c':Exit->Act->Γ->Prop}(T:o.guard=none)(s x:Operand) (L:o.op=.call {callee:=.builtin .append,args:=#[s,x],argTypes:=#[45,45]}) {w:Γ}{base d:Nat}{v:Φ}{l:List bs}{k N S n:Int}{t:Ψ}{ca:Θ}{cl cc:Nat}{ra:Θ}{rl rc:Nat}{y:bs} (B:a.eval s=v)(J:k7 base d w v l)(D:a.eval x=.slice (some ⟨w.heap.size,0,none⟩) 1 1)(Q:aR (i_ base v) d w (bC k t N S n ca cl cc ra rl rc) y)(W:l.length<=100)(jE:base<=w.heap.size) (h:∀c w',k7 base d w' c (l++[y])->(w.alloc (.cells (bC k t N S n ca cl cc ra rl rc) 44)).grownBy w' v.ownBlock->Below base w w'->wpList prog ops c' rest (a.put o.dst c) w'): wpList prog ops c' (o::rest) a (w.alloc (.cells (bC k t N S n ca cl cc ra rl rc) 44)):=by
 obtain⟨i,hi,R,U,V⟩:=iz abw;obtain⟨g,H,I,E⟩:=J.o;refine asW T s x 45 L base 44 i _ 7 96 underlying45 hi R U V rfl al v l.length (g.flatMap Array.toList) B (uS I ((eR.refl _ w).alloc _)) ⟨w.heap.size,0,none⟩ 1 1 (bC k t N S n ca cl cc ra rl rc).toList D rfl (r5 (pW w _)) (by simp[Value.oneCell']) al (by unfold maxLen;omega) z bw λc w' C bb X f=>h c w' ?_ bb ?_
 .have A:eR (i_ base v) w w':=⟨by have:=bb.size;simp at this;omega,λb G au=>by
   rw[bb.block b bw G.2]
   exact CJ w _ b au⟩
  have r:∀F u,aR (i_ base v) d w F u->aR (i_ base c) d w' F u:=λF u M=>by(have au:aR (λb=>i_ base v b/\b<w.heap.size) d w F u:=aR.lt M;refine(aR.low ?_ (au.eB (A.yL λb G=>G.1)):aR (i_ base c) d w' F u);rintro b ⟨⟨O,K⟩,cF⟩;refine⟨O,λe=>?_⟩;rcases f with f|f);{exact K (e.trans f)};{rw[f]at e;simp at e;omega}
  refine⟨g++[bC k t N S n ca cl cc ra rl rc],by simp[H],?_,λj a b=>?_⟩
  .simpa using C
  .by_cases q:j<g.length
   .have m:j<l.length:=z;rw[xI q,xI m];exact r _ _ (E j q m)
   .have m:¬j<l.length:=z;rw[xJ z,xJ z];simp only[Rk];exact r _ _ Q
 .exact aph
def aj6:∀(a:List Ω) (_:∀F∈a,F.size=7) (j:Nat) (b:j<a) (i:Nat) (_:i<7),(a.flatMap Array.toList)[j*7+i]? =a[j][i]?
 |F::a,h,0,_,i,hi=>by have c:=h F aq;rw[yN,CM (by rw[iV];omega)];simp
 |F::a,h,j+1,b,i,hi=>by have c:=h F aq;rw[yN,EP (by rw[iV];omega),iV,c];rw[show(j+1)*7+i-7=j*7+i by omega];exact aj6 a (λd e=>h d (jw _ e)) j (by simpa using b) i hi
def k7.P7{base:Nat}{l:List bs}(h:k7 base d w v l)(A:l.length<=8):∃a c,v=.slice a l c/\cm (fj base) (aR (fj base) d) w a l:=by
 let⟨m,H,I,q⟩:=h.o;obtain⟨a,c,rfl⟩:=h.gX;refine⟨a,c,rfl,A,λaf=>?_⟩;have B:∀F∈m,F.size=7:=λF f=>by let⟨j,o,e⟩:=AI.1 f;have J:=q j o z;rw[e]at J;generalize l[j]'z=u at J;let⟨k,s,N,S,n,cs,aG⟩:=u;obtain⟨_,_,_,_,rfl,_⟩:=J.gX;rfl
 have C:=I;rcases I.2 with⟨D,x⟩|⟨g,cap,K,ak,t,y,E,L,M,O⟩
 exact absurd x z
 .injection ak with r _ _
  refine⟨g,0,r,t,bM y,λj o=>?_⟩;have J:=q j z o;have f:∀i u,i<7->(m[j]'z)[i]? =some u->w ⟨g,0+j*7+i,none⟩=some u:=λi u hi hu=>by have:=C.cells (g:=g) (by rw[r];rfl) (j*7+i) u (by rw[aj6 m B j z i hi];exact hu);rw[AD]at this;simpa[k4]using this
  generalize m[j]'z=F at J f;generalize l[j]=u at J;let⟨k,s,N,S,n,cs,aG⟩:=u;obtain⟨ca,cc,ra,rc,rfl,_⟩:=J.gX;exact⟨k,s,N,S,n,ca,cs.length,cc,ra,aG.length,rc,J.low λb G=>G.1,f 0 _ z rfl,f 1 _ z rfl,f 2 _ z rfl,f 3 _ z rfl,f 4 _ z rfl,f 5 _ z rfl,f 6 _ z rfl⟩
end Go.bE
namespace Go.aM
open Go Go.Proofs.Tryz Go.Proofs Go.RowKit Go.Lib
structure hv (W:Γ) (b:Nat) (x y ai:Φ):Prop where
 h:W.heap[b]? =some (.cells #[x,y,ai] 338 (0,0))
variable{W:Γ}{b:Nat}{x y:Φ}
def hv.lt{ai:Φ}(h:hv W b x y ai):b<W.heap.size:=(hl.1 h.h).1
variable{W':Γ}
def hv.K{ai:Φ}(h:hv W b x y ai)(G:β W W'):hv W' b x y ai:=⟨(G.block b h.lt).trans h.h⟩
def hv.alloc{ai:Φ}(h:hv W b x y ai)(o:Obj):hv (W.alloc o) b x y ai:=h.K ((bl _ _).alloc (aY _) o)
def hv.drew{ai:Φ}(h:hv W b x y ai):hv W.drew b x y ai:=h.K ((bl _ _).drew)
def hv.d_(W:Γ)(x y ai:Φ):hv (W.alloc (.cells #[x,y,ai] 338 (0,0))) W x y ai:=⟨c7 W _⟩
def hv.bi{ai:Φ}(h:hv W b x y ai):W ⟨b,0,none⟩=some x:=aN 0 h.h
def hv.c1{ai:Φ}(h:hv W b x y ai):W ⟨b,1,none⟩=some y:=aN 1 h.h
def hv.c2{ai:Φ}(h:hv W b x y ai):W ⟨b,2,none⟩=some ai:=aN 2 h.h
def hv.ai{i:Nat}{ai:Φ}(h:hv W b x y ai):W.frozen? ⟨b,i,none⟩=false:=cM h.h
structure zc (w W:Γ) (bx b0 cF:Nat) (dP dz cC dq dJ dC du cP z3:Φ):Prop where
 p:hv W bx dP dz cC
 q:hv W b0 dq dJ dC
 r:hv W cF du cP z3
 h:Below w.heap.size w W
 g:w.heap.size<=bx/\bx<b0/\b0<cF/\cF<W.heap.size
def QE(w:Γ)(b c a f e d i g z3:Φ):zc w (((w.alloc (.cells #[b,c,a] 338 (0,0))).alloc (.cells #[f,e,d] 338 (0,0))).alloc (.cells #[i,g,z3] 338 (0,0))) w (w.heap.size+1) (w.heap.size+1+1) b c a f e d i g z3:=by have j:=jt w (.cells #[b,c,a] 338 (0,0));have k:=jt (w.alloc (.cells #[b,c,a] 338 (0,0))) (.cells #[f,e,d] 338 (0,0));have l:=jt ((w.alloc (.cells #[b,c,a] 338 (0,0))).alloc (.cells #[f,e,d] 338 (0,0))) (.cells #[i,g,z3] 338 (0,0));refine⟨((hv.d_ w b c a).alloc _).alloc _,?_,?_,(((bl _ w).alloc (aY _) _).alloc z _).alloc z _,z⟩;have:=(hv.d_ (w.alloc (.cells #[b,c,a] 338 (0,0))) f e d).alloc (.cells #[i,g,z3] 338 (0,0));rw[j]at this;exact this;have:=hv.d_ ((w.alloc (.cells #[b,c,a] 338 (0,0))).alloc (.cells #[f,e,d] 338 (0,0))) i g z3;rw[k,j]at this;exact this
variable{w:Γ}{a:Nat}{c i f e j d z3:Φ}
def zc.K{cF:Nat}{g k:Φ}(T:zc w W b a cF g k c i f e j d z3)(h:β W W'):zc w W' b a cF g k c i f e j d z3:=
 ⟨T.p.K h,T.q.K h,T.r.K h,b3 T.h h,T.g.1,T.g.2.1,T.g.2.2.1,cT h T.g.2.2.2⟩
variable{h:Φ}
def zc.alloc{cF:Nat}{g:Φ}(T:zc w W b a cF g j c h f e i d z3)(o:Obj):zc w (W.alloc o) b a cF g j c h f e i d z3:=T.K ((bl _ _).alloc (aY _) o)
def zc.drew{cF:Nat}{g:Φ}(T:zc w W b a cF g j c h f e i d z3):zc w W.drew b a cF g j c h f e i d z3:=T.K ((bl _ _).drew)
def acO(p:Bool)(a b:Ψ)(m n s u M:Nat)(w:Γ)(aL:dG a m)(G:dG b n)(V:m<=1000000000000000)(ax:n<=1000000000000000)(fx:M=max s u)(S:M<=3)(X Y:Nat)(N:X=m*10^(M-s))(P:Y=n*10^(M-u))(m5:X<=1000000000000000000)(m6:Y<=1000000000000000000):χ 566 #[.agg #[.bool p,a,s],.agg #[.bool p,b,u]] w λe w'=>nU p (X+Y) M e:=by
 have zQ:max (s:Int) (u:Int)=M:=z;have J:Hid (∀w,χ 573 #[.agg #[.bool p,a,s],M] w λe w'=>nU p X M e):=λw=>by rw[N];exact Az p a m s M w aL V z S
 have I:Hid (∀w,χ 573 #[.agg #[.bool p,b,u],M] w λe w'=>nU p Y M e):=λw=>by rw[P];exact Az p b n u M w G ax z S
 have T:=A (QE w (.bool p) (.string a) s (.bool p) (.string b) u (.bool false) (.string ⟨#[]⟩) (.int .i64 0));clear aL G N P fx;go_enter Q_,Q';go_wp2_with (first|(have _:=R;go_at_call 573;(with_reducible refine(I.out _).mono ?_);rintro e k ⟨⟨f,rfl,fm⟩,B⟩;have g:=O.K B;have p8:=A ((c.out.alloc _).K B);have fi:=g.bi;have b_:=g.c1;have cv:=g.c2;have iS:=g.lt;have l:=A (g.alloc (.cells #[.bool p,f,M] 338 (0,0)));have K:=A (hv.d_ k (.bool p) (.string f) M);have Q:=A (p8.out.alloc (.cells #[.bool p,f,M] 338 (0,0))))|(go_at_call 573;(with_reducible refine(J.out _).mono ?_);rintro e j ⟨⟨C,rfl,R⟩,E⟩;have c:=A (T.out.K E);have O:=hv.d_ j (.bool p) (.string C) M;have b7:=c.out.q.lt;have cw:=c.out.p.lt;have dA:=c.out.q.bi;have ak:=c.out.q.c1;have U:=c.out.q.c2;have bv:=c.out.p.c2));have ia:=A λw=>Fu C f X Y w R fm z z;generalize k.alloc (.cells #[.bool p,f,M] 338 (0,0))=w3 at*;have ih:=A l.out.drew;have Z:=A K.out.drew;have F:=A Q.out.drew;have bO:Hid (j.heap.size<k):=iS;have D:Hid (w.heap.size+1+1<j):=c.out.r.lt;generalize j.heap.size=o at*;generalize k.heap.size=L at*;obtain⟨cF,x⟩:∃cF,Hid (cF=w.heap.size+1+1):=⟨_,rfl⟩;rw[<-x.out]at Q F D;rw[<-x.out];have bi:=l.out.bi;have c1:=l.out.c1;have c2:=l.out.c2;have eM:=K.out.c1;clear O g fi b_ cv dA ak U bv b7 cw iS J I E B;go_region_held3 (λW=>W ⟨o,0,none⟩=some (.bool p)/\W ⟨o,1,none⟩=C/\W ⟨o,2,none⟩=M/\W ⟨L,1,none⟩=f) (first|exact⟨bi,c1,c2,eM⟩|exact⟨es,bN,dx,gc⟩|go_keep) (first|(go_at_call 54;(with_reducible refine(ia.out _).mono ?_);rintro e bh ⟨⟨t,rfl,aj⟩,y⟩;have d:=A (F.out.K y);have q:=ih.out.K y;have H:=Z.out.K y;have es:=q.bi;have bN:=q.c1;have dx:=q.c2;have gc:=H.c1;have gg:=d.out.r.bi;have cr:=d.out.r.c1;have dy:=d.out.r.c2;have z0:=d.out.r.ai (i:=0);have cC:=d.out.r.ai (i:=1);have dC:=d.out.r.ai (i:=2);have bT:cF≠o:=sM D;have eW:cF≠L:=(by have:=D.out;have:=bO.out;have:=H.lt;have:=q.lt;omega)));go_wp2;refine gd (v:=.agg #[.bool p,t,M]) (by simp[results,afj,go_sem,gg,cr,dy]) rfl ?_;have r:w.heap.size<=cF:=by have:=x.out;omega
 exact⟨⟨t,rfl,aj⟩,((d.out.h.setCell (p:=⟨cF,0,none⟩) r _).setCell (p:=⟨cF,1,none⟩) r _).setCell (p:=⟨cF,2,none⟩) r _⟩
end Go.aM
