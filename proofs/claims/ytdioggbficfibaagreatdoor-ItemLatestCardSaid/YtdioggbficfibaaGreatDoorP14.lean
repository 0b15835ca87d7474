/- ItemLatest, one part of the proof. -/
import Derived.Test.YtdioggbficfibaaGreatDoorP13
set_option linter.all false
set_option maxRecDepth 100000
set_option maxHeartbeats 16000000
namespace Go.bh
open Go Go.Proofs Go.RowKit Go.da
variable{Z:Nat->Nat}
theorem aGD{rs:List bA}{M need:Nat->Nat}(a:∀s,Z s<=M s+1)(n k:Nat):X3 rs M (part rs Z need n k):=fun s m p h=>by
 unfold part at h
 split at h
 ·rename_i b
  have H:p∈fY rs Z need (n+1) s m:=by
   unfold fY
   rw[co b]
   obtain⟨e,aO,h⟩:=Ro.1 h
   exact Ro.2 ⟨e,Rq aO,h⟩
  exact QH a (n+1) s m p H
 exact QH a n s m p h
structure lx (base:Nat) (w:World) (v:Value) (k:Nat) (Z b2:Nat->Nat) (E:Nat->Nat->Value) (b0:Nat->Nat->List (List Int)):Prop where
 row:w.ownsRow base 262 1 v k ((List.range k).map fun s=>.slice (some ⟨b2 s,0,none⟩) (Z s) (Z s))
 aY:∀s,s<k->base<=b2 s/\∃arr,w.heap[b2 s]? =some (Obj.cells arr 23 (0,0))/\arr.size=Z s/\∀i,i<Z s->arr[i]? =some (E s i)
 Gq:∀s i,s<k->i<Z s->∃bN,w.ownsRow base 22 1 (E s i) (b0 s i).length bN/\kB w bN (b0 s i)
 inj:∀s t,s<k->t<k->s≠t->b2 s≠b2 t
 Gh:∀s i t j,s<k->i<Z s->t<k->j<Z t->¬(s=t/\i=j)->(E s i).ownBlock=none∨(E s i).ownBlock≠(E t j).ownBlock
variable{w:World}{v:Value}{k:Nat}{E:Nat->Nat->Value}
theorem lx.congr{base:Nat}{b2:Nat->Nat}{b a:Nat->Nat->List (List Int)}(h:lx base w v k Z b2 E b)(e:∀s i,b s i=a s i):lx base w v k Z b2 E a:=by
 have:b=a:=funext fun s=>funext fun i=>e s i;subst this;exact h
variable{w':World}{e:TypeId}{n:Nat}{aP:List Value}
theorem U8{base:Nat}{size:Nat}(h:w.ownsRow base e size v n aP)(c:∀g a,v.ownBlock=some g->w.heap[g]? =some (Obj.cells a e (0,0))->w'.heap[g]? =some (Obj.cells a e (0,0))):w'.ownsRow base e size v n aP:=by
 obtain⟨f,b⟩:=h;refine⟨f,?_⟩;rcases b with b|⟨g,cap,a,aj,d,i,j⟩
 exact .inl b;exact .inr ⟨g,cap,a,aj,d,c g a (by rw[aj];rfl) i,j⟩
theorem lx.K{base:Nat}{b2:Nat->Nat}{b:Nat->Nat->List (List Int)}(h:lx base w v k Z b2 E b)(A:β w w'):lx base w' v k Z b2 E b:=by
 refine⟨AY h.row A,fun s a=>?_,fun s i a hi=>?_,h.inj,h.Gh⟩;obtain⟨H,arr,I,c⟩:=h.aY s a;exact⟨H,arr,by rw[A.block _ (c8 I)];exact I,c⟩;obtain⟨d,H,I⟩:=h.Gq s i a hi;exact⟨d,AY H A,I.K A⟩
variable{b i:Nat}{x:Value}{cs:Array Value}{t:TypeId}
theorem ab0{fr:Nat×Nat}(A:w.heap[b]? =some (Obj.cells cs t fr))(ai:t≠e){g:Nat}{arr:Array Value}{bb:Nat×Nat}(an:w.heap[g]? =some (Obj.cells arr e bb)):(w.setCell ⟨b,i,none⟩ x).heap[g]? =some (Obj.cells arr e bb):=by
 have:g≠b:=fun h=>by subst h;rw[A]at an;cases an;exact ai rfl
 rw[g_ _ _ _ _ this];exact an
theorem Qa{base:Nat}{size:Nat}(h:w.ownsRow base e size v n aP){fr:Nat×Nat}(A:w.heap[b]? =some (Obj.cells cs t fr))(ai:t≠e):(w.setCell ⟨b,i,none⟩ x).ownsRow base e size v n aP:=
 U8 h fun _ _ _ an=>ab0 A ai an
theorem Uv{fr:Nat×Nat}(A:w.heap[b]? =some (Obj.cells cs t fr))(ai:t≠3):ya w (w.setCell ⟨b,i,none⟩ x):=fun _ _ _ an=>ab0 A ai an
theorem lx.set{base:Nat}{b2:Nat->Nat}{e:Nat->Nat->List (List Int)}(h:lx base w v k Z b2 E e){fr:Nat×Nat}(A:w.heap[b]? =some (Obj.cells cs t fr))(H:t≠3)(I:t≠22)(l:t≠23)(f:t≠262):lx base (w.setCell ⟨b,i,none⟩ x) v k Z b2 E e:=by
 refine⟨Qa h.row A f,fun s a=>?_,fun s j a g=>?_,h.inj,h.Gh⟩;obtain⟨c,arr,d,n⟩:=h.aY s a;exact⟨c,arr,ab0 A l d,n⟩;obtain⟨m,c,d⟩:=h.Gq s j a g;exact⟨m,Qa c A I,d.kept (Uv A H)⟩
def Ic{a:Type}(E:Nat->Nat->a)(bP b:Nat)(x:a):Nat->Nat->a:=fun s i=>if s=bP/\i=b then x else E s i
theorem Ie{a:Type}(E:Nat->Nat->a)(bP b:Nat)(x:a):Ic E bP b x bP b=x:=by simp[Ic]
theorem Fj{a:Type}(E:Nat->Nat->a)(bP b:Nat)(x:a){s:Nat}(h:¬(s=bP/\i=b)):Ic E bP b x s i=E s i:=by simp only[Ic,bs h]
variable{a:Nat}
theorem lx.grown{base:Nat}{r:World}{n:Value}{b2:Nat->Nat}{f:Nat->Nat->List (List Int)}(h:lx base w v k Z b2 E f){bP:Nat}(I:bP<k)(T:a<Z bP){y zs:List Value}{m:List (List Int)} (N:w.ownsRow base 22 1 (E bP a) (f bP a).length y)(ag:kB w y (f bP a))(O:kB w zs m)(R:r.ownsRow base 22 1 n ((f bP a).length+m.length) (y++zs))(an:w.grownBy r (E bP a).ownBlock)(L:n.ownBlock=(E bP a).ownBlock∨n.ownBlock=some w): lx base (r.setCell ⟨b2 bP,a,none⟩ n) v k Z b2 (Ic E bP a n) (Ic f bP a (f bP a++m)):=by
 have hN:∀{b:Nat} {cs:Array Value} {t:TypeId} {fr:Nat×Nat},w.heap[b]? =some (Obj.cells cs t fr)->t≠22->r.heap[b]? =some (Obj.cells cs t fr):=fun A ai=>by rw[an.block _ (c8 A) (CB N A ai)];exact A
 have G:ya w r:=Hd N an;obtain⟨X,P,M,V,U⟩:=h.aY bP I;have l:=hN M ak;have au:∀s i,s<k->i<Z s->∀g,(E s i).ownBlock=some g->g<w.heap.size:=fun s i c hi g d=>by
  obtain⟨aP,H,_⟩:=h.Gq s i c hi;rcases H.2 with⟨aj,_⟩|⟨W,cap,J,aj,C,Q,_⟩
  rw[aj]at d;cases d;rw[aj]at d;cases d;exact c8 Q
 refine⟨Qa (U8 h.row fun g J _ d=>hN d ak) l ak,fun s c=>?_,fun s i c hi=>?_,h.inj,fun s i t j c hi ai x z=>?_⟩;obtain⟨u,arr,o,F,K⟩:=h.aY s c;by_cases e:s=bP;subst e;rw[M]at o;cases o;refine⟨u,P.setIfInBounds a n,hT l _,by simpa using F,fun i hi=>?_⟩;by_cases D:i=a;subst D;rw[Ie];simp[F,hi];rw[Fj _ _ _ _ (fun q=>D q.2),Bl (h8 D)];exact K i hi;refine⟨u,arr,?_,F,fun i hi=>?_⟩;rw[g_ _ _ _ _ (h.inj s bP c I e)];exact hN o ak;rw[Fj _ _ _ _ (fun q=>e q.1)];exact K i hi;by_cases e:s=bP/\i=a;obtain⟨rfl,rfl⟩:=e;rw[Ie,Ie];exact⟨y++zs,by rw[ia];exact Qa R l ak,((ag.kept G).Jp (O.kept G)).kept (Uv l ak)⟩;rw[Fj _ _ _ _ e,Fj _ _ _ _ e];obtain⟨aP,u,o⟩:=h.Gq s i c hi;refine⟨aP,Qa (U8 u fun g J B d=>?_) l ak,(o.kept G).kept (Uv l ak)⟩;rw[an.block _ (c8 d) ?_];exact d;rcases h.Gh s i bP a c hi I T e with H|H;rw[H]at B;cases B;rw[B]at H;exact H
 ·by_cases e:s=bP/\i=a
  ·obtain⟨rfl,rfl⟩:=e;have S:¬(t=s/\j=i):=fun q=>z ⟨q.1.symm,q.2.symm⟩;rw[Ie,Fj _ _ _ _ S];rcases L with aH|aH
   rw[aH];exact h.Gh s i t j c hi ai x z;rw[aH];right;intro q;exact Wy _ (au t j ai x _ q.symm)
  ·rw[Fj _ _ _ _ e];by_cases C:t=bP/\j=a
   ·obtain⟨rfl,rfl⟩:=C;rw[Ie];rcases L with aH|aH
    rw[aH];exact h.Gh s i t j c hi ai x z;rw[aH];right;intro q;exact Wy _ (au s i c hi _ q)
   rw[Fj _ _ _ _ C];exact h.Gh s i t j c hi ai x z
theorem lx.next{base:Nat}{c:World}{r:Value}{b2:Nat->Nat}{m:Nat->Nat->List (List Int)}(h:lx base w v k Z b2 E m)(F:base<=a)(G:w.heap[a]? =some (Obj.cells (Array.replicate (Z k) (.slice none 0 0)) 23 (0,0)))(q:∀s,s<k->b2 s≠a)(f:∀i,E k i=.slice none 0 0)(B:∀i,m k i=[]) (D:c.ownsRow base 262 1 r (k+1) (((List.range k).map fun s=>.slice (some ⟨b2 s,0,none⟩) (Z s) (Z s))++[.slice (some ⟨a,0,none⟩) (Z k) (Z k)]))(an:w.grownBy c v.ownBlock):lx base c r (k+1) Z (fun s=>if s=k then a else b2 s) E m:=by
 have hN:∀{b:Nat} {cs:Array Value} {t:TypeId} {fr:Nat×Nat},w.heap[b]? =some (Obj.cells cs t fr)->t≠262->c.heap[b]? =some (Obj.cells cs t fr):=fun A ai=>by rw[an.block _ (c8 A) (CB h.row A ai)];exact A
 have C:ya w c:=fun _ _ _ A=>hN A ak;refine⟨?_,fun s Y=>?_,fun s i Y hi=>?_,fun s t Y ai o=>?_,fun s i t j Y hi ai u o=>?_⟩
 ·rw[LV,xY,qO,ID,co rfl];have aj:(List.range k).map (fun s=>Value.slice (some ⟨if s=k then a else b2 s,0,none⟩) (Z s) (Z s))=(List.range k).map (fun s=>Value.slice (some ⟨b2 s,0,none⟩) (Z s) (Z s)):=by exact aog
  rw[aj];exact D
 by_cases e:s=k;subst e;rw[co rfl];exact⟨F,_,hN G ak,ao,fun i hi=>by rw[f];simp[hi]⟩;rw[bs e];obtain⟨l,arr,n,y⟩:=h.aY s z;exact⟨l,arr,hN n ak,y⟩;by_cases e:s=k;subst e;rw[f,B];exact⟨[],mT _ _ _ _,g'⟩;obtain⟨x,l,n⟩:=h.Gq s i z hi;exact⟨x,U8 l fun _ _ _ H=>hN H ak,n.kept C⟩;by_cases e:s=k;rw[co e,bs z];exact(q t z).symm;rw[bs e];by_cases d:t=k;rw[co d];exact q s z;rw[bs d];exact h.inj s t z z o
 ·by_cases e:s=k;subst e;left;rw[f];rfl
  ·by_cases d:t=k
   ·subst d;rw[f];cases I:(E s i).ownBlock with
    |none=>exact .inl rfl
    |some g=>right;simp[Value.ownBlock]
   exact h.Gh s i t j z hi z u o
def F0(w:World)(v:Value)(e:Nat)(Z:Nat->Nat)(c:Nat->Nat->List (List Int)):Prop:=
 ∃(b f:Nat) (b2:Nat->Nat),v=.slice (some ⟨b,0,none⟩) e f/\b<w.heap.size/\(∃arr bb,w.heap[b]? =some (Obj.cells arr 262 bb))/\∀a,a<e->b2 a<w.heap.size/\(∃arr bb,w.heap[b2 a]? =some (Obj.cells arr 23 bb))/\w.cell? ⟨b,a,none⟩=some (.slice (some ⟨b2 a,0,none⟩) (Z a) (Z a))/\
  ∀i,i<Z a->∃va d,w.cell? ⟨b2 a,i,none⟩=some (.slice va (c a i).length d)/\rI w va (c a i)/\(c a i).length<=d
theorem lx.Vl{base:Nat}{b2:Nat->Nat}{e:Nat->Nat->List (List Int)}(h:lx base w v k Z b2 E e)(j:0<k):∃(b f:Nat),v=.slice (some ⟨b,0,none⟩) k f/\base<=b/\b<w/\(∃arr,w.heap[b]? =some (Obj.cells arr 262 (0,0)))/\(∀a,a<k->w.cell? ⟨b,a,none⟩=some (.slice (some ⟨b2 a,0,none⟩) (Z a) (Z a))):=by
 rcases h.row.2 with⟨_,ae⟩|⟨g,cap,c,aj,d,bq,l,m,n,i⟩
 omega
 ·refine⟨g,cap,aj,d,c8 bq,⟨c,bq⟩,fun a aH=>?_⟩;have:(c.toList.take (k*1))[a]? =some (Value.slice (some ⟨b2 a,0,none⟩) (Z a) (Z a)):=by rw[i];simp[aH]
  exact an'
variable{c:Nat->Nat->List (List Int)}
theorem lx.asa{base:Nat}{b2:Nat->Nat}(h:lx base w v k Z b2 E c)(d:0<k):F0 w v k Z c:=by
 obtain⟨l,q,e,_,H,⟨g,r⟩,I⟩:=h.Vl d;refine⟨l,q,b2,e,H,⟨g,_,r⟩,fun a aH=>?_⟩;obtain⟨s,arr,b,u,o⟩:=h.aY a aH;refine⟨c8 b,⟨arr,_,b⟩,I a aH,fun i hi=>?_⟩;obtain⟨t,n,p⟩:=h.Gq a i aH hi;obtain⟨va,m,aj,f,_,j⟩:=aqo n p rfl;exact⟨va,m,by rw[ly b (o i hi),aj],f,j⟩
theorem F0.kC{c bL:Nat}{b:Nat->Nat->List (List Int)}(h:F0 w v c Z b)(m:w.cell? ⟨bL,6,none⟩=some v)(d:bL<w):Jj w bL c Z b:=by
 obtain⟨k,n,b2,rfl,H,_,I⟩:=h;refine⟨d,k,n,b2,m,H,fun a aH=>?_⟩;obtain⟨f,_,g,j⟩:=I a aH;exact⟨f,g,fun i hi=>by obtain⟨va,l,aj,e,_⟩:=j i hi;exact⟨va,l,aj,e⟩⟩
theorem F0.K{d:Nat}(h:F0 w v d Z c)(A:β w w'):F0 w' v d Z c:=by
 obtain⟨m,p,b2,e,H,⟨iD,f',f⟩,I⟩:=h;refine⟨m,p,b2,e,cS A H,⟨iD,f',by rw[A.block _ H];exact f⟩,fun a aH=>?_⟩;obtain⟨b,⟨o,q,r⟩,j,l⟩:=I a aH;refine⟨cS A b,⟨o,q,by rw[A.block _ b];exact r⟩,az A H j,fun i hi=>?_⟩;obtain⟨va,n,aj,g,k⟩:=l i hi;exact⟨va,n,az A b aj,g.K A,k⟩
theorem aGG(rs:List bA)(Z need:Nat->Nat)(n k:Nat)(b:k<rs)(c:n+1<Z rs[k].h)(d:n+1<=need rs[k].h):∀s i,Ic (part rs Z need n k) rs[k].h (n+1) (part rs Z need n k rs[k].h (n+1)++kG (part rs Z need n k) Z [(k:Int)] rs[k].args n) s i=part rs Z need n (k+1) s i:=fun s i=>by
 rw[ap8 rs Z need n k s i b]
 by_cases e:s=rs[k].h/\i=n+1
 ·obtain⟨rfl,rfl⟩:=e
  rw[Ie,co rfl,aDX]
  unfold xw
  rw[co ⟨rfl,c,d⟩]
 ·rw[Fj _ _ _ _ e]
  by_cases a:i=n+1
  ·rw[co a]
   unfold xw
   rw[bs fun q=>e ⟨q.1.symm,a⟩,sf]
  ·rw[bs a,sf]
theorem aGE(rs:List bA)(Z need:Nat->Nat)(n k:Nat)(a:k<rs)(h:¬(n+1<Z rs[k].h/\n+1<=need rs[k].h)):∀s i,part rs Z need n k s i=part rs Z need n (k+1) s i:=fun s i=>by
 rw[ap8 rs Z need n k s i a]
 split
 ·unfold xw
  rw[bs fun q=>h (by rw[←q.1]at q;exact⟨q.2.1,q.2.2⟩),sf]
 ·rw[sf]
end Go.bh
namespace Go.bh
open Go Go.Proofs.Tryz Go.Proofs Go.RowKit Go.da
variable{w:World}{n:Nat}
theorem ac7{base:Nat}{e:TypeId}{size:Nat}{v:Value}{aP:List Value}(h:w.ownsRow base e size v n aP):∃va b,v=.slice va n b:=by
 rcases h.2 with⟨aj,a⟩|⟨g,cap,c,aj,_⟩
 exact⟨none,0,by rw[aj,a]⟩;exact⟨_,cap,aj⟩
variable{w':World}
theorem m0.kept{b:Nat}{f:Nat->Nat}(h:m0 w b n f)(a:ya w w'):m0 w' b n f:=by
 obtain⟨arr,H,I,c⟩:=h.kC;exact⟨c8 (a _ _ _ H),arr,a _ _ _ H,I,c⟩
theorem aCR:(prog.info? 262).map (fun i=>(i.zero,i.size,i.bytes))=some (some (.slice none 0 0),1,24):=av
theorem aEO(n:Nat)(H:1<=n)(a:n<=6):∀(w:World),(Instr.makeSlice 262 n n).run prog w=.ok (.slice (some ⟨w,0,none⟩) n n) (w.alloc (.cells (Array.replicate n (.slice none 0 0)) 23)):=by
 have:n=1∨n=2∨n=3∨n=4∨n=5∨n=6:=z;rcases this with rfl|rfl|rfl|rfl|rfl|rfl
 all_goals(intro w;kernel_rfl)
section
variable {S:cU} {M:Nat->Nat} {rs:List bA} {ca bd:Option Addr} {cc aW rb aE rc:Nat} {w:World}
def IN(w:World)(rb aE:Nat)(rs:List bA):Prop:=rb<w.heap.size/\∀i (hi:i<rs.length) (a:Option Addr) (ac:Nat),w.cell? ⟨rb,aE+i*4+3,none⟩=some (.slice a rs[i].args.length ac)->rs[i].args.length<=ac
theorem IN.K{rb aE:Nat}{rs:List bA}(h:IN w rb aE rs)(A:β w w'):IN w' rb aE rs:=
 ⟨cS A h.1,fun i hi b ac a=>h.2 i hi b ac ((A.cell (p:=⟨rb,aE+i*4+3,none⟩) h.1).symm.trans a)⟩
def avD(S:cU)(M:Nat->Nat)(rs:List bA)(m:Nat)(e:Ending)(w':World):Prop:=∃v need,e=.returned v/\F0 w' v S.aD.length (fun s=>min (M s) m+1) (fY rs (fun s=>min (M s) m+1) need m)/\tw M rs S.al rs.length need
attribute [local irreducible] wpStill wpAnyH in
theorem aIM(h:pB S M rs ca bd cc aW rb aE rc w)(kt:IN w rb aE rs)(X:rs.length<=9)(m:Nat)(l0:1<=m)(O2:m<=5): χ 192 #[.agg (eg S rs ca bd cc aW rb aE rc),.int .i64 m] w (avD S M rs m):=by
 have ht:=G (fun W (y:β w W)=>aE2 (h.K y));have aL:=hX.ee w (eg S rs ca bd cc aW rb aE rc);have ub:=h.ok.xI;have r4:=h.ok.aD;have e2:=h.ok.al;have mX:=G h.yS;have Xu:=G (fun r (ab:r∈rs)=>h.ok.CC r (h.sub.subset ab));obtain⟨bL,eG,s3,ke,kF⟩:=h.y;have o7:=G (fun W (y:β w W) i (hi:i<S.aD.length)=>az y ke (kF i hi).2.2);subst s3;have ls:=G h.r;have aO:=G kt;obtain⟨aCB,aA_,s0,hM,nQ⟩:=im aCR;obtain⟨Z,V⟩:∃Z:Nat->Nat,Z=fun s=>min (M s) m+1:=⟨_,rfl⟩;have T:=G V;have ap:∀s,1<=Z s/\Z s<=6:=fun s=>by rw[V];dsimp only;omega
 have L:=G ap;clear h kF V ap kt;go_enter func192,ntmps192
 go_wp2;have ts:hX w (eg S rs ca (some ⟨bL,eG,none⟩) cc aW rb aE rc) ((w.alloc (.cells (eg S rs ca (some ⟨bL,eG,none⟩) cc aW rb aE rc) 29)).alloc (.cells #[.string S.nm,.int .i64 S.db,.slice ca S.bw.length cc,.slice (some ⟨bL,eG,none⟩) S.aD.length aW,.slice (some ⟨rb,aE,none⟩) rs.length rc,.int .i64 S.al,.slice none 0 0] 332)):=aL.K ((br _ _).alloc (aZ _) _);have iM:kz ((w.alloc (.cells (eg S rs ca (some ⟨bL,eG,none⟩) cc aW rb aE rc) 29)).alloc (.cells #[.string S.nm,.int .i64 S.db,.slice ca S.bw.length cc,.slice (some ⟨bL,eG,none⟩) S.aD.length aW,.slice (some ⟨rb,aE,none⟩) rs.length rc,.int .i64 S.al,.slice none 0 0] 332)) (w.heap.size+1) 332 #[.string S.nm,.int .i64 S.db,.slice ca S.bw.length cc,.slice (some ⟨bL,eG,none⟩) S.aD.length aW,.slice (some ⟨rb,aE,none⟩) rs.length rc,.int .i64 S.al,.slice none 0 0]:=by have:=kz.ee (w.alloc (.cells (eg S rs ca (some ⟨bL,eG,none⟩) cc aW rb aE rc) 29)) 332 #[.string S.nm,.int .i64 S.db,.slice ca S.bw.length cc,.slice (some ⟨bL,eG,none⟩) S.aD.length aW,.slice (some ⟨rb,aE,none⟩) rs.length rc,.int .i64 S.al,.slice none 0 0];rw[i_]at this;exact this
 have ax:w.heap.size+2<=((w.alloc (.cells (eg S rs ca (some ⟨bL,eG,none⟩) cc aW rb aE rc) 29)).alloc (.cells #[.string S.nm,.int .i64 S.db,.slice ca S.bw.length cc,.slice (some ⟨bL,eG,none⟩) S.aD.length aW,.slice (some ⟨rb,aE,none⟩) rs.length rc,.int .i64 S.al,.slice none 0 0] 332)).heap.size:=ao;clear aL;generalize (w.alloc (.cells (eg S rs ca (some ⟨bL,eG,none⟩) cc aW rb aE rc) 29)).alloc (.cells #[.string S.nm,.int .i64 S.db,.slice ca S.bw.length cc,.slice (some ⟨bL,eG,none⟩) S.aD.length aW,.slice (some ⟨rb,aE,none⟩) rs.length rc,.int .i64 S.al,.slice none 0 0] 332)=am at*;go_loopw [6] (fun i wr=>∃(k:Nat) (v:Value) (b2:Nat->Nat),k<=S.aD.length/\i=.int .i64 k/\w.heap.size+2<=wr.heap.size/\hX w (eg S rs ca (some ⟨bL,eG,none⟩) cc aW rb aE rc) wr/\kz wr (w.heap.size+1) 332 #[.string S.nm,.int .i64 S.db,.slice ca S.bw.length cc,.slice (some ⟨bL,eG,none⟩) S.aD.length aW,.slice (some ⟨rb,aE,none⟩) rs.length rc,.int .i64 S.al,v]/\lx (w.heap.size+2) wr v k Z b2 (fun _ _=>.slice none 0 0) (fun _ _=>[])) (fun i _=>S.aD.length-(RowKit.intOf i).toNat);case atStart=>exact⟨0,.slice none 0 0,fun _=>0,dx _,rfl,ax,ts,iM,⟨mT _ _ _ _,fun s Y=>z,fun s i Y=>z,fun s t Y=>z,fun s i t j Y=>z⟩⟩
 case round=>
  clear ts iM ax;obtain⟨k,v,b2,ay,rfl,kT,cm,hb,cM⟩:=hrel;have bx:=aK 3 cm.g;have fe:=aK 6 hb;have C_:=c8 cm.g;have oT:=c8 hb;by_cases au:k<S.aD.length
  ·have mP:(0:Int)<=(k:Int):=z;have lF:(k:Int)<S.aD.length:=z;have tH:=o7.out _ cm.b _ au;have fl:=mX.out k;have Ky:bL<wr.heap.size:=cS cm.b ke;have oS:(M k:Int)<=5:=z;have Cu:(m:Int)<=5:=z;obtain⟨af,D⟩:∃af,af=Z k:=⟨_,rfl⟩;have C:=L.out k;rw[←D]at C;have pR:=aEO af C.1 C.2;have G_:af=min (M k) m+1:=by rw[D,T.out]
   have ag7:=G D;have aI:min (M k:Int) (m:Int)+1=(af:Int):=z;clear D G_
   go_wp2;have kl:β wr wr.drew:=(br _ _).drew;refine CV (S:=(fun W=>W.cell? ⟨w.heap.size,3,none⟩=some (.slice (some ⟨bL,eG,none⟩) S.aD.length aW)/\W.cell? ⟨bL,eG+k*3+2,none⟩=some (.int .i64 (M k)))) av ⟨bx,tH⟩ (fun yu=>?_);refine ci 0 21 ?_;refine ci 1 22 ?_;refine ci 2 23 ?_;refine ci 3 24 ?_;refine ci 5 26 ?_;refine ci 6 27 ?_;refine ci 7 28 ?_;refine ci 8 29 ?_;refine ci 9 30 ?_;refine ci 10 31 ?_;refine ci 11 32 ?_;refine ci 12 33 ?_;have nO:IntKind.i64.wrap (min (M k:Int) (m:Int)+1)=(af:Int):=by rw[aI];exact pw _ ⟨z,z⟩
   refine ci 13 34 ?_;have aJ:IntKind.i64.wrap (af:Int)=af:=pw _ ⟨z,z⟩;try rw[nO]
   try rw[aJ]
   have agx:∀O,O=wr.heap.size+1->((wr.drew.alloc (.cells (Array.replicate af (.slice none 0 0)) 23)).alloc (.cells #[.slice (some ⟨wr.heap.size,0,none⟩) af af] 262)).heap[O]? =some (Obj.cells #[.slice (some ⟨wr.heap.size,0,none⟩) af af] 262 (0,0)):=fun O fj=>by have:=cW (wr.drew.alloc (.cells (Array.replicate af (.slice none 0 0)) 23)) (.cells #[.slice (some ⟨wr.heap.size,0,none⟩) af af] 262);rw[i_]at this;rw[fj];exact this
   refine Rh (rs:=[4,14]) av ao ?_;refine CT (o:=_) rfl (fun bE cF=>?_) (CT (o:=_) rfl (fun bE cF=>?_) Q5)
   ·go_simp;refine cF.out _ _ ⟨bx,tH⟩ (fun j_=>?_);clear cF bE;refine h_ ?_;refine oU 14 (fun bE cF=>?_);go_simp;have cC:=kl.alloc (aZ _) (.cells (Array.replicate af (.slice none 0 0)) 23);exact aoZ
   ·go_simp;have cC:=kl.alloc (aZ _) (.cells (Array.replicate af (.slice none 0 0)) 23);refine cF.out _ _ ⟨(cC.cell C_).trans bx,(cC.cell Ky).trans tH⟩ (fun j_=>?_);clear cF bE;refine h_ ?_;refine Rh (rs:=[4,15]) av ao ?_;refine CT (o:=_) rfl (fun bE cF=>?_) (CT (o:=_) rfl (fun bE cF=>?_) Q5)
    ·go_simp;exact aoZ
    ·go_simp;have ey:=cC.alloc cC.size (.cells #[.slice (some ⟨wr.heap.size,0,none⟩) af af] 262);refine cF.out _ _ ⟨(ey.cell C_).trans bx,(ey.cell Ky).trans tH⟩ (fun j_=>?_);clear cF bE;refine h_ ?_;refine oU 4 (fun bE cF=>?_);go_simp;exact aon
  ·obtain rfl:k=S.aD.length:=z;have aN:=cm;obtain⟨cQ,aX,ba,-,dt,dS⟩:=f_ cm.g
   go_wp2_with (go_at_call 286;refine(ht.out _ cm.b).mono ?_;rintro e dc ⟨⟨eo,f,rfl,vu,On⟩,B⟩);have tt:=cm.K B;have ae:=hb.K B;have N:lx (w.heap.size+2) dc v S.aD.length Z b2 (fun _ _=>.slice none 0 0) (fY rs Z f 0):=cM.K B;have OF:w.heap.size+2<=dc.heap.size:=cO kT B.size;obtain⟨cb,hj,rfl,D7,_,_,_⟩:=N.Vl ub;clear cm aN hb cM cQ aX ba bx dt dS fe C_ oT B kT ht;go_loopw [8] (fun i wr=>∃(n:Nat) (E:Nat->Nat->Value),1<=n/\n<=m+1/\i=.int .i64 n/\w.heap.size+2<=wr.heap.size/\hX w (eg S rs ca (some ⟨bL,eG,none⟩) cc aW rb aE rc) wr/\kz wr (w.heap.size+1) 332 #[.string S.nm,.int .i64 S.db,.slice ca S.bw.length cc,.slice (some ⟨bL,eG,none⟩) S.aD.length aW,.slice (some ⟨rb,aE,none⟩) rs.length rc,.int .i64 S.al,.slice (some ⟨cb,0,none⟩) S.aD.length hj]/\m0 wr eo S.aD.length f/\lx (w.heap.size+2) wr (.slice (some ⟨cb,0,none⟩) S.aD.length hj) S.aD.length Z b2 E (fY rs Z f (n-1))) (fun i _=>m+1-(RowKit.intOf i).toNat);case atStart=>exact⟨1,_,z,z,rfl,OF,tt,ae,vu,N⟩
   case round=>
    clear vu tt ae N OF;obtain⟨n,E,qv,qw,rfl,kT,cm,hb,vu,cM⟩:=hrel;by_cases dK:n<=m
    ·have jq:(n:Int)<=(m:Int):=z;have aw:lx (w.heap.size+2) wr (.slice (some ⟨cb,0,none⟩) S.aD.length hj) S.aD.length Z b2 E (part rs Z f (n-1) 0):=cM.congr fun s i=>(aGF rs Z f (n-1) s i).symm
     go_wp2;go_loopw [9] (fun i wr=>∃(k:Nat) (E:Nat->Nat->Value),k<=rs.length/\i=.int .i64 k/\w.heap.size+2<=wr.heap.size/\hX w (eg S rs ca (some ⟨bL,eG,none⟩) cc aW rb aE rc) wr/\kz wr (w.heap.size+1) 332 #[.string S.nm,.int .i64 S.db,.slice ca S.bw.length cc,.slice (some ⟨bL,eG,none⟩) S.aD.length aW,.slice (some ⟨rb,aE,none⟩) rs.length rc,.int .i64 S.al,.slice (some ⟨cb,0,none⟩) S.aD.length hj]/\m0 wr eo S.aD.length f/\lx (w.heap.size+2) wr (.slice (some ⟨cb,0,none⟩) S.aD.length hj) S.aD.length Z b2 E (part rs Z f (n-1) k)) (fun i _=>rs.length-(RowKit.intOf i).toNat);case atStart=>exact⟨0,E,dx _,rfl,kT,cm,hb,vu,aw⟩
     case round=>
      clear vu cm hb cM aw kT;obtain⟨k,E,ay,rfl,kT,cm,hb,vu,cM⟩:=hrel;have dt:=aK 4 cm.g;have qD:=c8 cm.g;have fe:=aK 6 hb;have oT:=c8 hb;by_cases au:k<rs.length
      ·obtain⟨ur,Lb,cg,Q,kE⟩:=ls.out;cases cg;obtain⟨F,ac,ab⟩:=kE k au;have jw:=aO.out.2 k au F ac ab.c3;have fo:=(cm.b.cell Q).trans ab.bo;have ej:=(cm.b.cell Q).trans ab.c3;have jG:=G (ab.args.K (cm.b));obtain⟨b9,oK,AA,_,_⟩:=Xu.out _ (fP au);have mP:(0:Int)<=(k:Int):=z;have lF:(k:Int)<rs.length:=z;have oS:(0:Int)<=(rs[k].h:Int):=z;have Cu:(rs[k].h:Int)<(S.aD.length:Int):=z;have AT:(0:Int)<=(n:Int):=z;have NA:=vu.cell b9;obtain⟨KP,ab6,cg,_,OZ,_,jp⟩:=cM.Vl ub;cases cg;have cl:=jp _ b9;have OQ:=On.le rs[k].h;have C:=L.out rs[k].h;have Ha:(Z rs[k].h:Int)<=6:=z;have Uu:(f rs[k].h:Int)<=5:=z;clear kE ab;by_cases aa:n<Z rs[k].h/\n<=f rs[k].h
       ·obtain⟨jn,mK⟩:=aa;have aj:(n:Int)<(Z rs[k].h:Int):=z;have aF:(n:Int)<=(f rs[k].h:Int):=z;go_upto_region 15 with fail
        have aG:n-1+1=n:=z;have aq:=aGD (rs:=rs) (M:=M) (Z:=Z) (need:=f) (fun s=>by rw[T.out];dsimp only;omega) (n-1) k;have Oz:Jj wr (w.heap.size+1) S.aD.length Z (part rs Z f (n-1) k):=(cM.asa ub).kC fe oT;obtain⟨sb,R⟩:∃sb,kG (part rs Z f (n-1) k) Z [(k:Int)] rs[k].args (n-1)=sb:=⟨_,rfl⟩;have sl:=G (fun W (y:β wr W) (c0:pC W (some ⟨wr.heap.size,0,none⟩) [(k:Int)])=>show Calls prog 287 #[.pointer (some ⟨w.heap.size+1,0,none⟩),.slice (some ⟨wr.heap.size,0,none⟩) 1 1,.slice F rs[k].args.length ac,.int .i64 ((n:Int)-1)] W fun e w'=>XV sb e w'/\β W w' from by
         have:=aHV (w.heap.size+1) S.aD.length Z (part rs Z f (n-1) k) wr Oz (ap7 X (n-1) k z) (fun a=>(L.out a).2) (fun a i q aC=>by
          have P:=aq a i q aC
          have H:=P.len
          have I:=P.pos
          have ah:=P.le
          have aM:=(mX.out a).2
          omega) rs[k].args AA oK [(k:Int)] (n-1) 1 ac (some ⟨wr.heap.size,0,none⟩) F W y c0 ao bz ao (jG.out.K y) jw z
         rw[R,show((n-1:Nat):Int)=(n:Int)-1 by omega]at this
         exact this)
        have l:=aGG rs Z f (n-1) k au;rw[aG,R]at l;have l:=l jn mK;have de:(part rs Z f (n-1) k rs[k].h n).length+sb.length<=61917364224:=by have H:=ap7 (rs:=rs) (Z:=Z) (need:=f) X (n-1) (k+1) z rs[k].h n;rw[←l,Ie,ia]at H;have I:(144:Nat)^n<=144^5:=kO z z;exact cO H I
        have auC:=G l;obtain⟨aT,awC,mg,aQ,aax⟩:=cM.aY _ b9;have DB:=ly mg (aax n jn);have PF:=c8 mg;obtain⟨xt,xi,kc,hE,h0⟩:=im Pr;have b5:(n:Int)<=5:=z;have eK:(1:Int)<=(n:Int):=z;have aS:IntKind.i64.wrap ((n:Int)-1)=(n:Int)-1:=pw _ ⟨z,z⟩;have Kw:rb<wr.heap.size:=cS cm.b Q;clear l Oz aq R;have kl:β wr wr.drew:=(br _ _).drew;refine CV (S:=(fun W=>W.cell? ⟨w.heap.size+1,6,none⟩=some (.slice (some ⟨cb,0,none⟩) S.aD.length hj)/\W.cell? ⟨cb,rs[k].h,none⟩=some (.slice (some ⟨b2 rs[k].h,0,none⟩) (Z rs[k].h) (Z rs[k].h))/\W.cell? ⟨w.heap.size,4,none⟩=some (.slice (some ⟨rb,aE,none⟩) rs.length rc)/\W.cell? ⟨rb,aE+k*4+3,none⟩=some (.slice F rs[k].args.length ac))) av ⟨fe,cl,dt,ej⟩ (fun yu=>?_);refine ci 0 78 ?_;refine ci 1 79 ?_;refine ci 2 80 ?_;refine ci 3 81 ?_;refine ci 4 82 ?_;refine ci 5 83 ?_;refine ci 6 84 ?_;refine ci 7 85 ?_;refine ci 8 86 ?_;refine ci 9 87 ?_;refine ci 10 88 ?_;refine ci 11 89 ?_;refine ci 12 90 ?_;refine ci 13 91 ?_;refine ci 14 92 ?_;refine ci 15 93 ?_;refine ci 16 94 ?_;refine ci 18 96 ?_;refine ci 19 97 ?_;refine ci 21 99 ?_;refine ci 22 100 ?_;refine ci 23 101 ?_;refine ci 24 102 ?_;refine ci 25 103 ?_;refine ci 26 104 ?_;refine ci 27 105 ?_;refine ci 28 106 ?_;refine Rh (rs:=[17,20]) av ao ?_;refine CT (o:=_) rfl (fun bE cF=>?_) (CT (o:=_) rfl (fun bE cF=>?_) Q5)
        ·go_simp;refine cF.out _ _ ⟨fe,cl,dt,ej⟩ (fun j_=>?_);clear cF bE;refine h_ ?_;refine oU 20 (fun bE cF=>?_);go_simp;have cC:=kl.alloc (aZ _) (.cells #[.int .i64 k] 3);have zJ:pC (wr.drew.alloc (.cells #[.int .i64 k] 3)) (some ⟨wr.heap.size,0,none⟩) [(k:Int)]:=fun _=>⟨wr.heap.size,0,_,_,rfl,cW wr.drew _,fun i hi=>by
          have:i=0:=by simp at hi;omega
          subst this;rfl⟩
         have aP:(wr.drew.alloc (.cells #[.int .i64 k] 3)).cell? ⟨b2 rs[k].h,n,none⟩=_:=(cC.cell PF).trans DB;exact aoe
        ·go_simp;have cC:=kl.alloc (aZ _) (.cells #[.int .i64 k] 3);have zJ:pC (wr.drew.alloc (.cells #[.int .i64 k] 3)) (some ⟨wr.heap.size,0,none⟩) [(k:Int)]:=fun _=>⟨wr.heap.size,0,_,_,rfl,cW wr.drew _,fun i hi=>by
          have:i=0:=by simp at hi;omega
          subst this;rfl⟩
         have aP:(wr.drew.alloc (.cells #[.int .i64 k] 3)).cell? ⟨b2 rs[k].h,n,none⟩=_:=(cC.cell PF).trans DB;refine cF.out _ _ ⟨(cC.cell oT).trans fe,(cC.cell OZ).trans cl,(cC.cell qD).trans dt,(cC.cell Kw).trans ej⟩ (fun j_=>?_);clear cF bE;refine h_ ?_;refine Rh (rs:=[17,29]) av ao ?_;refine CT (o:=_) rfl (fun bE cF=>?_) (CT (o:=_) rfl (fun bE cF=>?_) Q5)
         ·go_simp;exact aoe
         ·go_simp;go_at_call 287;refine(sl.out _ cC zJ).mono ?_;rintro e w7 ⟨⟨EG,Le,rfl,Pf,vE,kE⟩,iu⟩;have fx:=cj cC iu;have aiu:=az fx PF DB;refine cF.out _ _ ⟨(fx.cell oT).trans fe,(fx.cell OZ).trans cl,(fx.cell qD).trans dt,(fx.cell Kw).trans ej⟩ (fun j_=>?_);clear cF bE;refine h_ ?_;refine oU 17 (fun bE cF=>?_);go_simp;exact aof
       ·have Oy:lx (w.heap.size+2) wr (.slice (some ⟨cb,0,none⟩) S.aD.length hj) S.aD.length Z b2 E (part rs Z f (n-1) (k+1)):=cM.congr (aGE rs Z f (n-1) k au (by rw[show n-1+1=n by omega];exact aa));by_cases jn:n<Z rs[k].h
        ·have aj:(n:Int)<(Z rs[k].h:Int):=z;have aF:¬(n:Int)<=(f rs[k].h:Int):=z;have bq:decide ((n:Int)<=(f rs[k].h:Int))=false:=bz;have cI:¬n<=f rs[k].h:=z;exact aoq
        ·have aj:¬(n:Int)<(Z rs[k].h:Int):=z;exact aoq
      ·obtain rfl:k=rs.length:=z;have Oy:lx (w.heap.size+2) wr (.slice (some ⟨cb,0,none⟩) S.aD.length hj) S.aD.length Z b2 E (fY rs Z f (n+1-1)):=cM.congr fun s i=>by rw[aGC rs Z f (n-1) s i,show n-1+1=n+1-1 by omega]
       clear cM
       go_wp2;go_roundw;case rel=>first|exact⟨n+1,E,z,z,bG,kT,cm,hb,vu,Oy⟩|((repeat apply Exists.intro);refine⟨?_,rfl⟩;exact⟨n+1,E,z,z,bG,kT,cm,hb,vu,Oy⟩)
       case measure=>simp[RowKit.intOf];omega
    ·obtain rfl:n=m+1:=z;rw[Rt]at cM;have jq:¬((m+1:Nat):Int)<=(m:Int):=z;have fe:=aK 6 hb;have oT:=c8 hb;have ag:=G (cM.asa ub);clear cM
     go_wp2;go_ret;rw[T.out]at ag;exact⟨⟨_,f,rfl,ag.out,On⟩,cm.b⟩
end
end Go.bh
namespace Go.bh
open Go Go.Proofs Go.RowKit Go.da
section
variable {S:cU} {M:Nat->Nat} {rs:List bA} {ca bd:Option Addr} {cc aW rb aE rc:Nat} {w:World}
theorem pB.op(h:pB S M rs ca bd cc aW rb aE rc w):∀r∈rs,r.op.size<=20:=fun r a=>(h.UY.df r (h.sub.subset a)).op.hi
end
end Go.bh
namespace Go.bh
open Go Go.Proofs.Tryz Go.Proofs Go.RowKit Go.da
attribute [local irreducible] wpAnyH in
theorem aJa(T:List Int->Prop)(cM:∀p,T p->p.length<=100):∀(N n:Nat) (va:Option Addr) (Z:Nat) (w:World),n<=N->n<=1000000000000->n<=Z->yh T w va n-> χ 193 #[.slice va n Z] w (avy T n):=by
 intro N;induction N with
 |zero=>
  intro n va Z w ec A ad e1;obtain rfl:n=0:=z;have iN:=G e1;clear e1;go_enter func193,ntmps193
  go_wp2;go_ret;exact⟨⟨_,_,rfl,ad,iN⟩,br _ _⟩
 |succ N qi=>
  intro n va Z w ec A ad e1;have iN:=G e1;by_cases I:n<2
  ·have dC:(n:Int)<2:=z;have aj:decide ((n:Int)<2)=true:=bz;clear e1 qi;go_enter func193,ntmps193
   go_wp2;go_ret;exact⟨⟨_,_,rfl,ad,iN⟩,br _ _⟩
  ·have dC:¬(n:Int)<2:=z;have aj:decide ((n:Int)<2)=false:=bz;obtain⟨h,b9⟩:∃h,h=n/2:=⟨_,rfl⟩;have s0:(n:Int).tdiv 2=(h:Int):=by rw[LK z];omega
   have aC:wrap64 ((n:Int).tdiv 2)=(h:Int):=by rw[s0];exact Q6 _ ⟨z,z⟩
   have D3:1<=h/\h<n:=z;have ei:(0:Int)<=(h:Int):=z;have hA:(h:Int)<=(n:Int):=z;have gU:(h:Int)<=(Z:Int):=z;have kf:(n:Int)<=(Z:Int):=z;have mn:¬Z=h:=z;obtain⟨l5,rx,rfl,AN,Cs⟩:=e1 z;have ax:=G (fun W (V:β w W)=>qi h (some ⟨l5,rx,none⟩) Z W z z z (yh.K (va:=some ⟨l5,rx,none⟩) (fun _=>⟨l5,rx,rfl,AN,fun i hi=>Cs i z⟩) V));have ay:=G (fun W (V:β w W)=>qi (n-h) (some ⟨l5,rx+h,none⟩) (Z-h) W z z z (yh.K (va:=some ⟨l5,rx+h,none⟩) (fun _=>⟨l5,rx+h,rfl,AN,fun i hi=>by rw[kN];exact Cs (h+i) z⟩) V));clear Cs qi e1 iN b9;go_enter func193,ntmps193;go_upto_region 5 with(first|(have _:=aS;go_at_call 193;refine(ay.out _ aS).mono ?_;rintro e b ⟨⟨ra,rc,rfl,kE,du⟩,bp⟩)|(go_at_call 193;refine(ax.out _ (br _ _)).mono ?_;rintro e am ⟨⟨fq,hj,rfl,ne,c0⟩,aS⟩))
   have lN:=cj aS bp;have eR:=G (fun W (V:β b W)=>(c0.K bp).K V);have au:=G (fun W (V:β b W)=>du.K V);clear c0 du aS bp ax ay;obtain⟨xt,xi,mf,mH,mI⟩:=im Pr
   go_wp2;go_loopw [5,6,7] (fun v ae Pw wr=>∃(i j:Nat) (f:List Value),i<=h/\j<=n-h/\ae=.int .i64 i/\Pw=.int .i64 j/\Hid (f.length=i+j)/\β b wr/\Hid (wr.ownsRow b 22 1 v (i+j) f)/\Hid (∀y∈f,mz T b y)) (fun _ ae Pw _=>n-((RowKit.intOf ae).toNat+(RowKit.intOf Pw).toNat));case atStart=>exact⟨0,0,[],dx _,dx _,rfl,rfl,G rfl,br _ _,G (mT _ _ _ _),G ao⟩
   case round=>
    obtain⟨i,j,f,hi,aa,rfl,rfl,MF,bg,iC,o7⟩:=hrel;have b4:(0:Int)<=(i:Int):=z;have dF:(0:Int)<=(j:Int):=z;have gL:((n-h:Nat):Int)=(n:Int)-(h:Int):=z;have k3:=cj lN bg;by_cases Km:j=n-h
    ·by_cases aI:i<h
     ·have hL:(i:Int)<h:=z;have hx:((j:Int)==((n-h:Nat):Int))=true:=by rw[Km];simp
      have f3:decide ((i:Int)<h)=true:=bz
      go_wp2;refine CV (S:=(fun _=>True)) av g' (fun yu=>?_);refine ci 0 34 ?_;refine ci 1 35 ?_;refine ci 2 36 ?_;refine ci 3 37 ?_;refine ci 4 38 ?_;refine mr 5 39 ?_;refine mr 6 40 ?_;refine mr 7 41 ?_;refine mr 8 42 ?_;refine mr 9 43 ?_;refine mr 10 44 ?_;refine mr 11 45 ?_;refine mr 12 46 ?_;refine mr 13 47 ?_;refine mr 14 48 ?_;refine mr 15 49 ?_;refine mr 16 50 ?_;refine mr 17 51 ?_;refine mr 18 52 ?_;refine mr 19 53 ?_;refine mr 20 54 ?_;refine ci 21 55 ?_;refine Fp av ?_ _;have l:=bg.drew;have X:Hid (wr.drew.ownsRow b 22 1 _ (i+j) f):=iC;generalize wr.drew=m at*;obtain⟨bL,eG,s3,ke,kF⟩:=eR.out _ (br _ _) z;cases s3;obtain⟨y,aB,Ef⟩:=kF i z;obtain⟨s,u,q,rfl,ai,ah⟩:=Ef;have GK:mz T b (.slice s q u):=⟨s,u,q,rfl,ai,ah⟩;have pd:=az l ke aB;have al:bL<m.heap.size:=cS l ke;have x:=l.alloc l.size (.cells #[.slice s q u] 22);clear kF aB
      go_wp2_with (at_builtin;refine ln _ rfl _ _ 23 rfl b 22 xt _ 1 24 Is xi mf mH mI rfl ak _ (i+j) f rfl (X.out.alloc _) ⟨m,0,none⟩ 1 1 [.slice s q u] rfl rfl (rA (cs:=#[.slice s q u]) (t:=22) (fr:=(0,0)) (px m _)) (by simp[Value.oneCell']) (by unfold maxLen;omega) z x.size ?_;intro g1 J L K _);have M:β b J:=x.grown K x.size (fun g an=>by
       rcases x1 g b with U|U
       ·exact absurd an.symm (y0 X U)
       ·exact U)
      have R:Hid (J.ownsRow b 22 1 g1 (i+1+(j)) (f++[Value.slice s q u])):=G (by rw[show i+1+(j)=i+j+1 by omega];exact L);have O:Hid (∀y∈f++[Value.slice s q u],mz T b y):=G fun y aB=>by
       rcases lo.1 aB with aB|aB;exact o7.out y aB;simp at aB;subst aB;exact GK
      have Q:Hid ((f++[Value.slice s q u]).length=i+1+(j)):=G (by rw[ia,MF];simp;omega);clear L K;go_roundw;case rel=>first|exact⟨i+1,j,_,z,z,hU (Value.int .i64) z,hU (Value.int .i64) z,Q,M,R,O⟩|((repeat apply Exists.intro);refine⟨?_,rfl⟩;exact⟨i+1,j,_,z,z,congrArg (Value.int .i64) z,congrArg (Value.int .i64) z,Q,M,R,O⟩)
      case measure=>simp[RowKit.intOf];omega
     ·have aX:¬(i:Int)<h:=z;have ba:decide ((i:Int)<h)=false:=bz;have bx:¬(j:Int)<((n-h:Nat):Int):=z;have dt:decide ((j:Int)<((n-h:Nat):Int))=false:=bz
      go_wp2;go_ret;obtain⟨fH,kh,rfl,aG,aF⟩:=aGX (T:=T) iC z MF (fun y aB=>(o7.out y aB).K bg);rw[show i+j=n by omega]at*;exact⟨⟨fH,kh,rfl,aG,aF⟩,k3⟩
    ·by_cases aI:i<h
     ·have xa:(j:Int)<((n-h:Nat):Int):=z;have f5:(j:Int)<(n:Int)-(h:Int):=z;have B5:((j:Int)==((n-h:Nat):Int))=false:=by rw[lp];omega
      have f7:((j:Int)==(n:Int)-(h:Int))=false:=by rw[lp];omega
      have hL:(i:Int)<h:=z;have f3:decide ((i:Int)<h)=true:=bz;obtain⟨cb,eh,nd,kD,aA⟩:=eR.out _ (br _ _) z;cases nd;obtain⟨dl,Pl,aJ⟩:=aA i z;obtain⟨D,E,B,rfl,hE,af⟩:=aJ;obtain⟨rb,aE,ii,iw,aD⟩:=au.out _ (br _ _) z;cases ii;obtain⟨dE,Pm,aK⟩:=aD j z;obtain⟨F,H,C,rfl,h0,ag⟩:=aK;have kl:=bg.drew;have cl:wr.drew.cell? ⟨cb,eh+i,none⟩=some (.slice D B E):=(kl.cell kD).trans Pl;have Ae:wr.drew.cell? ⟨rb,aE+j,none⟩=some (.slice F C H):=(kl.cell iw).trans Pm;have aN:=G (fun W (V:β b W)=>aDO F D H E C B W (h0.K V).kC (hE.K V).kC (cM _ ag) (cM _ af));have aw:=G Pl;have aL:Hid (mz T b (.slice D B E)):=G ⟨D,E,B,rfl,hE,af⟩;have aM:Hid (mz T b (.slice F C H)):=G ⟨F,H,C,rfl,h0,ag⟩;have ap:=G Pm;clear aA aD Pl Pm hE h0 af ag
      go_wp2;refine CV (S:=(fun W=>W.cell? ⟨rb,aE+j,none⟩=some (.slice F C H)/\W.cell? ⟨cb,eh+i,none⟩=some (.slice D B E))) av ⟨Ae,cl⟩ (fun yu=>?_);clear cl Ae;refine ci 0 34 ?_;refine ci 1 35 ?_;refine ci 2 36 ?_;refine ci 3 37 ?_;refine ci 4 38 ?_;refine ci 5 39 ?_;refine ci 6 40 ?_;refine ci 7 41 ?_;refine ci 8 42 ?_;refine ci 9 43 ?_;refine ci 10 44 ?_;refine ci 11 45 ?_;refine ci 12 46 ?_;refine ci 13 47 ?_;refine ci 14 48 ?_;refine ci 15 49 ?_;refine ci 16 50 ?_;refine ci 17 51 ?_;refine oU 18 (fun bE cF=>?_);go_simp;go_at_call 288;refine(aN.out _ kl).mono ?_;rintro e m ⟨⟨r,rfl⟩,bu⟩;have l:β b m:=cj kl bu;have X:Hid (m.ownsRow b 22 1 _ (i+j) f):=G (AY (show wr.drew.ownsRow _ _ _ _ _ _ from iC.out) bu);refine cF.out _ _ ⟨(l.cell iw).trans ap,(l.cell kD).trans aw⟩ (fun j_=>?_);clear cF bE yu;refine h_ ?_;cases r
      ·refine ci 19 53 ?_;refine ci 20 54 ?_;refine ci 21 55 ?_;refine Fp av ?_ _;have GK:mz T b (.slice D B E):=aL.out;have pd:m.cell? ⟨cb,eh+i,none⟩=some (.slice D B E):=(l.cell kD).trans aw;have al:cb<m.heap.size:=cS l kD;clear j_;have x:=l.alloc l.size (.cells #[.slice D B E] 22)
       go_wp2_with (at_builtin;refine ln _ rfl _ _ 23 rfl b 22 xt _ 1 24 Is xi mf mH mI rfl ak _ (i+j) f rfl (X.out.alloc _) ⟨m,0,none⟩ 1 1 [.slice D B E] rfl rfl (rA (cs:=#[.slice D B E]) (t:=22) (fr:=(0,0)) (px m _)) (by simp[Value.oneCell']) (by unfold maxLen;omega) z x.size ?_;intro g1 J L K _);have M:β b J:=x.grown K x.size (fun g an=>by
        rcases x1 g b with U|U
        ·exact absurd an.symm (y0 X U)
        ·exact U)
       have R:Hid (J.ownsRow b 22 1 g1 (i+1+(j)) (f++[Value.slice D B E])):=G (by rw[show i+1+(j)=i+j+1 by omega];exact L);have O:Hid (∀y∈f++[Value.slice D B E],mz T b y):=G fun y aB=>by
        rcases lo.1 aB with aB|aB;exact o7.out y aB;simp at aB;subst aB;exact GK
       have Q:Hid ((f++[Value.slice D B E]).length=i+1+(j)):=G (by rw[ia,MF];simp;omega);clear L K;go_roundw;case rel=>first|exact⟨i+1,j,_,z,z,hU (Value.int .i64) z,hU (Value.int .i64) z,Q,M,R,O⟩|((repeat apply Exists.intro);refine⟨?_,rfl⟩;exact⟨i+1,j,_,z,z,congrArg (Value.int .i64) z,congrArg (Value.int .i64) z,Q,M,R,O⟩)
       case measure=>simp[RowKit.intOf];omega
      ·refine ci 19 53 ?_;refine ci 20 54 ?_;refine ci 21 55 ?_;refine Fp av ?_ _;have GK:mz T b (.slice F C H):=aM.out;have pd:m.cell? ⟨rb,aE+j,none⟩=some (.slice F C H):=(l.cell iw).trans ap;have al:rb<m.heap.size:=cS l iw;clear j_;have x:=l.alloc l.size (.cells #[.slice F C H] 22)
       go_wp2_with (at_builtin;refine ln _ rfl _ _ 23 rfl b 22 xt _ 1 24 Is xi mf mH mI rfl ak _ (i+j) f rfl (X.out.alloc _) ⟨m,0,none⟩ 1 1 [.slice F C H] rfl rfl (rA (cs:=#[.slice F C H]) (t:=22) (fr:=(0,0)) (px m _)) (by simp[Value.oneCell']) (by unfold maxLen;omega) z x.size ?_;intro g1 J L K _);have M:β b J:=x.grown K x.size (fun g an=>by
        rcases x1 g b with U|U
        ·exact absurd an.symm (y0 X U)
        ·exact U)
       have R:Hid (J.ownsRow b 22 1 g1 (i+(j+1)) (f++[Value.slice F C H])):=G (by rw[show i+(j+1)=i+j+1 by omega];exact L);have O:Hid (∀y∈f++[Value.slice F C H],mz T b y):=G fun y aB=>by
        rcases lo.1 aB with aB|aB;exact o7.out y aB;simp at aB;subst aB;exact GK
       have Q:Hid ((f++[Value.slice F C H]).length=i+(j+1)):=G (by rw[ia,MF];simp;omega);clear L K;go_roundw;case rel=>first|exact⟨i,j+1,_,z,z,hU (Value.int .i64) z,hU (Value.int .i64) z,Q,M,R,O⟩|((repeat apply Exists.intro);refine⟨?_,rfl⟩;exact⟨i,j+1,_,z,z,congrArg (Value.int .i64) z,congrArg (Value.int .i64) z,Q,M,R,O⟩)
       case measure=>simp[RowKit.intOf];omega
     ·have xa:(j:Int)<((n-h:Nat):Int):=z;have f5:(j:Int)<(n:Int)-(h:Int):=z;have B5:((j:Int)==((n-h:Nat):Int))=false:=by rw[lp];omega
      have f7:((j:Int)==(n:Int)-(h:Int))=false:=by rw[lp];omega
      have aX:¬(i:Int)<h:=z;have ba:decide ((i:Int)<h)=false:=bz
      go_wp2;refine CV (S:=(fun _=>True)) av g' (fun yu=>?_);refine ci 0 34 ?_;refine ci 1 35 ?_;refine ci 2 36 ?_;refine ci 3 37 ?_;refine ci 4 38 ?_;refine ci 5 39 ?_;refine ci 6 40 ?_;refine ci 7 41 ?_;refine ci 8 42 ?_;refine ci 9 43 ?_;refine mr 10 44 ?_;refine mr 11 45 ?_;refine mr 12 46 ?_;refine mr 13 47 ?_;refine mr 14 48 ?_;refine mr 15 49 ?_;refine mr 16 50 ?_;refine mr 17 51 ?_;refine mr 18 52 ?_;refine mr 19 53 ?_;refine ci 20 54 ?_;refine ci 21 55 ?_;refine Fp av ?_ _;have l:=bg.drew;have X:Hid (wr.drew.ownsRow b 22 1 _ (i+j) f):=iC;generalize wr.drew=m at*;obtain⟨bL,eG,s3,ke,kF⟩:=au.out _ (br _ _) z;cases s3;obtain⟨y,aB,Ef⟩:=kF j z;obtain⟨s,u,q,rfl,ai,ah⟩:=Ef;have GK:mz T b (.slice s q u):=⟨s,u,q,rfl,ai,ah⟩;have pd:=az l ke aB;have al:bL<m.heap.size:=cS l ke;have x:=l.alloc l.size (.cells #[.slice s q u] 22);clear kF aB
      go_wp2_with (at_builtin;refine ln _ rfl _ _ 23 rfl b 22 xt _ 1 24 Is xi mf mH mI rfl ak _ (i+j) f rfl (X.out.alloc _) ⟨m,0,none⟩ 1 1 [.slice s q u] rfl rfl (rA (cs:=#[.slice s q u]) (t:=22) (fr:=(0,0)) (px m _)) (by simp[Value.oneCell']) (by unfold maxLen;omega) z x.size ?_;intro g1 J L K _);have M:β b J:=x.grown K x.size (fun g an=>by
       rcases x1 g b with U|U
       ·exact absurd an.symm (y0 X U)
       ·exact U)
      have R:Hid (J.ownsRow b 22 1 g1 (i+(j+1)) (f++[Value.slice s q u])):=G (by rw[show i+(j+1)=i+j+1 by omega];exact L);have O:Hid (∀y∈f++[Value.slice s q u],mz T b y):=G fun y aB=>by
       rcases lo.1 aB with aB|aB;exact o7.out y aB;simp at aB;subst aB;exact GK
      have Q:Hid ((f++[Value.slice s q u]).length=i+(j+1)):=G (by rw[ia,MF];simp;omega);clear L K;go_roundw;case rel=>first|exact⟨i,j+1,_,z,z,hU (Value.int .i64) z,hU (Value.int .i64) z,Q,M,R,O⟩|((repeat apply Exists.intro);refine⟨?_,rfl⟩;exact⟨i,j+1,_,z,z,congrArg (Value.int .i64) z,congrArg (Value.int .i64) z,Q,M,R,O⟩)
      case measure=>simp[RowKit.intOf];omega
variable{w:World}{v:Value}
theorem mz.kept{T:List Int->Prop}{w':World}(h:mz T w v)(a:ya w w'):mz T w' v:=by
 obtain⟨b,c,q,e,H,I⟩:=h;exact⟨b,c,q,e,H.kept a,I⟩
theorem mz.xy{T:List Int->Prop}(h:mz T w v):v.oneCell'=true:=by
 obtain⟨a,b,q,rfl,_⟩:=h;rfl
variable{n:Nat}
theorem yh.g8{T:List Int->Prop}{va:Option Addr}(h:yh T w va n):∃zs:List Value,zs.length=n/\(∀y∈zs,mz T w y)/\((∃ad,va=some ad/\∀(j:Nat) u,zs[j]? =some u->w.cell? (ad.add j)=some u)∨(va=none/\n=0)):=by
 by_cases ae:0<n
 ·obtain⟨b,o,e,f,c⟩:=h ae;have key:∀i,i<n->w.cell? ⟨b,o+i,none⟩=some ((w.cell? ⟨b,o+i,none⟩).getD undef)/\mz T w ((w.cell? ⟨b,o+i,none⟩).getD undef):=fun i hi=>by obtain⟨v,H,I⟩:=c i hi;rw[H];exact⟨rfl,I⟩
  refine⟨(List.range n).map fun i=>(w.cell? ⟨b,o+i,none⟩).getD undef,ao,fun y a=>?_,.inl ⟨_,e,fun j u hu=>?_⟩⟩;obtain⟨i,hi,rfl⟩:=nv.1 a;exact(key i (xZ.1 hi)).2
  ·rw[n4]at hu;obtain⟨i,hi,rfl⟩:=iz.1 hu;obtain⟨au,rfl⟩:=k2.1 hi;rw[afe]at au;rw[List.getElem_range];have d:(⟨b,o,none⟩:Addr).add j=⟨b,o+j,none⟩:=by
    unfold Addr.add;split;rename_i dC;subst dC;rfl;rfl
   rw[d];exact(key j au).1
 ·obtain rfl:n=0:=z;refine⟨[],rfl,fun y a=>(by cases a),?_⟩;cases va with
  |none=>exact .inr ⟨rfl,rfl⟩
  |some ad=>exact .inl ⟨ad,rfl,fun j u hu=>by simp at hu⟩
theorem aJx{rs:List bA}{M:Nat->Nat}{al:Nat}(f:∀i,1<=M i/\M i<=5)(n:yj rs M al):∃d,1<=d/\d<=M al/\∀need,tw M rs al rs need->fY rs (fun s=>min (M s) d+1) need d al d≠[]:=by
 rcases n with⟨k,b,c,aH⟩|⟨I,a,k,j,b,l,c,aH,m,g⟩
 have H:=f al;exact⟨1,aZ _,H.1,fun need e=>asc b c aH z (by have:=e.eh;omega) 1 (aZ _)⟩;have H:=f a;exact⟨2,z,I,fun need e=>aJW b c aH l m g z (by have:=e.eh;omega) z (e.CK k b b c I a aH)⟩
theorem aH1{base:Nat}{l:List Int}(h:w.ownsRow base 3 1 v n (gF l))(b:l.length=n)(ae:v≠ .slice none 0 0):∃g cap,v=.slice (some ⟨g,0,none⟩) l cap/\lu w (some ⟨g,0,none⟩) l/\l.length<=cap/\cap<=9223372036854775807/\base<=g:=by
 obtain⟨g,cap,aj,H,I,c⟩:=aq3 h b ae;refine⟨g,cap,aj,H,I,?_,c⟩;rcases h.2 with⟨a,_⟩|⟨f,i,e,a,_,_,_,d,_⟩
 rw[a]at aj;cases aj;rw[a]at aj;cases aj;exact d
theorem U7{base:Nat}{e:TypeId}{size:Nat}{aP:List Value}(h:w.ownsRow base e size v n aP)(a:0<n):v≠ .slice none 0 0:=fun e=>by
 rcases h.2 with⟨_,ae⟩|⟨_,_,_,aj,_⟩
 ·omega
 ·rw[e]at aj;cases aj
section
variable {S:cU} {M:Nat->Nat} {rs:List bA} {ca bd:Option Addr} {cc aW rb aE rc:Nat} {w:World}
def avw(base:Nat)(rs:List bA)(M:Nat->Nat)(al:Nat)(e:Ending)(w':World):Prop:=∃va a n p,e=.returned (.slice va (p:List Int).length a)/\lu w' va p/\pF rs M al n p/\p.length<=a/\a<=9223372036854775807/\∀x,va=some x->base<=x.block
attribute [local irreducible] wpStill wpAnyH in
theorem aGK(h:pB S M rs ca bd cc aW rb aE rc w)(kt:IN w rb aE rs)(Ar:rs.length<=9)(bm:yj rs M S.al)(fI:Int): χ 113 #[.agg (eg S rs ca bd cc aW rb aE rc),.int .i64 fI] w (avw w.heap.size rs M S.al):=by
 have aL:=hX.ee w (eg S rs ca bd cc aW rb aE rc);have aR:=G (fun W (O:β w W) (af:Nat) (H:1<=af) (b3:af<=5)=>aIM (h.K O) (kt.K O) Ar af H b3);obtain⟨d,TK,be,bT⟩:=aJx h.yS bm;have BC:=G bT;have ub:=h.ok.xI;have r4:=h.ok.aD;have e2:=h.ok.al;have mX:=G h.yS;have GD:=h.yS S.al;obtain⟨bL,eG,s3,ke,kF⟩:=h.y;have o7:=G (fun W (O:β w W) i (hi:i<S.aD.length)=>az O ke (kF i hi).2.2);subst s3;obtain⟨-,-,-,bx,-,L⟩:=f_ aL.g;have tH:=o7.out _ aL.b _ e2;have hA:(0:Int)<=(S.al:Int):=z;have gU:(S.al:Int)<S.aD.length:=z;obtain⟨xt,xi,kc,hE,h0⟩:=im Pr;clear h kt bm bT kF;go_enter func113,ntmps113
 go_wp2;have aA:w.heap.size+1<=(w.alloc (.cells (eg S rs ca (some ⟨bL,eG,none⟩) cc aW rb aE rc) 29)).heap.size:=ao;go_loopw [6,7] (fun v i wr=>∃(af len:Nat) (K:List Value),1<=af/\af<=M S.al+1/\i=.int .i64 af/\w.heap.size+1<=wr.heap.size/\hX w (eg S rs ca (some ⟨bL,eG,none⟩) cc aW rb aE rc) wr/\Hid (wr.ownsRow (w.heap.size+1) 22 1 v len K)/\Hid (∀y∈K,mz (fun p=>∃n,pF rs M S.al n p) wr y)/\len<400/\(d<af->0<len)) (fun _ i _=>M S.al+1-(RowKit.intOf i).toNat);case atStart=>exact⟨1,0,[],z,z,rfl,aA,aL,G (mT _ _ _ _),G (fun y aB=>by cases aB),z,fun h=>z⟩
 case round=>
  clear aL aA bx L tH;obtain⟨af,len,K,iY,bc,rfl,kT,Q,Xv,XG,bf,ad⟩:=hrel;by_cases dK:af<=M S.al
  ·have jq:(af:Int)<=(M S.al:Int):=z;obtain⟨cQ,aX,ba,bx,dt,L⟩:=f_ Q.g;have Mx:=G (aR.out _ Q.b af iY z);go_upto_region 7 with(go_at_call 192;refine Mx.out.mono ?_;rintro e aq ⟨⟨bj,need,rfl,aF,On⟩,bp⟩)
   have lO:=Q.K bp;have Xw:=G (AY Xv.out bp);have am:=G (fun y aB=>(XG.out y aB).K bp);have aJ:=cO kT bp.size;clear Q Xv XG kT bp cQ aX ba bx dt L Mx;obtain⟨cb,hj,b2,rfl,kD,⟨bk,a_,aI⟩,aw⟩:=aF;obtain⟨ph,⟨bb,aY,aG⟩,cl,aj⟩:=aw S.al e2;try dsimp only at cl aj
   obtain⟨va,ct,R,e1,aa⟩:=aj af z;rw[show min (M S.al) af+1=af+1 by omega]at cl;have vG:=QG (rs:=rs) (Z:=fun s=>min (M s) af+1) (need:=need) Ar af z S.al af;have Uj:∀q∈fY rs (fun s=>min (M s) af+1) need af S.al af,∃n,pF rs M S.al n q:=fun q aC=>⟨af,QH (M:=M) (fun s=>z) af S.al af q aC⟩;have Cm:d=af->0<(fY rs (fun s=>min (M s) af+1) need af S.al af).length:=fun e=>by subst e;exact List.length_pos_iff.2 (BC.out need On)
   obtain⟨b0,c0⟩:∃b0,fY rs (fun s=>min (M s) af+1) need af S.al af=b0:=⟨_,rfl⟩;rw[c0]at R e1 aa vG Uj Cm;obtain⟨j,ay⟩:∃j,b0.length=j:=⟨_,rfl⟩;have ai:=e1.aGW Uj;rw[ay]at R aa vG Cm ai;have bi:j<=61917364224:=cO vG (kO z (z:af<=5));have ap:=G (fun W (O:β aq W)=>aJa (fun p=>∃n,pF rs M S.al n p) (fun p ag=>by
    obtain⟨n,ax⟩:=ag
    have H:=ax.len
    have I:=ax.le
    have ah:=(mX.out S.al).2
    omega) j j va ct W (aZ _) z aa (ai.K O))
   have aS:=G Cm;clear aw aj e1 vG Uj c0 ay ai On Cm;have L:=aK 5 lO.g;have qD:=c8 lO.g;have cy:(af:Int)<=5:=z;have bl:IntKind.i64.wrap (af:Int)=af:=pw _ ⟨z,z⟩;have z3:(af:Int)<(af:Int)+1:=z;have bh:min (af:Int) (af:Int)=af:=z;have dz:(1:Int)<=(af:Int):=z;have kl:β aq aq.drew:=(br _ _).drew;refine CV (S:=(fun W=>W.cell? ⟨w.heap.size,5,none⟩=some (.int .i64 S.al)/\W.cell? ⟨cb,S.al,none⟩=some (.slice (some ⟨b2 S.al,0,none⟩) (af+1) (af+1))/\W.cell? ⟨b2 S.al,af,none⟩=some (.slice va j ct))) av ⟨L,cl,R⟩ (fun yu=>?_);refine ci 0 24 ?_;refine ci 1 25 ?_;refine ci 2 26 ?_;refine ci 3 27 ?_;refine ci 4 28 ?_;refine ci 5 29 ?_;refine ci 6 30 ?_;refine ci 7 31 ?_;refine ci 8 32 ?_;refine ci 9 33 ?_;refine ci 10 34 ?_;refine ci 11 35 ?_;refine ci 12 36 ?_;refine ci 13 37 ?_;refine ci 14 38 ?_;refine ci 15 39 ?_;refine ci 16 40 ?_;refine oU 17 (fun bE cF=>?_);go_simp;go_at_call 193;refine(ap.out _ kl).mono ?_;rintro e w7 ⟨⟨fH,Le,rfl,kE,aD⟩,iu⟩;have A:=cj kl iu;obtain⟨zs,AR,al,J⟩:=aD.g8;refine cF.out _ _ ⟨(A.cell qD).trans L,(A.cell kD).trans cl,(A.cell ph).trans R⟩ (fun j_=>?_);clear cF bE;refine h_ ?_;refine oU 18 (fun bE cF=>?_);refine arT (d:=some 42) _ rfl rfl _ _ 23 rfl (w.heap.size+1) 22 xt _ 1 24 Is xi kc hE h0 rfl ak _ len K rfl (AY Xw.out A) fH j Le zs rfl (by rw[AR,tm]) J (fun u hu=>(al u hu).xy) (by unfold maxLen;omega) z (cO aJ A.size) ?_;intro ms m r3 T _;obtain⟨Lp,Lq,rfl⟩:=ac7 r3;have N:=AY Xw.out A;have ae:=Hd N T;have X:=lO.K A;have D2:m.heap[w.heap.size]? =some (Obj.cells (eg S rs ca (some ⟨bL,eG,none⟩) cc aW rb aE rc) 29 (0,0)):=by rw[T.block _ (c8 X.g) (CB N X.g ak)];exact X.g
   have au:m.cell? ⟨w.heap.size,5,none⟩=_:=ly D2 rfl;have Ny:m.cell? ⟨cb,S.al,none⟩=_:=(T.cell_far ⟨cb,S.al,none⟩ (cS A kD) (CB N ((A.block _ kD).trans aI) ak)).trans ((A.cell kD).trans cl);have aU:m.cell? ⟨b2 S.al,af,none⟩=_:=(T.cell_far ⟨b2 S.al,af,none⟩ (cS A ph) (CB N ((A.block _ ph).trans aG) ak)).trans ((A.cell ph).trans R);refine cF.out _ _ ⟨au,Ny,aU⟩ (fun j_=>?_);clear cF bE;refine h_ ?_;refine ci 19 6 ?_;refine Fp av ?_ _;have Mv:=G r3;have XH:Hid (∀y∈K++zs,mz (fun p=>∃n,pF rs M S.al n p) m y):=G fun y aB=>by
    rcases lo.1 aB with aB|aB
    ·exact((am.out y aB).K A).kept ae
    ·exact(al y aB).kept ae
   have TD:β w m:=X.b.grown T X.b.size (fun g an=>by
    rcases x1 g (w.heap.size+1)with U|U
    ·exact absurd an.symm (y0 N U)
    ·omega)
   have tt:hX w (eg S rs ca (some ⟨bL,eG,none⟩) cc aW rb aE rc) m:=⟨TD,D2⟩;have OF:w.heap.size+1<=m.heap.size:=c8 D2;have OM:d<af+1->0<len+j:=fun hd=>by
    by_cases e:d=af
    ·have:=aS.out e;omega
    ·have:=ad z;omega
   have b5:(j:Int)<=61917364224:=z;have eK:(len:Int)<400:=z;clear ae N D2 T r3 al AR J aD X A am Xw L au cl R j_ yu iu ap lO;by_cases aM:400<=len+j
   ·have cI:((len:Int)+(j:Int))≥400:=z;have hr:decide ((400:Int)<=(len:Int)+(j:Int))=true:=bz;obtain⟨f,O0⟩:∃f,f=len+j:=⟨_,rfl⟩;have iV:(400:Int)<=(f:Int):=z;have jY:(f:Int)<=100000000000:=z;have aV:decide ((400:Int)<=(f:Int))=true:=bz;rw[←O0]at Mv OM⊢;clear OM cI hr aM O0;have F:=Mv;have XI:=XH;have x7:=TD;obtain⟨g,cap,ck,tM,TP,jy,q_,_,Cd⟩:=ul F.out (U7 F.out z);cases tM;have GZ:=F.out.1;obtain⟨B,nO,aN,aO,aP⟩:∃B:Nat,min (f:Int) 400=(B:Int)/\1<=B/\B<=f/\B<=400:=⟨min f 400,z,z,z,z⟩;have aQ:(if 400<(f:Int)then(400:Int)else(f:Int))=(B:Int):=by split<;>omega
    have W9:Hid (∀r,r<f->∃C D q,m.cell? ⟨g,r,none⟩=some (.slice C (q:List Int).length D)/\pC m C q/\∃n,pF rs M S.al n q):=G fun r ab=>by have H:=Cd r z;rw[jU z]at H;obtain⟨C,D,q,e,E,nQ⟩:=XI.out _ (fP (show r<(K++zs).length by omega));exact⟨C,D,q,by rw[ly jy H,e],E,nQ⟩
    have x4:=Mg m (w.heap.size) 3 1 x7.size;have cC:β m (m.alloc (.cells #[] 3)):=(br _ _).alloc (aZ _) _;obtain⟨ug,tZ,mf,mH,mI⟩:=im Ek;have tX:=c8 jy;have g0:(1:Int)<=(f:Int):=z;have lj:(f:Int)<=100000000000:=z;have n5:((f:Int)==0)=false:=by rw[lp];omega
    clear Cd GZ
    go_wp2_with (first
     |(have _:=ng;at_builtin;refine Ri _ rfl _ _ 22 rfl w.heap.size 3 ug _ 1 8 oY tZ mf mH mI rfl ak (.slice (some ⟨m.heap.size,0,none⟩) 0 0) 0 [] rfl x4 ⟨vS,xE,none⟩ q.length D (gF q) rfl (by rw[If,tm]) (Kr _ cC) (Ig _) E (by unfold maxLen;omega) z (cO x7.size cC.size) _ rfl ?_;intro vo DA gG yI yD _ _)
     |(go_at_call 194;refine(acJ fI B _ z z).mono ?_;rintro e w' ⟨⟨r,ng,rfl⟩,rfl⟩;obtain⟨C,D,q,Y1,GC,nq,Av⟩:=W9.out r z;have E:0<q.length:=(by rw[Av.len];exact Av.pos);have yJ:q.length<=5:=(by rw[Av.len];exact cO Av.le (mX.out _).2);obtain⟨vS,xE,rfl,Kr⟩:=UD GC E;have aT:=az cC tX Y1;have cn:(0:Int)<=(r:Int):=z;have dw:(r:Int)<f:=z))
    exact aox
   ·have cI:¬((400:Int)<=(len:Int)+(j:Int)):=z;have hr:decide ((400:Int)<=(len:Int)+(j:Int))=false:=bz;obtain⟨f,O0⟩:∃f,f=len+j:=⟨_,rfl⟩;have iV:¬(400:Int)<=(f:Int):=z;have aV:decide ((400:Int)<=(f:Int))=false:=bz;have vm:f<400:=z;rw[←O0]at Mv OM⊢;clear cI hr aM O0
    go_wp2;go_roundw;case rel=>first|exact⟨af+1,f,_,z,z,bG,OF,tt,Mv,XH,vm,OM⟩|((repeat apply Exists.intro);refine⟨?_,rfl⟩;exact⟨af+1,f,_,z,z,bG,OF,tt,Mv,XH,vm,OM⟩)
    case measure=>simp[RowKit.intOf];omega
  ·obtain rfl:af=M S.al+1:=z;have jq:¬((M S.al+1:Nat):Int)<=(M S.al:Int):=z;have bg:=ad z;have F:=Xv;have XI:=XG;have x7:=Q.b;clear ad Q;obtain⟨g,cap,ck,tM,TP,jy,q_,_,Cd⟩:=ul F.out (U7 F.out z);cases tM;have GZ:=F.out.1;obtain⟨B,nO,aN,aO,aP⟩:∃B:Nat,min (len:Int) 400=(B:Int)/\1<=B/\B<=len/\B<=400:=⟨min len 400,z,z,z,z⟩;have aQ:(if 400<(len:Int)then(400:Int)else(len:Int))=(B:Int):=by split<;>omega
   have W9:Hid (∀r,r<len->∃C D q,wr.cell? ⟨g,r,none⟩=some (.slice C (q:List Int).length D)/\pC wr C q/\∃n,pF rs M S.al n q):=G fun r ab=>by have H:=Cd r z;rw[jU z]at H;obtain⟨C,D,q,e,E,nQ⟩:=XI.out _ (fP (show r<K.length by omega));exact⟨C,D,q,by rw[ly jy H,e],E,nQ⟩
   have x4:=Mg wr (w.heap.size) 3 1 x7.size;have cC:β wr (wr.alloc (.cells #[] 3)):=(br _ _).alloc (aZ _) _;obtain⟨ug,tZ,mf,mH,mI⟩:=im Ek;have tX:=c8 jy;have g0:(1:Int)<=(len:Int):=z;have lj:(len:Int)<=100000000000:=z;have n5:((len:Int)==0)=false:=by rw[lp];omega
   clear Cd GZ
   go_wp2_with (first
    |(have _:=ng;at_builtin;refine Ri _ rfl _ _ 22 rfl w.heap.size 3 ug _ 1 8 oY tZ mf mH mI rfl ak (.slice (some ⟨wr.heap.size,0,none⟩) 0 0) 0 [] rfl x4 ⟨vS,xE,none⟩ q.length D (gF q) rfl (by rw[If,tm]) (Kr _ cC) (Ig _) E (by unfold maxLen;omega) z (cO x7.size cC.size) _ rfl ?_;intro vo DA gG yI yD _ _)
    |(go_at_call 194;refine(acJ fI B _ z z).mono ?_;rintro e w' ⟨⟨r,ng,rfl⟩,rfl⟩;obtain⟨C,D,q,Y1,GC,nq,Av⟩:=W9.out r z;have E:0<q.length:=(by rw[Av.len];exact Av.pos);have yJ:q.length<=5:=(by rw[Av.len];exact cO Av.le (mX.out _).2);obtain⟨vS,xE,rfl,Kr⟩:=UD GC E;have aT:=az cC tX Y1;have cn:(0:Int)<=(r:Int):=z;have dw:(r:Int)<len:=z))
   exact aox
end
end Go.bh
namespace Go.bS
open Go Go.Proofs.Tryz Go.Proofs Go.RowKit Go.da Go.bh
open Go.bh.N (lM)
open Go.aJ (el kR fb pZ hn)
structure Bz (S:cU) (M:Nat->Nat) (rs:List bA) (ca bd:Option Addr) (cc aW rb aE rc:Nat) (w:World):Prop where
 oe:pB S M rs ca bd cc aW rb aE rc w
 cap:IN w rb aE rs
 apl:rs.length<=9
 al:yj rs M S.al
 ok:∀r∈rs,lL S r
 kd:(S.aD[S.al]'oe.ok.al).2=1∨(S.aD[S.al]'oe.ok.al).2=2∨(S.aD[S.al]'oe.ok.al).2=3
 tG:∀x∈S.bw,1<=x.2/\x.2<=5
theorem Bz.K{S:cU}{M:Nat->Nat}{rs:List bA}{ca d:Option Addr}{cc b rb aE rc:Nat}{w w':World}(h:Bz S M rs ca d cc b rb aE rc w)(A:β w w'):Bz S M rs ca d cc b rb aE rc w':=
 ⟨h.oe.K A,h.cap.K A,h.apl,h.al,h.ok,h.kd,h.tG⟩
structure mZ (w:World) (a:Option Addr) (n:Nat) (aI:Array Value) (wr:World):Prop where
 b:β w wr
 g:wr.heap[w.heap.size]? =some (.cells aI 29 (0,0))
 o:wr.heap[w.heap.size+1]? =some (.cells uh 44 (0,0))
 m:∃c bE:Nat,wr.heap[w.heap.size+2]? =some (.cells #[.slice a n c,.int .i64 bE] 54 (0,0))
structure n9 (w:World) (a:Option Addr) (n:Nat) (aI:Array Value) (cT:Nat) (dd:Array Value) (wr:World):Prop where
 x:mZ w a n aI wr
 i:wr.heap[cT]? =some (.cells dd 44 (0,0))
 hi:w.heap.size+3<=cT
structure zN (w:World) (a:Option Addr) (n:Nat) (aI:Array Value) (cT:Nat) (dd:Array Value) (bv:Nat) (aT:Array Value) (wr:World):Prop where
 y:n9 w a n aI cT dd wr
 v:wr.heap[bv]? =some (.cells aT 42 (0,0))
 J:w.heap.size+3<=bv
section
variable {w wr w':World} {a:Option Addr} {n c:Nat} {aI dd aT:Array Value} {cT bv:Nat}
theorem mZ.start(w:World)(a:Option Addr)(n c:Nat)(aI:Array Value):mZ w a n aI (((w.alloc (.cells aI 29)).alloc (.cells uh 44)).alloc (.cells #[.slice a n c,.int .i64 0] 54)):=by
 have ae:=cW w (.cells aI 29);have H:=cW (w.alloc (.cells aI 29)) (.cells uh 44);have I:=cW ((w.alloc (.cells aI 29)).alloc (.cells uh 44)) (.cells #[.slice a n c,.int .i64 0] 54);have iD:∀(w:World) (o b:Obj) (k:Nat),w.heap[k]? =some b->(w.alloc o).heap[k]? =some b:=fun w o b k h=>((e4 w o).block k (bF h)).trans h;have e:∀(w:World) (o:Obj),(w.alloc o).heap.size=w.heap.size+1:=fun w o=>ao;simp only[e]at H I;exact⟨(((br _ _).alloc (aZ _) _).alloc ao _).alloc bz _,iD _ _ _ _ (iD _ _ _ _ ae),iD _ _ _ _ H,c,0,I⟩
theorem mZ.num(h:mZ w a n aI wr)(b:kR w a n)(d:∀q,a=some q->0<n->q.block<w):el wr (w.heap.size+2) a n:=by
 obtain⟨c,g,f⟩:=h.m;exact⟨c,g,f,b.K h.b,fun q e ae=>by have:=d q e ae;omega⟩
theorem mZ.hN(h:mZ w a n aI wr)(A:β w w')(b:∀k,k<w.heap.size+3->k<wr.heap.size->w'.heap[k]? =wr.heap[k]?):mZ w a n aI w':=by
 obtain⟨c,e,d⟩:=h.m;exact⟨A,(b _ z (bF h.g)).trans h.g,(b _ z (bF h.o)).trans h.o,c,e,(b _ z (bF d)).trans d⟩
theorem mZ.K(h:mZ w a n aI wr)(A:β wr w'):mZ w a n aI w':=h.hN (cj h.b A) fun k _ b=>A.block k b
theorem n9.K(h:n9 w a n aI cT dd wr)(A:β wr w'):n9 w a n aI cT dd w':=⟨h.x.K A,(A.block _ (bF h.i)).trans h.i,h.hi⟩
theorem zN.K(h:zN w a n aI cT dd bv aT wr)(A:β wr w'):zN w a n aI cT dd bv aT w':=⟨h.y.K A,(A.block _ (bF h.v)).trans h.v,h.J⟩
theorem mZ.alloc(h:mZ w a n aI wr)(o:Obj):mZ w a n aI (wr.alloc o):=h.K ((br _ _).alloc (aZ _) o)
theorem n9.alloc(h:n9 w a n aI cT dd wr)(o:Obj):n9 w a n aI cT dd (wr.alloc o):=h.K ((br _ _).alloc (aZ _) o)
theorem mZ.drew(h:mZ w a n aI wr):mZ w a n aI wr.drew:=h.K ((br _ _).drew)
theorem n9.drew(h:n9 w a n aI cT dd wr):n9 w a n aI cT dd wr.drew:=h.K ((br _ _).drew)
theorem zN.drew(h:zN w a n aI cT dd bv aT wr):zN w a n aI cT dd bv aT wr.drew:=h.K ((br _ _).drew)
theorem mZ.next(h:mZ w a n aI wr)(f:el w' (w.heap.size+2) a n)(b:fb (w.heap.size+2) wr w'):mZ w a n aI w':=by
 obtain⟨c,g,e,_⟩:=f;have A:β w w':=⟨b.os.trans h.b.os,b.tape.trans h.b.tape,b.output.trans h.b.output,cO h.b.size b.size,fun k d=>(b.block k (cS h.b d) z).trans (h.b.block k d)⟩;exact⟨A,(b.block _ (bF h.g) z).trans h.g,(b.block _ (bF h.o) z).trans h.o,c,g,e⟩
theorem n9.next(h:n9 w a n aI cT dd wr)(d:el w' (w.heap.size+2) a n)(b:fb (w.heap.size+2) wr w'):n9 w a n aI cT dd w':=⟨h.x.next d b,(b.block _ (bF h.i) (by have:=h.hi;omega)).trans h.i,h.hi⟩
theorem zN.next(h:zN w a n aI cT dd bv aT wr)(d:el w' (w.heap.size+2) a n)(b:fb (w.heap.size+2) wr w'):zN w a n aI cT dd bv aT w':=⟨h.y.next d b,(b.block _ (bF h.v) (by have:=h.J;omega)).trans h.v,h.J⟩
theorem mZ.set(h:mZ w a n aI wr){r:Nat}(d:w.heap.size+3<=r)(i:Nat)(u:Value):mZ w a n aI (wr.setCell ⟨r,i,none⟩ u):=
 h.hN (h.b.setCell (p:=⟨r,i,none⟩) (by show w.heap.size<=r;omega) u) fun k b _=>g_ _ _ _ _ (by show k≠r;omega)
theorem n9.set(h:n9 w a n aI cT dd wr)(i:Nat)(u:Value):n9 w a n aI cT (dd.setIfInBounds i u) (wr.setCell ⟨cT,i,none⟩ u):=⟨h.x.set h.hi i u,hT h.i u,h.hi⟩
end
theorem aDo(m:Nat)(b:m<5)(W:World):∃t:Int,(W.alloc (.cells #[.int .i64 1,.int .i64 1,.int .i64 3,.int .i64 2,.int .i64 4] 3)).cell? ⟨W,m,none⟩=some (.int .i64 t)/\(t=1∨t=2∨t=3∨t=4):=by
 have h:=cW W (.cells #[.int .i64 1,.int .i64 1,.int .i64 3,.int .i64 2,.int .i64 4] 3);rcases(z:m=0∨m=1∨m=2∨m=3∨m=4)with rfl|rfl|rfl|rfl|rfl
 all_goals exact⟨_,by simp only[World.cell?,h];rfl,ak⟩
structure cf where
 id:Int
 c_:Int
 gq:Int
 dj:Int
 kd:Int
 hh:List bC
 out:bC
 fm:ByteArray
 e5:ByteArray
 prog:List Int
def iP(B:Nat->Prop)(w:World)(F:Array Value)(x:cf):Prop:=∃b e k s N S n ca cc ra rc aG d,F=gY x.id x.c_ x.gq x.dj x.kd b x.hh.length e k s N S n ca cc ra rc x.fm x.e5 aG x.prog.length d/\x.out=.mk k s N S n [] []/\cz B (aU B 1) w b x.hh/\qj B w aG x.prog
def Bu(x:cf):Prop:=(1<=x.c_/\x.c_<=3)/\0<=x.dj/\x.dj<=8
def MT(base:Nat)(e:Ending)(w':World):Prop:=∃F x,e=.returned (.agg F)/\Bu x/\iP (fa base) w' F x
end Go.bS
namespace Go.bS
open Go Go.Proofs Go.RowKit Go.da Go.bh
open Go.bh.N (lM)
open Go.aJ (el kR fb pZ hn)
variable{B:Nat->Prop}
theorem M6{r:Nat}(c:¬B r)(l:List Value)(i:Nat)(W:World):eQ B W (W.setCells r i l):=⟨(Hz (B:=0) (dx _) l i W (br 0 W)).size,fun b A _=>aqp (fun e=>c (by rw[←e];exact A)) l i W⟩
theorem aFs(W:World)(e b c d f:Int):kR (W.alloc (.cells #[e,b,c,d,f] 3)) (some ⟨W,0,none⟩) 5:=.inr ⟨_,0,rfl,fun i hi=>by
 have h:=cW W (.cells #[e,b,c,d,f] 3)
 rcases(z:i=0∨i=1∨i=2∨i=3∨i=4)with rfl|rfl|rfl|rfl|rfl
 all_goals exact⟨_,by simp only[World.cell?,h];rfl⟩⟩
def aas(n:Nat):Code->Bool
 |.region k _ _=>k==n
 |.seq a _=>aas n a
 |_=>false
def Vn(n:Nat):Code->Code
 |.seq a b=>if aas n a=true then .seq a b else Vn n b
 |c=>c
def axB:Code->Code
 |.seq (.seq _ c) _=>c
 |c=>c
def WL(cV h4:Nat):Nat->Prop:=fun b=>cV<=b/\b<h4
abbrev rL(cV h4:Nat)(w:World)(ra:Option Addr)(R:List bC):Prop:=cz (WL cV h4) (aU (WL cV h4) 1) w ra R
variable{cV h4:Nat}{w w':World}{ra:Option Addr}
theorem rL.Jn{R:List bC}(h:rL cV h4 w ra R)(b:eQ (WL cV h4) w w'):rL cV h4 w' ra R:=cz.ex (aU.mono _ 1) h b
theorem rL.M_{R:List bC}(h:rL cV h4 w ra R)(b:β w w'):rL cV h4 w' ra R:=cz.K (aU.mono _ 1) h b
theorem rL.all{R:List bC}(h:rL cV h4 w ra R):cz aV (aU aV 1) w ra R:=cz.low (fun _ _=>g') (fun _ _ _ h=>aU.low (fun _ _=>g') h) h
variable{n:Nat}
theorem rL.from{R:List bC}(h:rL cV h4 w ra R)(b:n<=cV):cz (fa n) (aU (fa n) 1) w ra R:=cz.low (fun _ A=>cO b A.1) (fun _ _ _ h=>aU.low (fun _ A=>cO b A.1) h) h
theorem aIk{W:World}{a:Option Addr}{cT:Nat}{aI dd:Array Value}{R:List bC}(_:β W w')(c:cz (fa W) (aU (fa W) 1) w' ra R)(h:n9 w a n aI cT dd W):∃cV,rL cV w' w' ra R/\cT<cV/\w.heap.size+2<cV:=⟨W.heap.size,cz.lt (fun _ _ b=>b.lt) c,bF h.i,bF h.x.m.choose_spec.choose_spec⟩
structure lR (w:World) (a:Option Addr) (n:Nat) (aI:Array Value) (cT:Nat) (dd:Array Value) (cV h4:Nat) (ra:Option Addr) (R:List bC) (bv:Nat) (aT:Array Value) (Bh:World):Prop where
 y:zN w a n aI cT dd bv aT Bh
 s:rL cV h4 Bh ra R
 ai:h4<=bv
 A:cT<cV/\w.heap.size+2<cV/\cT<h4
section
variable {w wr w':World} {a:Option Addr} {n cT cV h4 bv:Nat} {aI dd aT:Array Value} {ra:Option Addr} {R:List bC}
theorem lR.Er(h:n9 w a n aI cT dd wr)(b:rL cV h4 wr ra R)(ai:h4<=wr.heap.size)(A:cT<cV/\w.heap.size+2<cV/\cT<h4)(aT:Array Value):lR w a n aI cT dd cV h4 ra R wr aT (wr.alloc (.cells aT 42)):=
 ⟨⟨h.alloc _,cW _ _,cO h.hi (Br (bF h.i))⟩,b.M_ ((br _ _).alloc (aZ _) _),ai,A⟩
theorem lR.put{k N S g:Int}{s:ByteArray}{ca i:Option Addr}{cl cc rl rc:Nat}(h:lR w a n aI cT dd cV h4 ra R bv (bM k s N S g ca cl cc i rl rc) wr)(u0 u1 u2 u3 u4 u5 u6:Value):lR w a n aI cT dd cV h4 ra R bv #[u0,u1,u2,u3,u4,u5,u6] (A1 wr bv u0 u1 u2 u3 u4 u5 u6):=by
 have J:=h.y.J;have ai:=h.ai;have A:=h.A;have c:=K6 (B:=fun b=>b≠bv) (w:=wr) (eQ.refl _ wr) (r:=bv) (fun e=>e rfl) u0 u1 u2 u3 u4 u5 u6;refine⟨⟨⟨h.y.y.x.hN (iJ h.y.y.x.b z _ _ _ _ _ _ _) fun k j d=>c.2 k (by show k≠bv;omega) d,(c.2 cT (by show cT≠bv;omega) (bF h.y.y.i)).trans h.y.y.i,h.y.y.hi⟩,EE h.y.v _ _ _ _ _ _ _,J⟩,h.s.Jn ⟨c.1,fun b f au=>c.2 b (by show b≠bv;have:=f.2;omega) au⟩,ai,A⟩
theorem lR.K(h:lR w a n aI cT dd cV h4 ra R bv aT wr)(A:β wr w'):lR w a n aI cT dd cV h4 ra R bv aT w':=⟨h.y.K A,h.s.M_ A,h.ai,h.A⟩
theorem lR.next(h:lR w a n aI cT dd cV h4 ra R bv aT wr)(d:el w' (w.heap.size+2) a n)(c:fb (w.heap.size+2) wr w'):lR w a n aI cT dd cV h4 ra R bv aT w':=
 ⟨h.y.next d c,h.s.Jn ⟨c.size,fun b A au=>c.block b au (by have:=A.1;have:=h.A.2.1;omega)⟩,h.ai,h.A⟩
theorem lR.drew(h:lR w a n aI cT dd cV h4 ra R bv aT wr):lR w a n aI cT dd cV h4 ra R bv aT wr.drew:=h.K ((br _ _).drew)
theorem lR.set(h:lR w a n aI cT dd cV h4 ra R bv aT wr)(i:Nat)(u:Value):lR w a n aI cT (dd.setIfInBounds i u) cV h4 ra R bv aT (wr.setCell ⟨cT,i,none⟩ u):=by
 have J:=h.y.J;have ai:=h.ai;have A:=h.A;exact⟨⟨h.y.y.set i u,(g_ _ _ _ _ (by show bv≠cT;omega)).trans h.y.v,J⟩,h.s.Jn ((eQ.refl _ wr).set (fun b=>by have:=b.1;omega) i u),ai,A⟩
end
variable{b:Nat}
theorem vi{c i j:Nat}{u:Value}(h:c≠b):(w.setCell ⟨c,j,none⟩ u).cell? ⟨b,i,none⟩=w.cell? ⟨b,i,none⟩:=uG _ _ _ _ h
variable{aG:Option Addr}{p:List Int}
theorem ant(h:lu w aG p)(e:fb b w w')(A:∀x,aG=some x->b<x.block):lu w' aG p:=fun ae=>by
 obtain⟨c,o,rfl,d,f⟩:=h ae
 have:=A _ rfl
 exact⟨c,o,rfl,iK d e.size,fun i hi=>by rw[nt (e.block c d (by show c≠b;simp at this;omega))];exact f i hi⟩
theorem aDV(h:lu w aG p)(A:∀x,aG=some x->b<x.block)(i:Nat)(u:Value):lu (w.setCell ⟨b,i,none⟩ u) aG p:=fun ae=>by
 obtain⟨c,o,rfl,e,d⟩:=h ae
 have:=A _ rfl
 exact⟨c,o,rfl,by simpa using e,fun i hi=>(vi (by simp at this;omega)).trans (d i hi)⟩
theorem aCX(h:lu w aG p)(f:∀x,aG=some x->B x.block)(b:p.length<=40):qj B w aG p:=⟨b,fun ae=>by
 obtain⟨c,o,rfl,e,d⟩:=h ae
 exact⟨c,o,rfl,f _ rfl,e,d⟩⟩
end Go.bS
namespace Go.bS
open Go Go.Proofs.Tryz Go.Proofs Go.RowKit Go.da Go.bh
open Go.bh.N (lM)
open Go.aJ (el kR fb pZ hn)
theorem aJ1{S:cU}{M:Nat->Nat}{rs:List bA}{ca K:Option Addr}{cc I rb aE rc:Nat}{w:World}(h:Bz S M rs ca K cc I rb aE rc w)(id:Int)(a:Option Addr)(n:Nat)(aa:kR w a n)(aA:∀q,a=some q->0<n->q.block<w.heap.size)(ap:n<=maxLen) {wc:World}{g T Z L:Nat}{ra:Option Addr}{A:Nat}{R:List bC}{c_ y u kd:Int}{k:Int}{s:ByteArray}{N D m:Int}{va:Option Addr}{l:Nat}{o:Option Addr}{B:Nat}(xc:lR w a n (eg S rs ca K cc I rb aE rc) g (gY id c_ y u kd ra R A 0 bO 0 0 0 none 0 none 0 bO bO none 0 0) T Z ra R L (bM k s N D m va 0 l o 0 B) wc)(mj:qX (.mk k s N D m [] []))(O:k=1∨k=2∨k=3)(GL:1<=c_/\c_<=3)(re:0<=u/\u<=8) (t0 dI cG t4 t5 t9 uv vX vY uw vZ v_ y1 v' ux uy uz t22 t23 uA t25 uB uC uD uE wa wb t32 wd we t35 t36 wg wh wi wj t41 wk wl t44 wm t46 wn wo wq ws wt wu t53 wv ww wx t57 wy wz wA wB wC t63 t64 wD wE wF wG wH y2 y3 y4 y5 y6 y7 y8 y9 y_ y' za zb zc zd ze zf zg zh zi zj zk zl zm:Value):Code.wp prog (Vn 12 (f46.body.getD .ret)) (bodyPost prog f46 fun e w'=>MT w e w'/\β w w') ⟨#[t0,dI,cG,.pointer (some ⟨w,0,none⟩),t4,t5,.pointer (some ⟨w.heap.size+1,0,none⟩),.pointer (some ⟨w.heap.size+1+1,0,none⟩),.pointer (some ⟨g,0,none⟩),t9,.pointer (some ⟨L,0,none⟩),uv,vX,vY,uw,vZ,v_,y1,v',ux,uy,uz,t22,t23,uA,t25,uB,uC,uD,uE,wa,wb,t32,wd,we,t35,t36,wg,wh,wi,wj,t41,wk,wl,t44,wm,t46,wn,wo,wq,ws,wt,wu,t53,wv,ww,wx,t57,wy,wz,wA,wB,wC,t63,t64,wD,wE,wF,wG,wH,y2,y3,y4,y5,y6,y7,y8,y9,y_,y',za,zb,zc,zd,ze,zf,zg,zh,zi,zj,zk,zl,zm],[]⟩ wc:=by
 have RD:=G fun(W:World) (k:Int) (s:ByteArray) (N D n:Int) (va:Option Addr) (l:Nat) (o:Option Addr) (wc:Nat) (J:qX (.mk k s N D n [] []))=>aeb J W (bM k s N D n va 0 l o 0 wc) (aU.iW aV 1 W _ _ _ _ _ _ _ _ _);have GN:Hid (∀x,ca=some x->x.block≠w.heap.size+2):=G fun x V=>by exact anM
 have ab:=G fun W (ar:β w W) (Q:el W (w.heap.size+2) a n)=>fun id c_ gq dj kd h3 nS ij en bP km m3 hk jj jk i0 js fm e5 dD rp ep k s N D m va xM l o uF wc O=>apM (h.K ar).oe (w.heap.size+2) a n ap Q GN.out id c_ gq dj kd h3 nS ij en bP km m3 hk jj jk i0 js fm e5 dD rp ep k s N D m va xM l o uF wc O;have eR:=G aa;have oB:=G aA;clear h aa aA;have j:=G xc;obtain⟨jm,jZ,Ke⟩:=xc.A;have rF:=G mj;have gz:=G O;clear xc mj O;obtain⟨yi,C⟩:∃yi,yi=(bodyPost prog f46 fun e w'=>MT w e w'/\β w w'):=⟨_,rfl⟩;rw[←C];have lP:=G C;clear C;show Code.wp prog (Code.seq _ _) _ _ _;have mn:wc.cell? ⟨g,4,none⟩=some (.int .i64 kd):=aK 4 j.out.y.y.i;have P:=bF j.out.y.y.i;by_cases Q:kd=3
 ·subst Q;have s7:wc.cell? ⟨g,13,none⟩=some (.string bO):=aK 13 j.out.y.y.i;have f13:=Go.aJ.cJ (i:=13) j.out.y.y.i;go_upto_region 16 with fail
  have d:Hid (lR w a n (eg S rs ca K cc I rb aE rc) g (gY id c_ y u 3 ra R A 0 bO 0 0 0 none 0 none 0 ⟨#[105,115]⟩ bO none 0 0) T Z ra R L (bM k s N D m va 0 l o 0 B) (wc.setCell ⟨g,13,none⟩ (.string ⟨#[105,115]⟩))):=G (j.out.set 13 _);clear j mn s7 f13 P;generalize (wc.setCell ⟨g,13,none⟩ (.string ⟨#[105,115]⟩))=dc at*;obtain⟨v0,U,X,v3,v4,v5,Y⟩:=eX d.out.y.v;go_upto_region 17 with(go_at_call 119;(with_reducible refine(RD.out _ k s N D m va l o B rF.out).mono ?_);rintro e gG ⟨⟨yY,rfl,ad⟩,m9⟩;have H:=G (d.out.K m9);clear m9;have xs:gG.cell? ⟨g,14,none⟩=some (.string bO):=aK 14 H.out.y.y.i;have f14:=Go.aJ.cJ (i:=14) H.out.y.y.i;have P:=bF H.out.y.y.i)
  have F:Hid (lR w a n (eg S rs ca K cc I rb aE rc) g (gY id c_ y u 3 ra R A 0 bO 0 0 0 none 0 none 0 ⟨#[105,115]⟩ yY none 0 0) T Z ra R L (bM k s N D m va 0 l o 0 B) (gG.setCell ⟨g,14,none⟩ (.string yY))):=G (H.out.set 14 _);clear d H xs f14 P v0 U X v3 v4 v5 Y;generalize (gG.setCell ⟨g,14,none⟩ (.string yY))=xN at*;obtain⟨v0,U,X,v3,v4,v5,Y⟩:=eX F.out.y.v;obtain⟨cQ,aX,ba,bx,dt,dS⟩:=f_ F.out.y.y.x.g;obtain⟨ei,hA,gU,kf,mn,rf,pU,pV,vK,vL,vI,vJ,xr,s7,xs,uf⟩:=sD F.out.y.y.i
  go_wp2_with (go_at_call 120;(with_reducible refine(ab.out _ F.out.y.y.x.b (F.out.y.y.x.num eR.out oB.out) id c_ y u 3 ra R A 0 bO 0 0 0 none 0 none 0 ⟨#[105,115]⟩ yY none 0 0 k s N D m va 0 l o 0 B gz.out).mono ?_);rintro e E ⟨⟨fm,e5,rfl⟩,_,b5,bV⟩;have f:=G (F.out.next b5 bV);clear b5 bV;have g3:=aK 0 f.out.y.y.x.o;have z0:=Go.aJ.cJ (i:=0) f.out.y.y.x.o;have di:=aK 1 f.out.y.y.x.o;have cy:=Go.aJ.cJ (i:=1) f.out.y.y.x.o;have dL:=aK 2 f.out.y.y.x.o;have dz:=Go.aJ.cJ (i:=2) f.out.y.y.x.o;have fN:=aK 3 f.out.y.y.x.o;have z3:=Go.aJ.cJ (i:=3) f.out.y.y.x.o;have gt:=aK 4 f.out.y.y.x.o;have z4:=Go.aJ.cJ (i:=4) f.out.y.y.x.o;have g4:=aK 5 f.out.y.y.x.o;have z5:=Go.aJ.cJ (i:=5) f.out.y.y.x.o;have g9:=aK 6 f.out.y.y.x.o;have eO:=Go.aJ.cJ (i:=6) f.out.y.y.x.o;have P2:=aK 7 f.out.y.y.x.o;have CR:=Go.aJ.cJ (i:=7) f.out.y.y.x.o;have P3:=aK 8 f.out.y.y.x.o;have ry:=Go.aJ.cJ (i:=8) f.out.y.y.x.o;have P4:=aK 9 f.out.y.y.x.o;have z9:=Go.aJ.cJ (i:=9) f.out.y.y.x.o;have PW:=aK 10 f.out.y.y.x.o;have QX:=Go.aJ.cJ (i:=10) f.out.y.y.x.o;have PX:=aK 11 f.out.y.y.x.o;have QY:=Go.aJ.cJ (i:=11) f.out.y.y.x.o;have PY:=aK 12 f.out.y.y.x.o;have Ij:=Go.aJ.cJ (i:=12) f.out.y.y.x.o;have PZ:=aK 13 f.out.y.y.x.o;have Ik:=Go.aJ.cJ (i:=13) f.out.y.y.x.o;have P0:=aK 14 f.out.y.y.x.o;have QZ:=Go.aJ.cJ (i:=14) f.out.y.y.x.o;have P1:=aK 15 f.out.y.y.x.o;have Il:=Go.aJ.cJ (i:=15) f.out.y.y.x.o;have kb:w.heap.size+1<E.heap.size:=bF f.out.y.y.x.o;have cK:=G (Qd f.out.y.y.x.o [id,c_,y,u,.int .i64 3,.slice ra R A,.int .i64 0,bO,.int .i64 0,.int .i64 0,.int .i64 0,.slice none 0 0,.slice none 0 0,fm,e5,.slice none 0 0] rfl);have b_:=G (Hz (qQ w) [id,c_,y,u,.int .i64 3,.slice ra R A,.int .i64 0,bO,.int .i64 0,.int .i64 0,.int .i64 0,.slice none 0 0,.slice none 0 0,fm,e5,.slice none 0 0] 0 E f.out.y.y.x.b);have C:=G (f.out.s.Jn (M6 (r:=w.heap.size+1) (fun V=>by have:=V.1;omega) [id,c_,y,u,.int .i64 3,.slice ra R A,.int .i64 0,bO,.int .i64 0,.int .i64 0,.int .i64 0,.slice none 0 0,.slice none 0 0,fm,e5,.slice none 0 0] 0 E)));rw[lP.out];refine jT (CA (fn:=f46) rfl _ _ (w.heap.size+1) 44 _ (0,0) _ rfl cK.out LG rfl Li) rfl ?_;exact⟨⟨_,⟨id,c_,y,u,3,R,gM 0,fm,e5,[]⟩,rfl,⟨GL,re⟩,ra,A,0,bO,0,0,0,none,0,none,0,none,0,rfl,rfl,(rL.from C.out z),⟨ao,fun h=>absurd h ao⟩⟩,b_.out⟩
 ·have ej:(kd==3)=false:=by rw[lp];exact Q
  obtain⟨v0,U,X,v3,v4,v5,Y⟩:=eX j.out.y.v;have pU:wc.cell? ⟨g,6,none⟩=some (.int .i64 0):=aK 6 j.out.y.y.i;have B5:=Go.aJ.cJ (i:=6) j.out.y.y.i;have pV:wc.cell? ⟨g,7,none⟩=some (.string bO):=aK 7 j.out.y.y.i;have f7:=Go.aJ.cJ (i:=7) j.out.y.y.i;have vK:wc.cell? ⟨g,8,none⟩=some (.int .i64 0):=aK 8 j.out.y.y.i;have f8:=Go.aJ.cJ (i:=8) j.out.y.y.i;have vL:wc.cell? ⟨g,9,none⟩=some (.int .i64 0):=aK 9 j.out.y.y.i;have Gs:=Go.aJ.cJ (i:=9) j.out.y.y.i;have vI:wc.cell? ⟨g,10,none⟩=some (.int .i64 0):=aK 10 j.out.y.y.i;have f10:=Go.aJ.cJ (i:=10) j.out.y.y.i;have vJ:wc.cell? ⟨g,11,none⟩=some (.slice none 0 0):=aK 11 j.out.y.y.i;have f11:=Go.aJ.cJ (i:=11) j.out.y.y.i;have xr:wc.cell? ⟨g,12,none⟩=some (.slice none 0 0):=aK 12 j.out.y.y.i;have f12:=Go.aJ.cJ (i:=12) j.out.y.y.i;go_upto_region 14 with fail
  have d:Hid (lR w a n (eg S rs ca K cc I rb aE rc) g (gY id c_ y u kd ra R A k s N D m va l o B bO bO none 0 0) T Z ra R L (bM k s N D m va 0 l o 0 B) (((((((wc.setCell ⟨g,6,none⟩ k).setCell ⟨g,7,none⟩ (.string s)).setCell ⟨g,8,none⟩ N).setCell ⟨g,9,none⟩ D).setCell ⟨g,10,none⟩ m).setCell ⟨g,11,none⟩ (.slice va 0 l)).setCell ⟨g,12,none⟩ (.slice o 0 B))):=G (((((((j.out.set 6 _).set 7 _).set 8 _).set 9 _).set 10 _).set 11 _).set 12 _);clear j mn P v0 U X v3 v4 v5 Y pU B5 pV f7 vK f8 vL Gs vI f10 vJ f11 xr f12;generalize (((((((wc.setCell ⟨g,6,none⟩ k).setCell ⟨g,7,none⟩ (.string s)).setCell ⟨g,8,none⟩ N).setCell ⟨g,9,none⟩ D).setCell ⟨g,10,none⟩ m).setCell ⟨g,11,none⟩ (.slice va 0 l)).setCell ⟨g,12,none⟩ (.slice o 0 B))=E at*;obtain⟨ei,hA,gU,kf,mn,rf,pU,pV,vK,vL,vI,vJ,xr,s7,xs,uf⟩:=sD d.out.y.y.i;have g3:=aK 0 d.out.y.y.x.o;have z0:=Go.aJ.cJ (i:=0) d.out.y.y.x.o;have di:=aK 1 d.out.y.y.x.o;have cy:=Go.aJ.cJ (i:=1) d.out.y.y.x.o;have dL:=aK 2 d.out.y.y.x.o;have dz:=Go.aJ.cJ (i:=2) d.out.y.y.x.o;have fN:=aK 3 d.out.y.y.x.o;have z3:=Go.aJ.cJ (i:=3) d.out.y.y.x.o;have gt:=aK 4 d.out.y.y.x.o;have z4:=Go.aJ.cJ (i:=4) d.out.y.y.x.o;have g4:=aK 5 d.out.y.y.x.o;have z5:=Go.aJ.cJ (i:=5) d.out.y.y.x.o;have g9:=aK 6 d.out.y.y.x.o;have eO:=Go.aJ.cJ (i:=6) d.out.y.y.x.o;have P2:=aK 7 d.out.y.y.x.o;have CR:=Go.aJ.cJ (i:=7) d.out.y.y.x.o;have P3:=aK 8 d.out.y.y.x.o;have ry:=Go.aJ.cJ (i:=8) d.out.y.y.x.o;have P4:=aK 9 d.out.y.y.x.o;have z9:=Go.aJ.cJ (i:=9) d.out.y.y.x.o;have PW:=aK 10 d.out.y.y.x.o;have QX:=Go.aJ.cJ (i:=10) d.out.y.y.x.o;have PX:=aK 11 d.out.y.y.x.o;have QY:=Go.aJ.cJ (i:=11) d.out.y.y.x.o;have PY:=aK 12 d.out.y.y.x.o;have Ij:=Go.aJ.cJ (i:=12) d.out.y.y.x.o;have PZ:=aK 13 d.out.y.y.x.o;have Ik:=Go.aJ.cJ (i:=13) d.out.y.y.x.o;have P0:=aK 14 d.out.y.y.x.o;have QZ:=Go.aJ.cJ (i:=14) d.out.y.y.x.o;have P1:=aK 15 d.out.y.y.x.o;have Il:=Go.aJ.cJ (i:=15) d.out.y.y.x.o;have kb:w.heap.size+1<E.heap.size:=bF d.out.y.y.x.o;have cK:=G (Qd d.out.y.y.x.o [id,c_,y,u,kd,.slice ra R A,k,s,N,D,m,.slice va 0 l,.slice o 0 B,bO,bO,.slice none 0 0] rfl);have b_:=G (Hz (qQ w) [id,c_,y,u,kd,.slice ra R A,k,s,N,D,m,.slice va 0 l,.slice o 0 B,bO,bO,.slice none 0 0] 0 E d.out.y.y.x.b);have C:=G (d.out.s.Jn (M6 (r:=w.heap.size+1) (fun V=>by have:=V.1;omega) [id,c_,y,u,kd,.slice ra R A,k,s,N,D,m,.slice va 0 l,.slice o 0 B,bO,bO,.slice none 0 0] 0 E))
  go_wp2;rw[lP.out];refine jT (CA (fn:=f46) rfl _ _ (w.heap.size+1) 44 _ (0,0) _ rfl cK.out LG rfl Li) rfl ?_;exact⟨⟨_,⟨id,c_,y,u,kd,R,.mk k s N D m [] [],bO,bO,[]⟩,rfl,⟨GL,re⟩,ra,A,k,s,N,D,m,va,l,o,B,none,0,rfl,rfl,(rL.from C.out z),⟨ao,fun h=>absurd h ao⟩⟩,b_.out⟩
theorem aGz{S:cU}{M:Nat->Nat}{rs:List bA}{ca E:Option Addr}{cc D rb aE rc:Nat}{w:World}(h:Bz S M rs ca E cc D rb aE rc w)(id:Int)(a:Option Addr)(n:Nat)(aa:kR w a n)(aA:∀q,a=some q->0<n->q.block<w.heap.size)(ap:n<=maxLen) {y:World}{d:Nat}{c_ l j:Int}{aG:Option Addr}{f ab:Nat}{p:List Int}(ad:n9 w a n (eg S rs ca E cc D rb aE rc) d (gY id c_ l j 4 none 0 0 0 bO 0 0 0 none 0 none 0 bO bO none 0 0) y)(hE:lu y aG p)(h0:pF rs M S.al ab p)(Ea:p.length<=f)(aj:f<=9223372036854775807)(vC:∀x,aG=some x->d<x.block)(OY:w.heap.size+3<=d)(GL:1<=c_/\c_<=3)(re:0<=j/\j<=8) (bE:Act->World->Prop)(t0 dI cG t4 t5 Bb uv vX vY uw vZ v_ y1 v' ux uy uz t22 t23 uA t25 uB uC uD uE wa wb t32 wd we t36 wg wh wi wj t41 wk wl t44 wm t46 wn wo wq ws wt wu t53 wv ww wx t57 wy wz wA wB wC t63 t64 wD wE wF wG wH y2 y3 y4 y5 y6 y7 y8 y9 y_ y' za zb zc zd ze zf zg zh zi zj zk zl zm:Value):Code.wp prog (axB (Vn 4 (f46.body.getD .ret))) (Exit.then bE (bodyPost prog f46 fun e w'=>MT w e w'/\β w w')) ⟨#[t0,dI,cG,.pointer (some ⟨w,0,none⟩),t4,t5,.pointer (some ⟨w.heap.size+1,0,none⟩),.pointer (some ⟨w.heap.size+1+1,0,none⟩),.pointer (some ⟨d,0,none⟩),.slice aG p f,Bb,uv,vX,vY,uw,vZ,v_,y1,v',ux,uy,uz,t22,t23,uA,t25,uB,uC,uD,uE,wa,wb,t32,wd,we,.bool true,t36,wg,wh,wi,wj,t41,wk,wl,t44,wm,t46,wn,wo,wq,ws,wt,wu,t53,wv,ww,wx,t57,wy,wz,wA,wB,wC,t63,t64,wD,wE,wF,wG,wH,y2,y3,y4,y5,y6,y7,y8,y9,y_,y',za,zb,zc,zd,ze,zf,zg,zh,zi,zj,zk,zl,zm],[]⟩ y:=by
 have By:=G fun(m:Int) (H:0<m) (I:m<=2000000000000001) W (ah:el W (w.heap.size+2) a n)=>pZ W (w.heap.size+2) a n m H I ap ah;have RC:=G fun W (ar:β w W) (aG:Option Addr) (f k:Nat) (p:List Int) (ag:lu W aG p) (e1:pF rs M S.al k p) (ae:p.length<=f) (hd:f<=9223372036854775807) x=>apJ (h.K ar).oe aG f k p ag e1 ae hd x;have eR:=G aa;have oB:=G aA;have I1:=G h;have s:=G ad;have Z:=G hE;have L:=G h0;have uR:=G vC;have Kb:d<y.heap.size:=bF s.out.i;have uf:y.cell? ⟨d,15,none⟩=some (.slice none 0 0):=aK 15 s.out.i;obtain⟨v0,dW,ek,v3,v4,v5⟩:=f_ s.out.x.g;clear h aa aA ad hE h0 vC;obtain⟨yi,B⟩:∃yi,yi=(bodyPost prog f46 fun e w'=>MT w e w'/\β w w'):=⟨_,rfl⟩;rw[←B];have am:=G B;clear B;show Code.wp prog (Code.cond _ _ _) _ _ _;go_upto_region 5 with fail
 go_region_held3 (fun X=>X.cell? ⟨w,0,none⟩=some (.string S.nm)/\X.cell? ⟨w,1,none⟩=some (.int .i64 S.db)/\X.cell? ⟨w,2,none⟩=some (.slice ca S.bw cc)/\X.cell? ⟨w,3,none⟩=some (.slice E S.aD D)/\X.cell? ⟨w,4,none⟩=some (.slice (some ⟨rb,aE,none⟩) rs rc)/\X.cell? ⟨w,5,none⟩=some (.int .i64 S.al)) (first|with_reducible exact⟨v0,dW,ek,v3,v4,v5⟩|with_reducible exact⟨u0,u1,u2,u3,u4,u5⟩|with_reducible exact⟨T,O,Q,R,V,U⟩|exact⟨(vi z).trans T,(vi z).trans O,(vi z).trans Q,(vi z).trans R,(vi z).trans V,(vi z).trans U⟩|go_keep) (first
  |(have _:=u0;go_at_call 114;(with_reducible refine(RC.out _ C.out.x.b aG f ab p FO.out L.out Ea aj _).mono ?_);rintro e u ⟨⟨b4,dN,gp,l1,T',l0,va,g,rfl,c0,jJ⟩,Y⟩;have o:=G (C.out.K Y);have lP:=G c0;have cm:=G jJ;have Ua:Hid ((p.take b4++ -1::p.drop (b4+gp)).length<=40):=G (by rw[ia,l7,nu,qN];have:=FN.out;omega);have m9:d<F.heap.size:=bF C.out.i;clear c0 jJ Y T' l0 l1;generalize (p.take b4++ -1::p.drop (b4+gp))=q at*;obtain⟨T,O,Q,R,V,U⟩:=f_ o.out.x.g;have Y:d<u.heap.size:=bF o.out.i;have ai:u.cell? ⟨d,15,none⟩=some (.slice none 0 0):=aK 15 o.out.i;have f15:=Go.aJ.cJ (i:=15) o.out.i)
  |(go_at_call 15;(with_reducible refine(By.out 20 ak ak _ (s.out.drew.x.num eR.out oB.out)).mono ?_);rintro e F ⟨⟨uq,an,yJ,rfl⟩,b5,P⟩;have C:=G (s.out.drew.next b5 P);have FN:Hid (p.length<=5):=G (by rw[L.out.len];exact cO L.out.le (I1.out.oe.yS _).2);have FO:=G (ant (Z.out.K ((br _ _).drew)) P (fun x N=>by have:=uR.out x N;omega));clear b5 P;obtain⟨u0,u1,u2,u3,u4,u5⟩:=f_ C.out.x.g))
 have c:Hid (n9 w a n (eg S rs ca E cc D rb aE rc) d (gY id c_ l j 4 none 0 0 0 bO 0 0 0 none 0 none 0 bO bO va q g) (u.setCell ⟨d,15,none⟩ (.slice va q g))):=G (o.out.set 15 _);have af:=C.out.x.b.size;have al:Hid (qj (fa F) (u.setCell ⟨d,15,none⟩ (.slice va q g)) va q):=G ((aCX lP.out (fun x N=>cm.out x N) Ua.out).ex ((eQ.refl _ u).set (by show ¬(F.heap.size<=d);omega) 15 _));clear T O Q R V U u0 u1 u2 u3 u4 u5 v0 dW ek v3 v4 v5 uf ai f15 o lP cm Ua Z L uR FO FN s;generalize (u.setCell ⟨d,15,none⟩ (.slice va q g))=K at*;obtain⟨ei,hA,gU,kf,mn,rf,pU,pV,vK,vL,vI,vJ,xr,s7,xs,uf⟩:=sD c.out.i;have g3:=aK 0 c.out.x.o;have z0:=Go.aJ.cJ (i:=0) c.out.x.o;have di:=aK 1 c.out.x.o;have cy:=Go.aJ.cJ (i:=1) c.out.x.o;have dL:=aK 2 c.out.x.o;have dz:=Go.aJ.cJ (i:=2) c.out.x.o;have fN:=aK 3 c.out.x.o;have z3:=Go.aJ.cJ (i:=3) c.out.x.o;have gt:=aK 4 c.out.x.o;have z4:=Go.aJ.cJ (i:=4) c.out.x.o;have g4:=aK 5 c.out.x.o;have z5:=Go.aJ.cJ (i:=5) c.out.x.o;have g9:=aK 6 c.out.x.o;have eO:=Go.aJ.cJ (i:=6) c.out.x.o;have P2:=aK 7 c.out.x.o;have CR:=Go.aJ.cJ (i:=7) c.out.x.o;have P3:=aK 8 c.out.x.o;have ry:=Go.aJ.cJ (i:=8) c.out.x.o;have P4:=aK 9 c.out.x.o;have z9:=Go.aJ.cJ (i:=9) c.out.x.o;have PW:=aK 10 c.out.x.o;have QX:=Go.aJ.cJ (i:=10) c.out.x.o;have PX:=aK 11 c.out.x.o;have QY:=Go.aJ.cJ (i:=11) c.out.x.o;have PY:=aK 12 c.out.x.o;have Ij:=Go.aJ.cJ (i:=12) c.out.x.o;have PZ:=aK 13 c.out.x.o;have Ik:=Go.aJ.cJ (i:=13) c.out.x.o;have P0:=aK 14 c.out.x.o;have QZ:=Go.aJ.cJ (i:=14) c.out.x.o;have P1:=aK 15 c.out.x.o;have Il:=Go.aJ.cJ (i:=15) c.out.x.o;have kb:w.heap.size+1<K.heap.size:=bF c.out.x.o;have nd:d<K.heap.size:=bF c.out.i;have cK:=G (Qd c.out.x.o [id,c_,l,j,.int .i64 4,.slice none 0 0,.int .i64 0,bO,.int .i64 0,.int .i64 0,.int .i64 0,.slice none 0 0,.slice none 0 0,bO,bO,.slice va q g] rfl);have b_:=G (Hz (qQ w) [id,c_,l,j,.int .i64 4,.slice none 0 0,.int .i64 0,bO,.int .i64 0,.int .i64 0,.int .i64 0,.slice none 0 0,.slice none 0 0,bO,bO,.slice va q g] 0 K c.out.x.b);have B:=G (al.out.ex (M6 (r:=w.heap.size+1) (by show ¬(F.heap.size<=w.heap.size+1);omega) [id,c_,l,j,.int .i64 4,.slice none 0 0,.int .i64 0,bO,.int .i64 0,.int .i64 0,.int .i64 0,.slice none 0 0,.slice none 0 0,bO,bO,.slice va q g] 0 K))
 go_wp2;rw[am.out];refine jT (CA (fn:=f46) rfl _ _ (w.heap.size+1) 44 _ (0,0) _ rfl cK.out LG rfl Li) rfl ?_;exact⟨⟨_,⟨id,c_,l,j,4,[],gM 0,bO,bO,q⟩,rfl,⟨GL,re⟩,none,0,0,bO,0,0,0,none,0,none,0,va,g,rfl,rfl,⟨ao,fun h=>absurd h ao⟩,B.out.low (fun b A=>cO af A)⟩,b_.out⟩
end Go.bS
