/- ItemInForce, one part of the proof. -/
import Derived.Test.YtdhifebhlocikaaGreatDoorP13
set_option linter.all false
set_option maxRecDepth 100000
set_option maxHeartbeats 16000000
namespace Go.bk
open Go Go.Proofs Go.RowKit Go.di
variable{Z:Nat->Nat}
def aG6{rs:List bD}{M need:Nat->Nat}(a:∀s,Z s<=M s+1)(n k:Nat):XF rs M (part rs Z need n k):=λs m p h=>by
 unfold part at h
 split at h
 .rename_i b
  have H:p∈gh rs Z need (n+1) s m:=by
   unfold gh
   rw[ci b]
   let⟨e,aP,h⟩:=Le.1 h
   exact Le.2 ⟨e,Lf aP,h⟩
  exact QC a (n+1) s m p H
 exact QC a n s m p h
structure lW (base:Nat) (w:Γ) (v:Φ) (k:Nat) (Z b8:Nat->Nat) (E:Nat->Nat->Φ) (b6:Nat->Nat->List (List Int)):Prop where
 row:w.ownsRow base 264 1 v k ((List.range k).map λs=>.slice (some ⟨b8 s,0,none⟩) (Z s) (Z s))
 ba:∀s,s<k->base<=b8 s/\∃arr,w.heap[b8 s]? =some (Obj.cells arr 23 (0,0))/\arr.size=Z s/\∀i,i<Z s->arr[i]? =some (E s i)
 FU:∀s i,s<k->i<Z s->∃bW,w.ownsRow base 22 1 (E s i) (b6 s i).length bW/\kO w bW (b6 s i)
 inj:∀s t,s<k->t<k->s≠t->b8 s≠b8 t
 FG:∀s i t j,s<k->i<Z s->t<k->j<Z t->¬(s=t/\i=j)->(E s i).ownBlock=none∨(E s i).ownBlock≠(E t j).ownBlock
variable{w:Γ}{v:Φ}{k:Nat}{E:Nat->Nat->Φ}
def lW.congr{base:Nat}{b8:Nat->Nat}{b a:Nat->Nat->List (List Int)}(h:lW base w v k Z b8 E b)(e:∀s i,b s i=a s i):lW base w v k Z b8 E a:=by have:b=a:=funext λs=>funext λi=>e s i;subst this;exact h
variable{w':Γ}{e:TypeId}{n:Nat}{aH:List Φ}
def U0{base:Nat}{size:Nat}(h:w.ownsRow base e size v n aH)(c:∀g a,v.ownBlock=some g->w.heap[g]? =some (Obj.cells a e (0,0))->w'.heap[g]? =some (Obj.cells a e (0,0))):w'.ownsRow base e size v n aH:=by
 let⟨f,b⟩:=h;refine⟨f,?_⟩;rcases b with b|⟨g,cap,a,ak,d,i,j⟩
 exact .inl b;exact .inr ⟨g,cap,a,ak,d,c g a (by rw[ak];rfl) i,j⟩
def lW.K{base:Nat}{b8:Nat->Nat}{b:Nat->Nat->List (List Int)}(h:lW base w v k Z b8 E b)(G:β w w'):lW base w' v k Z b8 E b:=by refine⟨Ab h.row G,λs a=>?_,λs i a hi=>?_,h.inj,h.FG⟩;let⟨H,arr,I,c⟩:=h.ba s a;exact⟨H,arr,by rw[G.block _ (de I)];exact I,c⟩;let⟨d,H,I⟩:=h.FU s i a hi;exact⟨d,Ab H G,I.K G⟩
variable{b i:Nat}{x:Φ}{cs:Ω}{t:TypeId}
def abF{fr:Nat×Nat}(G:w.heap[b]? =some (Obj.cells cs t fr))(aj:t≠e){g:Nat}{arr:Ω}{bd:Nat×Nat}(ar:w.heap[g]? =some (Obj.cells arr e bd)):(w.setCell ⟨b,i,none⟩ x).heap[g]? =some (Obj.cells arr e bd):=by
 have:g≠b:=λh=>by subst h;rw[G]at ar;cases ar;exact aj rfl
 rw[ht _ _ _ _ this];exact ar
def PN{base:Nat}{size:Nat}(h:w.ownsRow base e size v n aH){fr:Nat×Nat}(G:w.heap[b]? =some (Obj.cells cs t fr))(aj:t≠e):(w.setCell ⟨b,i,none⟩ x).ownsRow base e size v n aH:=
 U0 h λ_ _ _ ar=>abF G aj ar
def Uo{fr:Nat×Nat}(G:w.heap[b]? =some (Obj.cells cs t fr))(aj:t≠3):xW w (w.setCell ⟨b,i,none⟩ x):=λ_ _ _ ar=>abF G aj ar
def lW.set{base:Nat}{b8:Nat->Nat}{e:Nat->Nat->List (List Int)}(h:lW base w v k Z b8 E e){fr:Nat×Nat}(G:w.heap[b]? =some (Obj.cells cs t fr))(H:t≠3)(I:t≠22)(l:t≠23)(f:t≠264):lW base (w.setCell ⟨b,i,none⟩ x) v k Z b8 E e:=by refine⟨PN h.row G f,λs a=>?_,λs j a g=>?_,h.inj,h.FG⟩;let⟨c,arr,d,m⟩:=h.ba s a;exact⟨c,arr,abF G l d,m⟩;let⟨n,c,d⟩:=h.FU s j a g;exact⟨n,PN c G I,d.kept (Uo G H)⟩
def HH{a:Type}(E:Nat->Nat->a)(bY b:Nat)(x:a):Nat->Nat->a:=λs i=>if s=bY/\i=b then x else E s i
def HI{a:Type}(E:Nat->Nat->a)(bY b:Nat)(x:a):HH E bY b x bY b=x:=by simp[HH]
def EI{a:Type}(E:Nat->Nat->a)(bY b:Nat)(x:a){s:Nat}(h:¬(s=bY/\i=b)):HH E bY b x s i=E s i:=by simp only[HH,bo h]
variable{a:Nat}
def lW.grown{base:Nat}{r:Γ}{n:Φ}{b8:Nat->Nat}{f:Nat->Nat->List (List Int)}(h:lW base w v k Z b8 E f){bY:Nat}(I:bY<k)(T:a<Z bY){z zs:List Φ}{m:List (List Int)} (N:w.ownsRow base 22 1 (E bY a) (f bY a).length z)(ag:kO w z (f bY a))(P:kO w zs m)(R:r.ownsRow base 22 1 n ((f bY a).length+m.length) (z++zs))(ar:w.grownBy r (E bY a).ownBlock)(L:n.ownBlock=(E bY a).ownBlock∨n.ownBlock=some w): lW base (r.setCell ⟨b8 bY,a,none⟩ n) v k Z b8 (HH E bY a n) (HH f bY a (f bY a++m)):=by
 have hN:∀{b:Nat} {cs:Ω} {t:TypeId} {fr:Nat×Nat},w.heap[b]? =some (Obj.cells cs t fr)->t≠22->r.heap[b]? =some (Obj.cells cs t fr):=λG aj=>by rw[ar.block _ (de G) (BW N G aj)];exact G
 have F:xW w r:=GL N ar;let⟨X,O,M,W,U⟩:=h.ba bY I;have l:=hN M al;have au:∀s i,s<k->i<Z s->∀g,(E s i).ownBlock=some g->g<w.heap.size:=λs i c hi g d=>by(let⟨aH,H,_⟩:=h.FU s i c hi;rcases H.2 with⟨ak,_⟩|⟨V,cap,J,ak,B,Q,_⟩);rw[ak]at d;cases d;rw[ak]at d;cases d;exact de Q
 refine⟨PN (U0 h.row λg J _ d=>hN d al) l al,λs c=>?_,λs i c hi=>?_,h.inj,λs i t j c hi aj x y=>?_⟩;let⟨u,arr,o,C,K⟩:=h.ba s c;by_cases e:s=bY;subst e;rw[M]at o;cases o;refine⟨u,O.setIfInBounds a n,h' l _,by simpa using C,λi hi=>?_⟩;by_cases D:i=a;subst D;rw[HI];simp[C,hi];rw[EI _ _ _ _ (λq=>D q.2),AC (it D)];exact K i hi;refine⟨u,arr,?_,C,λi hi=>?_⟩;rw[ht _ _ _ _ (h.inj s bY c I e)];exact hN o al;rw[EI _ _ _ _ (λq=>e q.1)];exact K i hi;by_cases e:s=bY/\i=a;obtain⟨rfl,rfl⟩:=e;rw[HI,HI];exact⟨z++zs,by rw[ir];exact PN R l al,((ag.kept F).A_ (P.kept F)).kept (Uo l al)⟩;rw[EI _ _ _ _ e,EI _ _ _ _ e];let⟨aH,u,o⟩:=h.FU s i c hi;refine⟨aH,PN (U0 u λg J A d=>?_) l al,(o.kept F).kept (Uo l al)⟩;rw[ar.block _ (de d) ?_];exact d;rcases h.FG s i bY a c hi I T e with H|H;rw[H]at A;cases A;rw[A]at H;exact H
 .by_cases e:s=bY/\i=a
  .obtain⟨rfl,rfl⟩:=e;have S:¬(t=s/\j=i):=λq=>y ⟨q.1.symm,q.2.symm⟩;rw[HI,EI _ _ _ _ S];rcases L with aL|aL
   rw[aL];exact h.FG s i t j c hi aj x y;rw[aL];right;intro q;exact Rp _ (au t j aj x _ q.symm)
  .rw[EI _ _ _ _ e];by_cases B:t=bY/\j=a
   .obtain⟨rfl,rfl⟩:=B;rw[HI];rcases L with aL|aL
    rw[aL];exact h.FG s i t j c hi aj x y;rw[aL];right;intro q;exact Rp _ (au s i c hi _ q)
   rw[EI _ _ _ _ B];exact h.FG s i t j c hi aj x y
def lW.next{base:Nat}{c:Γ}{r:Φ}{b8:Nat->Nat}{m:Nat->Nat->List (List Int)}(h:lW base w v k Z b8 E m)(D:base<=a)(F:w.heap[a]? =some (Obj.cells (Array.replicate (Z k) (.slice none 0 0)) 23 (0,0)))(q:∀s,s<k->b8 s≠a)(f:∀i,E k i=.slice none 0 0)(A:∀i,m k i=[]) (B:c.ownsRow base 264 1 r (k+1) (((List.range k).map λs=>.slice (some ⟨b8 s,0,none⟩) (Z s) (Z s))++[.slice (some ⟨a,0,none⟩) (Z k) (Z k)]))(ar:w.grownBy c v.ownBlock):lW base c r (k+1) Z (λs=>if s=k then a else b8 s) E m:=by
 have hN:∀{b:Nat} {cs:Ω} {t:TypeId} {fr:Nat×Nat},w.heap[b]? =some (Obj.cells cs t fr)->t≠264->c.heap[b]? =some (Obj.cells cs t fr):=λG aj=>by rw[ar.block _ (de G) (BW h.row G aj)];exact G
 have C:xW w c:=λ_ _ _ G=>hN G al;refine⟨?_,λs V=>?_,λs i V hi=>?_,λs t V aj o=>?_,λs i t j V hi aj u o=>?_⟩
 .rw[Li,yO,qu,ER,ci rfl];have ak:(List.range k).map (λs=>Value.slice (some ⟨if s=k then a else b8 s,0,none⟩) (Z s) (Z s))=(List.range k).map (λs=>Value.slice (some ⟨b8 s,0,none⟩) (Z s) (Z s)):=by exact aor
  rw[ak];exact B
 by_cases e:s=k;subst e;rw[ci rfl];exact⟨D,_,hN F al,aq,λi hi=>by rw[f];simp[hi]⟩;rw[bo e];let⟨l,arr,n,x⟩:=h.ba s z;exact⟨l,arr,hN n al,x⟩;by_cases e:s=k;subst e;rw[f,A];exact⟨[],ne _ _ _ _,gL⟩;let⟨y,l,n⟩:=h.FU s i z hi;exact⟨y,U0 l λ_ _ _ H=>hN H al,n.kept C⟩;by_cases e:s=k;rw[ci e,bo z];exact(q t z).symm;rw[bo e];by_cases d:t=k;rw[ci d];exact q s z;rw[bo d];exact h.inj s t z z o
 .by_cases e:s=k;subst e;left;rw[f];rfl
  .by_cases d:t=k
   .subst d;rw[f];cases I:(E s i).ownBlock with
    |none=>exact .inl rfl
    |some g=>right;simp[Value.ownBlock]
   exact h.FG s i t j z hi z u o
def Fp(w:Γ)(v:Φ)(e:Nat)(Z:Nat->Nat)(c:Nat->Nat->List (List Int)):Prop:=
 ∃(b f:Nat) (b8:Nat->Nat),v=.slice (some ⟨b,0,none⟩) e f/\b<w.heap.size/\(∃arr bd,w.heap[b]? =some (Obj.cells arr 264 bd))/\∀a,a<e->b8 a<w.heap.size/\(∃arr bd,w.heap[b8 a]? =some (Obj.cells arr 23 bd))/\w ⟨b,a,none⟩=some (.slice (some ⟨b8 a,0,none⟩) (Z a) (Z a))/\
  ∀i,i<Z a->∃va d,w ⟨b8 a,i,none⟩=some (.slice va (c a i).length d)/\sa w va (c a i)/\(c a i).length<=d
def lW.Vb{base:Nat}{b8:Nat->Nat}{e:Nat->Nat->List (List Int)}(h:lW base w v k Z b8 E e)(j:0<k):∃(b f:Nat),v=.slice (some ⟨b,0,none⟩) k f/\base<=b/\b<w/\(∃arr,w.heap[b]? =some (Obj.cells arr 264 (0,0)))/\(∀a,a<k->w ⟨b,a,none⟩=some (.slice (some ⟨b8 a,0,none⟩) (Z a) (Z a))):=by
 rcases h.row.2 with⟨_,af⟩|⟨g,cap,c,ak,d,bv,l,m,n,i⟩
 omega
 .refine⟨g,cap,ak,d,de bv,⟨c,bv⟩,λa aL=>?_⟩;have:(c.toList.take (k*1))[a]? =some (Value.slice (some ⟨b8 a,0,none⟩) (Z a) (Z a)):=by rw[i];simp[aL]
  exact aol
variable{c:Nat->Nat->List (List Int)}
def lW.asz{base:Nat}{b8:Nat->Nat}(h:lW base w v k Z b8 E c)(d:0<k):Fp w v k Z c:=by let⟨j,q,e,_,H,⟨g,r⟩,I⟩:=h.Vb d;refine⟨j,q,b8,e,H,⟨g,_,r⟩,λa aL=>?_⟩;let⟨s,arr,b,t,o⟩:=h.ba a aL;refine⟨de b,⟨arr,_,b⟩,I a aL,λi hi=>?_⟩;let⟨u,n,p⟩:=h.FU a i aL hi;let⟨va,m,ak,f,_,l⟩:=aqN n p rfl;exact⟨va,m,by rw[kQ b (o i hi),ak],f,l⟩
def Fp.kP{c bS:Nat}{b:Nat->Nat->List (List Int)}(h:Fp w v c Z b)(m:w ⟨bS,6,none⟩=some v)(d:bS<w):IM w bS c Z b:=by obtain⟨g,n,b8,rfl,H,_,I⟩:=h;refine⟨d,g,n,b8,m,H,λa aL=>?_⟩;let⟨f,_,k,j⟩:=I a aL;exact⟨f,k,λi hi=>by let⟨va,l,ak,e,_⟩:=j i hi;exact⟨va,l,ak,e⟩⟩
def Fp.K{d:Nat}(h:Fp w v d Z c)(G:β w w'):Fp w' v d Z c:=by let⟨j,p,b8,e,H,⟨iZ,gr,f⟩,I⟩:=h;refine⟨j,p,b8,e,cT G H,⟨iZ,gr,by rw[G.block _ H];exact f⟩,λa aL=>?_⟩;let⟨b,⟨o,r,q⟩,l,k⟩:=I a aL;refine⟨cT G b,⟨o,r,by rw[G.block _ b];exact q⟩,aA G H l,λi hi=>?_⟩;let⟨va,n,ak,g,m⟩:=k i hi;exact⟨va,n,aA G b ak,g.K G,m⟩
def aG9(rs:List bD)(Z need:Nat->Nat)(n k:Nat)(b:k<rs)(d:n+1<Z rs[k].h)(c:n+1<=need rs[k].h):∀s i,HH (part rs Z need n k) rs[k].h (n+1) (part rs Z need n k rs[k].h (n+1)++kW (part rs Z need n k) Z [(k:Int)] rs[k].args n) s i=part rs Z need n (k+1) s i:=λs i=>by
 rw[aqv rs Z need n k s i b]
 by_cases e:s=rs[k].h/\i=n+1
 .obtain⟨rfl,rfl⟩:=e
  rw[HI,ci rfl,aEm]
  unfold xl
  rw[ci ⟨rfl,d,c⟩]
 .rw[EI _ _ _ _ e]
  by_cases a:i=n+1
  .rw[ci a]
   unfold xl
   rw[bo λq=>e ⟨q.1.symm,a⟩,rf]
  .rw[bo a,rf]
def aG7(rs:List bD)(Z need:Nat->Nat)(n k:Nat)(a:k<rs)(h:¬(n+1<Z rs[k].h/\n+1<=need rs[k].h)):∀s i,part rs Z need n k s i=part rs Z need n (k+1) s i:=λs i=>by
 rw[aqv rs Z need n k s i a]
 split
 .unfold xl
  rw[bo λq=>h (by rw[<-q.1]at q;exact⟨q.2.1,q.2.2⟩),rf]
 .rw[rf]
end Go.bk
namespace Go.bk
open Go Go.Proofs.Tryz Go.Proofs Go.RowKit Go.di
variable{w:Γ}{n:Nat}
def acI{base:Nat}{e:TypeId}{size:Nat}{v:Φ}{aH:List Φ}(h:w.ownsRow base e size v n aH):∃va b,v=.slice va n b:=by
 rcases h.2 with⟨ak,a⟩|⟨g,cap,c,ak,_⟩
 exact⟨none,0,by rw[ak,a]⟩;exact⟨_,cap,ak⟩
variable{w':Γ}
def nn.kept{b:Nat}{f:Nat->Nat}(h:nn w b n f)(a:xW w w'):nn w' b n f:=by let⟨arr,H,I,c⟩:=h.kP;exact⟨de (a _ _ _ H),arr,a _ _ _ H,I,c⟩
def aDl:(prog.info? 264).map (λi=>(i.zero,i.size,i.bytes))=some (some (.slice none 0 0),1,24):=aw
def aFd(n:Nat)(H:1<=n)(a:n<=6):∀(w:Γ),(Instr.makeSlice 264 n n).run prog w=.ok (.slice (some ⟨w,0,none⟩) n n) (w.alloc (.cells (Array.replicate n (.slice none 0 0)) 23)):=by
 have:n=1∨n=2∨n=3∨n=4∨n=5∨n=6:=z;rcases this with rfl|rfl|rfl|rfl|rfl|rfl
 all_goals(intro w;kernel_rfl)
section
variable {S:c8} {M:Nat->Nat} {rs:List bD} {ca be:Θ} {cc aW rb aK rc:Nat} {w:Γ}
def Ic(w:Γ)(rb aK:Nat)(rs:List bD):Prop:=rb<w.heap.size/\∀i (hi:i<rs.length) (a:Θ) (ac:Nat),w ⟨rb,aK+i*4+3,none⟩=some (.slice a rs[i].args.length ac)->rs[i].args.length<=ac
def Ic.K{rb aK:Nat}{rs:List bD}(h:Ic w rb aK rs)(G:β w w'):Ic w' rb aK rs:=
 ⟨cT G h.1,λi hi b ac a=>h.2 i hi b ac ((G.cell (p:=⟨rb,aK+i*4+3,none⟩) h.1).symm.trans a)⟩
def av3(S:c8)(M:Nat->Nat)(rs:List bD)(m:Nat)(e:Ending)(w':Γ):Prop:=∃v need,e=.returned v/\Fp w' v S.aJ.length (λs=>min (M s) m+1) (gh rs (λs=>min (M s) m+1) need m)/\ug M rs S.an rs.length need
attribute [local irreducible] wpStill wpAnyH in
def aJg(h:p1 S M rs ca be cc aW rb aK rc w)(j1:Ic w rb aK rs)(uy:rs.length<=9)(m:Nat)(mq:1<=m)(OF:m<=5): Calls prog 201 #[.agg (en S rs ca be cc aW rb aK rc),.int .i64 m] w λe w'=>av3 S M rs m e w'/\β w w':=by
 have g8:=A (λW (y:β w W)=>aFt (h.K y));have aQ:=ie.d_ w (en S rs ca be cc aW rb aK rc);have uL:=h.ok.xw;have sx:=h.ok.aJ;have fb:=h.ok.an;have lR:=A h.yz;have W4:=A (λr (ae:r∈rs)=>h.ok.BX r (h.sub.subset ae));obtain⟨bS,eI,tA,j3,kf⟩:=h.y;have ps:=A (λW (y:β w W) i (hi:i<S.aJ.length)=>aA y j3 (kf i hi).2.2);subst tA;have jN:=A h.r;have aG:=A j1;obtain⟨aC5,aBy,tw,h5,n9⟩:=iz aDl;obtain⟨Z,X⟩:∃Z:Nat->Nat,Z=λs=>min (M s) m+1:=⟨_,rfl⟩;have U:=A X;have av:∀s,1<=Z s/\Z s<=6:=λs=>by rw[X];dsimp only;omega
 have O:=A av;clear h kf X av j1;go_enter func201,ntmps201;go_wp2;have wx:ie w (en S rs ca (some ⟨bS,eI,none⟩) cc aW rb aK rc) ((w.alloc (.cells (en S rs ca (some ⟨bS,eI,none⟩) cc aW rb aK rc) 29)).alloc (.cells #[.string S.nm,.int .i64 S.dk,.slice ca S.bB.length cc,.slice (some ⟨bS,eI,none⟩) S.aJ.length aW,.slice (some ⟨rb,aK,none⟩) rs.length rc,.int .i64 S.an,.slice none 0 0] 333)):=aQ.K ((bl _ _).alloc (aY _) _);have i6:jM ((w.alloc (.cells (en S rs ca (some ⟨bS,eI,none⟩) cc aW rb aK rc) 29)).alloc (.cells #[.string S.nm,.int .i64 S.dk,.slice ca S.bB.length cc,.slice (some ⟨bS,eI,none⟩) S.aJ.length aW,.slice (some ⟨rb,aK,none⟩) rs.length rc,.int .i64 S.an,.slice none 0 0] 333)) (w.heap.size+1) 333 #[.string S.nm,.int .i64 S.dk,.slice ca S.bB.length cc,.slice (some ⟨bS,eI,none⟩) S.aJ.length aW,.slice (some ⟨rb,aK,none⟩) rs.length rc,.int .i64 S.an,.slice none 0 0]:=by have:=jM.d_ (w.alloc (.cells (en S rs ca (some ⟨bS,eI,none⟩) cc aW rb aK rc) 29)) 333 #[.string S.nm,.int .i64 S.dk,.slice ca S.bB.length cc,.slice (some ⟨bS,eI,none⟩) S.aJ.length aW,.slice (some ⟨rb,aK,none⟩) rs.length rc,.int .i64 S.an,.slice none 0 0];rw[jt]at this;exact this
 have ax:w.heap.size+2<=((w.alloc (.cells (en S rs ca (some ⟨bS,eI,none⟩) cc aW rb aK rc) 29)).alloc (.cells #[.string S.nm,.int .i64 S.dk,.slice ca S.bB.length cc,.slice (some ⟨bS,eI,none⟩) S.aJ.length aW,.slice (some ⟨rb,aK,none⟩) rs.length rc,.int .i64 S.an,.slice none 0 0] 333)).heap.size:=aq;clear aQ;generalize (w.alloc (.cells (en S rs ca (some ⟨bS,eI,none⟩) cc aW rb aK rc) 29)).alloc (.cells #[.string S.nm,.int .i64 S.dk,.slice ca S.bB.length cc,.slice (some ⟨bS,eI,none⟩) S.aJ.length aW,.slice (some ⟨rb,aK,none⟩) rs.length rc,.int .i64 S.an,.slice none 0 0] 333)=am at*;go_loopw [6] (λi wr=>∃(k:Nat) (v:Φ) (b8:Nat->Nat),k<=S.aJ.length/\i=.int .i64 k/\w.heap.size+2<=wr.heap.size/\ie w (en S rs ca (some ⟨bS,eI,none⟩) cc aW rb aK rc) wr/\jM wr (w.heap.size+1) 333 #[.string S.nm,.int .i64 S.dk,.slice ca S.bB.length cc,.slice (some ⟨bS,eI,none⟩) S.aJ.length aW,.slice (some ⟨rb,aK,none⟩) rs.length rc,.int .i64 S.an,v]/\lW (w.heap.size+2) wr v k Z b8 (λ_ _=>.slice none 0 0) (λ_ _=>[])) (λi _=>S.aJ.length-(RowKit.intOf i).toNat);case atStart=>exact⟨0,.slice none 0 0,λ_=>0,dh _,rfl,ax,wx,i6,⟨ne _ _ _ _,λs V=>z,λs i V=>z,λs t V=>z,λs i t j V=>z⟩⟩
 case round=>
  clear wx i6 ax;obtain⟨k,v,b8,ay,rfl,jE,cp,hw,dm⟩:=hrel;have bI:=aN 3 cp.g;have fe:=aN 6 hw;have C0:=de cp.g;have pc:=de hw;by_cases au:k<S.aJ.length
  .have m':(0:Int)<=(k:Int):=z;have l4:(k:Int)<S.aJ.length:=z;have uq:=ps.out _ cp.b _ au;have fx:=lR.out k;have JT:bS<wr.heap.size:=cT cp.b j3;have pa:(M k:Int)<=5:=z;have BP:(m:Int)<=5:=z;obtain⟨ai,F⟩:∃ai,ai=Z k:=⟨_,rfl⟩;have C:=O.out k;rw[<-F]at C;have qf:=aFd ai C.1 C.2;have GG:ai=min (M k) m+1:=by rw[F,U.out]
   have ahe:=A F;have aB:min (M k:Int) (m:Int)+1=(ai:Int):=z;clear F GG;go_wp2;have ky:β wr wr.drew:=(bl _ _).drew;refine CK (S:=(λW=>W ⟨w.heap.size,3,none⟩=some (.slice (some ⟨bS,eI,none⟩) S.aJ.length aW)/\W ⟨bS,eI+k*3+2,none⟩=some (.int .i64 (M k)))) aw ⟨bI,uq⟩ (λye=>?_);refine cn 0 21 ?_;refine cn 1 22 ?_;refine cn 2 23 ?_;refine cn 3 24 ?_;refine cn 5 26 ?_;refine cn 6 27 ?_;refine cn 7 28 ?_;refine cn 8 29 ?_;refine cn 9 30 ?_;refine cn 10 31 ?_;refine cn 11 32 ?_;refine cn 12 33 ?_;have n7:IntKind.i64.wrap (min (M k:Int) (m:Int)+1)=(ai:Int):=by rw[aB];exact pU _ ⟨z,z⟩
   refine cn 13 34 ?_;have aF:IntKind.i64.wrap (ai:Int)=ai:=pU _ ⟨z,z⟩;try rw[n7]
   try rw[aF]
   have agJ:∀Q,Q=wr.heap.size+1->((wr.drew.alloc (.cells (Array.replicate ai (.slice none 0 0)) 23)).alloc (.cells #[.slice (some ⟨wr.heap.size,0,none⟩) ai ai] 264)).heap[Q]? =some (Obj.cells #[.slice (some ⟨wr.heap.size,0,none⟩) ai ai] 264 (0,0)):=λQ fa=>by have:=c7 (wr.drew.alloc (.cells (Array.replicate ai (.slice none 0 0)) 23)) (.cells #[.slice (some ⟨wr.heap.size,0,none⟩) ai ai] 264);rw[jt]at this;rw[fa];exact this
   refine Rf (rs:=[4,14]) aw aq ?_;refine CH (o:=_) rfl (λcf cy=>?_) (CH (o:=_) rfl (λcf cy=>?_) Q3)
   .go_simp;refine cy.out _ _ ⟨bI,uq⟩ (λko=>?_);clear cy cf;refine ix ?_;refine pg 14 (λcf cy=>?_);go_simp;have cu:=ky.alloc (aY _) (.cells (Array.replicate ai (.slice none 0 0)) 23);exact aow
   .go_simp;have cu:=ky.alloc (aY _) (.cells (Array.replicate ai (.slice none 0 0)) 23);refine cy.out _ _ ⟨(cu.cell C0).trans bI,(cu.cell JT).trans uq⟩ (λko=>?_);clear cy cf;refine ix ?_;refine Rf (rs:=[4,15]) aw aq ?_;refine CH (o:=_) rfl (λcf cy=>?_) (CH (o:=_) rfl (λcf cy=>?_) Q3)
    .go_simp;exact aow
    .go_simp;have ex:=cu.alloc cu.size (.cells #[.slice (some ⟨wr.heap.size,0,none⟩) ai ai] 264);refine cy.out _ _ ⟨(ex.cell C0).trans bI,(ex.cell JT).trans uq⟩ (λko=>?_);clear cy cf;refine ix ?_;refine pg 4 (λcf cy=>?_);go_simp;exact aoZ
  .obtain rfl:k=S.aJ.length:=z;have aH:=cp;obtain⟨ct,a_,bb,-,dr,d'⟩:=gp cp.g;go_wp2_with (go_at_call 294;refine(g8.out _ cp.b).mono ?_;rintro e dc ⟨⟨et,f,rfl,vM,NX⟩,B⟩);have Y:=cp.K B;have af:=hw.K B;have N:lW (w.heap.size+2) dc v S.aJ.length Z b8 (λ_ _=>.slice none 0 0) (gh rs Z f 0):=dm.K B;have Oc:w.heap.size+2<=dc.heap.size:=c6 jE B.size;obtain⟨bG,hz,rfl,D1,_,_,_⟩:=N.Vb uL;clear cp aH hw dm ct a_ bb bI dr d' fe C0 pc B jE g8;go_loopw [8] (λi wr=>∃(n:Nat) (E:Nat->Nat->Φ),1<=n/\n<=m+1/\i=.int .i64 n/\w.heap.size+2<=wr.heap.size/\ie w (en S rs ca (some ⟨bS,eI,none⟩) cc aW rb aK rc) wr/\jM wr (w.heap.size+1) 333 #[.string S.nm,.int .i64 S.dk,.slice ca S.bB.length cc,.slice (some ⟨bS,eI,none⟩) S.aJ.length aW,.slice (some ⟨rb,aK,none⟩) rs.length rc,.int .i64 S.an,.slice (some ⟨bG,0,none⟩) S.aJ.length hz]/\nn wr et S.aJ.length f/\lW (w.heap.size+2) wr (.slice (some ⟨bG,0,none⟩) S.aJ.length hz) S.aJ.length Z b8 E (gh rs Z f (n-1))) (λi _=>m+1-(RowKit.intOf i).toNat);case atStart=>exact⟨1,_,z,z,rfl,Oc,Y,af,vM,N⟩
   case round=>
    clear vM Y af N Oc;obtain⟨n,E,tu,qR,rfl,jE,cp,hw,vM,dm⟩:=hrel;by_cases dQ:n<=m
    .have jh:(n:Int)<=(m:Int):=z;have ap:lW (w.heap.size+2) wr (.slice (some ⟨bG,0,none⟩) S.aJ.length hz) S.aJ.length Z b8 E (part rs Z f (n-1) 0):=dm.congr λs i=>(aG8 rs Z f (n-1) s i).symm;go_wp2;go_loopw [9] (λi wr=>∃(k:Nat) (E:Nat->Nat->Φ),k<=rs.length/\i=.int .i64 k/\w.heap.size+2<=wr.heap.size/\ie w (en S rs ca (some ⟨bS,eI,none⟩) cc aW rb aK rc) wr/\jM wr (w.heap.size+1) 333 #[.string S.nm,.int .i64 S.dk,.slice ca S.bB.length cc,.slice (some ⟨bS,eI,none⟩) S.aJ.length aW,.slice (some ⟨rb,aK,none⟩) rs.length rc,.int .i64 S.an,.slice (some ⟨bG,0,none⟩) S.aJ.length hz]/\nn wr et S.aJ.length f/\lW (w.heap.size+2) wr (.slice (some ⟨bG,0,none⟩) S.aJ.length hz) S.aJ.length Z b8 E (part rs Z f (n-1) k)) (λi _=>rs.length-(RowKit.intOf i).toNat);case atStart=>exact⟨0,E,dh _,rfl,jE,cp,hw,vM,ap⟩
     case round=>
      clear vM cp hw dm ap jE;obtain⟨k,E,ay,rfl,jE,cp,hw,vM,dm⟩:=hrel;have dr:=aN 4 cp.g;have q2:=de cp.g;have fe:=aN 6 hw;have pc:=de hw;by_cases au:k<rs.length
      .obtain⟨uZ,Kz,cg,R,kU⟩:=jN.out;cases cg;obtain⟨D,ac,ae⟩:=kU k au;have h4:=aG.out.2 k au D ac ae.c3;have fi:=(cp.b.cell R).trans ae.bi;have ek:=(cp.b.cell R).trans ae.c3;have jZ:=A (ae.args.K (cp.b));obtain⟨ck,o4,zI,_,_⟩:=W4.out _ (fp au);have m':(0:Int)<=(k:Int):=z;have l4:(k:Int)<rs.length:=z;have pa:(0:Int)<=(rs[k].h:Int):=z;have BP:(rs[k].h:Int)<(S.aJ.length:Int):=z;have zY:(0:Int)<=(n:Int):=z;have M':=vM.cell ck;obtain⟨Ka,abL,cg,_,OC,_,jH⟩:=dm.Vb uL;cases cg;have cl:=jH _ ck;have Oo:=NX.le rs[k].h;have C:=O.out rs[k].h;have GI:(Z rs[k].h:Int)<=6:=z;have Un:(f rs[k].h:Int)<=5:=z;clear kU ae;by_cases aa:n<Z rs[k].h/\n<=f rs[k].h
       .obtain⟨jF,m8⟩:=aa;have ak:(n:Int)<(Z rs[k].h:Int):=z;have aI:(n:Int)<=(f rs[k].h:Int):=z;go_upto_region 15 with fail
        have aD:n-1+1=n:=z;have ag:=aG6 (rs:=rs) (M:=M) (Z:=Z) (need:=f) (λs=>by rw[U.out];dsimp only;omega) (n-1) k;have N6:IM wr (w.heap.size+1) S.aJ.length Z (part rs Z f (n-1) k):=(dm.asz uL).kP fe pc;obtain⟨sH,T⟩:∃sH,kW (part rs Z f (n-1) k) Z [(k:Int)] rs[k].args (n-1)=sH:=⟨_,rfl⟩;have sS:=A (λW (y:β wr W) (cK:p3 W (some ⟨wr.heap.size,0,none⟩) [(k:Int)])=>show Calls prog 295 #[.pointer (some ⟨w.heap.size+1,0,none⟩),.slice (some ⟨wr.heap.size,0,none⟩) 1 1,.slice D rs[k].args.length ac,.int .i64 ((n:Int)-1)] W λe w'=>Xy sH e w'/\β W w' from by
         have:=aIo (w.heap.size+1) S.aJ.length Z (part rs Z f (n-1) k) wr N6 (aqu uy (n-1) k z) (λa=>(O.out a).2) (λa i q aE=>by
          have P:=ag a i q aE
          have H:=P.len
          have I:=P.pos
          have ah:=P.le
          have aS:=(lR.out a).2
          omega) rs[k].args zI o4 [(k:Int)] (n-1) 1 ac (some ⟨wr.heap.size,0,none⟩) D W y cK aq bw aq (jZ.out.K y) h4 z
         rw[T,show((n-1:Nat):Int)=(n:Int)-1 by omega]at this
         exact this)
        have l:=aG9 rs Z f (n-1) k au;rw[aD,T]at l;have l:=l jF m8;have df:(part rs Z f (n-1) k rs[k].h n).length+sH.length<=61917364224:=by have H:=aqu (rs:=rs) (Z:=Z) (need:=f) uy (n-1) (k+1) z rs[k].h n;rw[<-l,HI,ir]at H;have I:(144:Nat)^n<=144^5:=k5 z z;exact c6 H I
        have au7:=A l;obtain⟨aR,aw1,mI,aO,aai⟩:=dm.ba _ ck;have Dt:=kQ mI (aai n jF);have Pe:=de mI;obtain⟨xf,w9,ks,hV,ij⟩:=iz O4;have bT:(n:Int)<=5:=z;have eW:(1:Int)<=(n:Int):=z;have aP:IntKind.i64.wrap ((n:Int)-1)=(n:Int)-1:=pU _ ⟨z,z⟩;have JR:rb<wr.heap.size:=cT cp.b R;clear l N6 ag T;have ky:β wr wr.drew:=(bl _ _).drew;refine CK (S:=(λW=>W ⟨w.heap.size+1,6,none⟩=some (.slice (some ⟨bG,0,none⟩) S.aJ.length hz)/\W ⟨bG,rs[k].h,none⟩=some (.slice (some ⟨b8 rs[k].h,0,none⟩) (Z rs[k].h) (Z rs[k].h))/\W ⟨w.heap.size,4,none⟩=some (.slice (some ⟨rb,aK,none⟩) rs.length rc)/\W ⟨rb,aK+k*4+3,none⟩=some (.slice D rs[k].args.length ac))) aw ⟨fe,cl,dr,ek⟩ (λye=>?_);refine cn 0 78 ?_;refine cn 1 79 ?_;refine cn 2 80 ?_;refine cn 3 81 ?_;refine cn 4 82 ?_;refine cn 5 83 ?_;refine cn 6 84 ?_;refine cn 7 85 ?_;refine cn 8 86 ?_;refine cn 9 87 ?_;refine cn 10 88 ?_;refine cn 11 89 ?_;refine cn 12 90 ?_;refine cn 13 91 ?_;refine cn 14 92 ?_;refine cn 15 93 ?_;refine cn 16 94 ?_;refine cn 18 96 ?_;refine cn 19 97 ?_;refine cn 21 99 ?_;refine cn 22 100 ?_;refine cn 23 101 ?_;refine cn 24 102 ?_;refine cn 25 103 ?_;refine cn 26 104 ?_;refine cn 27 105 ?_;refine cn 28 106 ?_;refine Rf (rs:=[17,20]) aw aq ?_;refine CH (o:=_) rfl (λcf cy=>?_) (CH (o:=_) rfl (λcf cy=>?_) Q3)
        .go_simp;refine cy.out _ _ ⟨fe,cl,dr,ek⟩ (λko=>?_);clear cy cf;refine ix ?_;refine pg 20 (λcf cy=>?_);go_simp;have cu:=ky.alloc (aY _) (.cells #[.int .i64 k] 3);have y3:p3 (wr.drew.alloc (.cells #[.int .i64 k] 3)) (some ⟨wr.heap.size,0,none⟩) [(k:Int)]:=λ_=>⟨wr.heap.size,0,_,_,rfl,c7 wr.drew _,λi hi=>by
          have:i=0:=by simp at hi;omega
          subst this;rfl⟩
         have aM:(wr.drew.alloc (.cells #[.int .i64 k] 3)) ⟨b8 rs[k].h,n,none⟩=_:=(cu.cell Pe).trans Dt;exact aoz
        .go_simp;have cu:=ky.alloc (aY _) (.cells #[.int .i64 k] 3);have y3:p3 (wr.drew.alloc (.cells #[.int .i64 k] 3)) (some ⟨wr.heap.size,0,none⟩) [(k:Int)]:=λ_=>⟨wr.heap.size,0,_,_,rfl,c7 wr.drew _,λi hi=>by
          have:i=0:=by simp at hi;omega
          subst this;rfl⟩
         have aM:(wr.drew.alloc (.cells #[.int .i64 k] 3)) ⟨b8 rs[k].h,n,none⟩=_:=(cu.cell Pe).trans Dt;refine cy.out _ _ ⟨(cu.cell pc).trans fe,(cu.cell OC).trans cl,(cu.cell q2).trans dr,(cu.cell JR).trans ek⟩ (λko=>?_);clear cy cf;refine ix ?_;refine Rf (rs:=[17,29]) aw aq ?_;refine CH (o:=_) rfl (λcf cy=>?_) (CH (o:=_) rfl (λcf cy=>?_) Q3)
         .go_simp;exact aoz
         .go_simp;go_at_call 295;refine(sS.out _ cu y3).mono ?_;rintro e w7 ⟨⟨Ew,KC,rfl,OT,vV,kU⟩,ha⟩;have fJ:=b3 cu ha;have aiD:=aA fJ Pe Dt;refine cy.out _ _ ⟨(fJ.cell pc).trans fe,(fJ.cell OC).trans cl,(fJ.cell q2).trans dr,(fJ.cell JR).trans ek⟩ (λko=>?_);clear cy cf;refine ix ?_;refine pg 17 (λcf cy=>?_);go_simp;exact aoB
       .have N4:lW (w.heap.size+2) wr (.slice (some ⟨bG,0,none⟩) S.aJ.length hz) S.aJ.length Z b8 E (part rs Z f (n-1) (k+1)):=dm.congr (aG7 rs Z f (n-1) k au (by rw[show n-1+1=n by omega];exact aa));by_cases jF:n<Z rs[k].h
        .have ak:(n:Int)<(Z rs[k].h:Int):=z;have aI:¬(n:Int)<=(f rs[k].h:Int):=z;have bv:decide ((n:Int)<=(f rs[k].h:Int))=false:=bw;have cI:¬n<=f rs[k].h:=z;exact aoH
        .have ak:¬(n:Int)<(Z rs[k].h:Int):=z;exact aoH
      .obtain rfl:k=rs.length:=z;have N4:lW (w.heap.size+2) wr (.slice (some ⟨bG,0,none⟩) S.aJ.length hz) S.aJ.length Z b8 E (gh rs Z f (n+1-1)):=dm.congr λs i=>by rw[aG5 rs Z f (n-1) s i,show n-1+1=n+1-1 by omega]
       clear dm;go_wp2;go_roundw;case rel=>first|exact⟨n+1,E,z,z,bz,jE,cp,hw,vM,N4⟩|((repeat apply Exists.intro);refine⟨?_,rfl⟩;exact⟨n+1,E,z,z,bz,jE,cp,hw,vM,N4⟩)
       case measure=>simp[RowKit.intOf];omega
    .obtain rfl:n=m+1:=z;rw[Rn]at dm;have jh:¬((m+1:Nat):Int)<=(m:Int):=z;have fe:=aN 6 hw;have pc:=de hw;have ab:=A (dm.asz uL);clear dm;go_wp2;go_ret;rw[U.out]at ab;exact⟨⟨_,f,rfl,ab.out,NX⟩,cp.b⟩
end
end Go.bk
namespace Go.bk
open Go Go.Proofs Go.RowKit Go.di
section
variable {S:c8} {M:Nat->Nat} {rs:List bD} {ca be:Θ} {cc aW rb aK rc:Nat} {w:Γ}
def p1.op(h:p1 S M rs ca be cc aW rb aK rc w):∀r∈rs,r.op.size<=20:=λr a=>(h.UQ.dp r (h.sub.subset a)).op.hi
end
end Go.bk
namespace Go.bk
open Go Go.Proofs.Tryz Go.Proofs Go.RowKit Go.di
attribute [local irreducible] wpAnyH in
def aJG(T:List Int->Prop)(dm:∀p,T p->p.length<=100):∀(N n:Nat) (va:Θ) (Z:Nat) (w:Γ),n<=N->n<=1000000000000->n<=Z->x3 T w va n-> χ 202 #[.slice va n Z] w (avY T n):=by
 intro N;induction N with
 |zero=>
  intro n va Z w dX G aa e';obtain rfl:n=0:=z;have ig:=A e';clear e';go_enter func202,ntmps202
  go_wp2;go_ret;exact⟨⟨_,_,rfl,aa,ig⟩,bl _ _⟩
 |succ N pt=>
  intro n va Z w dX G aa e';have ig:=A e';by_cases I:n<2
  .have dA:(n:Int)<2:=z;have ak:decide ((n:Int)<2)=true:=bw;clear e' pt;go_enter func202,ntmps202
   go_wp2;go_ret;exact⟨⟨_,_,rfl,aa,ig⟩,bl _ _⟩
  .have dA:¬(n:Int)<2:=z;have ak:decide ((n:Int)<2)=false:=bw;obtain⟨h,ck⟩:∃h,h=n/2:=⟨_,rfl⟩;have tw:(n:Int).tdiv 2=(h:Int):=by rw[K9 z];omega
   have aE:wrap64 ((n:Int).tdiv 2)=(h:Int):=by rw[tw];exact Q4 _ ⟨z,z⟩
   have Ov:1<=h/\h<n:=z;have dZ:(0:Int)<=(h:Int):=z;have gQ:(h:Int)<=(n:Int):=z;have gb:(h:Int)<=(Z:Int):=z;have jg:(n:Int)<=(Z:Int):=z;have kV:¬Z=h:=z;obtain⟨pT,r3,rfl,JW,BL⟩:=e' z;have au:=A (λW (X:β w W)=>pt h (some ⟨pT,r3,none⟩) Z W z z z (x3.K (va:=some ⟨pT,r3,none⟩) (λ_=>⟨pT,r3,rfl,JW,λi hi=>BL i z⟩) X));have av:=A (λW (X:β w W)=>pt (n-h) (some ⟨pT,r3+h,none⟩) (Z-h) W z z z (x3.K (va:=some ⟨pT,r3+h,none⟩) (λ_=>⟨pT,r3+h,rfl,JW,λi hi=>by rw[k4];exact BL (h+i) z⟩) X));clear BL pt e' ig ck;go_enter func202,ntmps202;go_upto_region 5 with(first|(have _:=aV;go_at_call 202;refine(av.out _ aV).mono ?_;rintro e b ⟨⟨ra,rc,rfl,kU,dE⟩,bu⟩)|(go_at_call 202;refine(au.out _ (bl _ _)).mono ?_;rintro e am ⟨⟨fC,hz,rfl,nA,cK⟩,aV⟩))
   have lr:=b3 aV bu;have dT:=A (λW (X:β b W)=>(cK.K bu).K X);have an:=A (λW (X:β b W)=>dE.K X);clear cK dE aV bu au av;let⟨xf,w9,l2,mm,mn⟩:=iz O4
   go_wp2;go_loopw [5,6,7] (λv ai O8 wr=>∃(i j:Nat) (f:List Φ),i<=h/\j<=n-h/\ai=.int .i64 i/\O8=.int .i64 j/\Hid (f.length=i+j)/\β b wr/\Hid (wr.ownsRow b 22 1 v (i+j) f)/\Hid (∀y∈f,mZ T b y)) (λ_ ai O8 _=>n-((RowKit.intOf ai).toNat+(RowKit.intOf O8).toNat));case atStart=>exact⟨0,0,[],dh _,dh _,rfl,rfl,A rfl,bl _ _,A (ne _ _ _ _),A aq⟩
   case round=>
    obtain⟨i,j,f,hi,ab,rfl,rfl,Md,bm,em,ps⟩:=hrel;have bN:(0:Int)<=(i:Int):=z;have dx:(0:Int)<=(j:Int):=z;have gc:((n-h:Nat):Int)=(n:Int)-(h:Int):=z;have ls:=b3 lr bm;by_cases JJ:j=n-h
    .by_cases aF:i<h
     .have h3:(i:Int)<h:=z;have hK:((j:Int)==((n-h:Nat):Int))=true:=by rw[JJ];simp
      have f3:decide ((i:Int)<h)=true:=bw
      go_wp2;refine CK (S:=(λ_=>True)) aw gL (λye=>?_);refine cn 0 34 ?_;refine cn 1 35 ?_;refine cn 2 36 ?_;refine cn 3 37 ?_;refine cn 4 38 ?_;refine mR 5 39 ?_;refine mR 6 40 ?_;refine mR 7 41 ?_;refine mR 8 42 ?_;refine mR 9 43 ?_;refine mR 10 44 ?_;refine mR 11 45 ?_;refine mR 12 46 ?_;refine mR 13 47 ?_;refine mR 14 48 ?_;refine mR 15 49 ?_;refine mR 16 50 ?_;refine mR 17 51 ?_;refine mR 18 52 ?_;refine mR 19 53 ?_;refine mR 20 54 ?_;refine cn 21 55 ?_;refine EM aw ?_ _;have l:=bm.drew;have Y:Hid (wr.drew.ownsRow b 22 1 _ (i+j) f):=em;generalize wr.drew=m at*;let⟨bS,eI,tA,j3,kf⟩:=dT.out _ (bl _ _) z;cases tA;let⟨y,aC,D9⟩:=kf i z;obtain⟨s,u,q,rfl,af,ad⟩:=D9;have Gc:mZ T b (.slice s q u):=⟨s,u,q,rfl,af,ad⟩;have pA:=aA l j3 aC;have aj:bS<m.heap.size:=cT l j3;have x:=l.alloc l.size (.cells #[.slice s q u] 22);clear kf aC
      go_wp2_with (at_builtin;refine lP _ rfl _ _ 23 rfl b 22 xf _ 1 24 HU w9 l2 mm mn rfl al _ (i+j) f rfl (Y.out.alloc _) ⟨m,0,none⟩ 1 1 [.slice s q u] rfl rfl (r5 (cs:=#[.slice s q u]) (t:=22) (fr:=(0,0)) (pW m _)) (by simp[Value.oneCell']) (by unfold maxLen;omega) z x.size ?_;intro hh J K O _);have M:β b J:=x.grown O x.size (λg ar=>by
       rcases xN g b with L|L
       .exact absurd ar.symm (yH Y L)
       .exact L)
      have R:Hid (J.ownsRow b 22 1 hh (i+1+(j)) (f++[Value.slice s q u])):=A (by rw[show i+1+(j)=i+j+1 by omega];exact K);have Q:Hid (∀y∈f++[Value.slice s q u],mZ T b y):=A λy aC=>by
       rcases kx.1 aC with aC|aC;exact ps.out y aC;simp at aC;subst aC;exact Gc
      have U:Hid ((f++[Value.slice s q u]).length=i+1+(j)):=A (by rw[ir,Md];simp;omega);clear K O;go_roundw;case rel=>first|exact⟨i+1,j,_,z,z,iY (Value.int .i64) z,iY (Value.int .i64) z,U,M,R,Q⟩|((repeat apply Exists.intro);refine⟨?_,rfl⟩;exact⟨i+1,j,_,z,z,congrArg (Value.int .i64) z,congrArg (Value.int .i64) z,U,M,R,Q⟩)
      case measure=>simp[RowKit.intOf];omega
     .have a_:¬(i:Int)<h:=z;have bb:decide ((i:Int)<h)=false:=bw;have bI:¬(j:Int)<((n-h:Nat):Int):=z;have dr:decide ((j:Int)<((n-h:Nat):Int))=false:=bw
      go_wp2;go_ret;obtain⟨fU,hQ,rfl,aI,aD⟩:=aHo (T:=T) em z Md (λy aC=>(ps.out y aC).K bm);rw[show i+j=n by omega]at*;exact⟨⟨fU,hQ,rfl,aI,aD⟩,ls⟩
    .by_cases aF:i<h
     .have wW:(j:Int)<((n-h:Nat):Int):=z;have f5:(j:Int)<(n:Int)-(h:Int):=z;have Bl:((j:Int)==((n-h:Nat):Int))=false:=by rw[mx];omega
      have f7:((j:Int)==(n:Int)-(h:Int))=false:=by rw[mx];omega
      have h3:(i:Int)<h:=z;have f3:decide ((i:Int)<h)=true:=bw;let⟨bG,eo,oH,jV,az⟩:=dT.out _ (bl _ _) z;cases oH;let⟨dz,OY,aG⟩:=az i z;obtain⟨D,E,B,rfl,hV,ag⟩:=aG;let⟨rb,aK,hW,iR,aB⟩:=an.out _ (bl _ _) z;cases hW;let⟨dJ,OZ,aH⟩:=aB j z;obtain⟨F,H,C,rfl,ij,ah⟩:=aH;have ky:=bm.drew;have cl:wr.drew.cell? ⟨bG,eo+i,none⟩=some (.slice D B E):=(ky.cell jV).trans OY;have zt:wr.drew.cell? ⟨rb,aK+j,none⟩=some (.slice F C H):=(ky.cell iR).trans OZ;have aJ:=A (λW (X:β b W)=>aEd F D H E C B W (ij.K X).kP (hV.K X).kP (dm _ ah) (dm _ ag));have ax:=A OY;have aM:Hid (mZ T b (.slice D B E)):=A ⟨D,E,B,rfl,hV,ag⟩;have aN:Hid (mZ T b (.slice F C H)):=A ⟨F,H,C,rfl,ij,ah⟩;have ay:=A OZ;clear az aB OY OZ hV ij ag ah
      go_wp2;refine CK (S:=(λW=>W ⟨rb,aK+j,none⟩=some (.slice F C H)/\W ⟨bG,eo+i,none⟩=some (.slice D B E))) aw ⟨zt,cl⟩ (λye=>?_);clear cl zt;refine cn 0 34 ?_;refine cn 1 35 ?_;refine cn 2 36 ?_;refine cn 3 37 ?_;refine cn 4 38 ?_;refine cn 5 39 ?_;refine cn 6 40 ?_;refine cn 7 41 ?_;refine cn 8 42 ?_;refine cn 9 43 ?_;refine cn 10 44 ?_;refine cn 11 45 ?_;refine cn 12 46 ?_;refine cn 13 47 ?_;refine cn 14 48 ?_;refine cn 15 49 ?_;refine cn 16 50 ?_;refine cn 17 51 ?_;refine pg 18 (λcf cy=>?_);go_simp;go_at_call 296;refine(aJ.out _ ky).mono ?_;rintro e m ⟨⟨r,rfl⟩,bq⟩;have l:β b m:=b3 ky bq;have Y:Hid (m.ownsRow b 22 1 _ (i+j) f):=A (Ab (show wr.drew.ownsRow _ _ _ _ _ _ from em.out) bq);refine cy.out _ _ ⟨(l.cell iR).trans ay,(l.cell jV).trans ax⟩ (λko=>?_);clear cy cf ye;refine ix ?_;cases r
      .refine cn 19 53 ?_;refine cn 20 54 ?_;refine cn 21 55 ?_;refine EM aw ?_ _;have Gc:mZ T b (.slice D B E):=aM.out;have pA:m ⟨bG,eo+i,none⟩=some (.slice D B E):=(l.cell jV).trans ax;have aj:bG<m.heap.size:=cT l jV;clear ko;have x:=l.alloc l.size (.cells #[.slice D B E] 22)
       go_wp2_with (at_builtin;refine lP _ rfl _ _ 23 rfl b 22 xf _ 1 24 HU w9 l2 mm mn rfl al _ (i+j) f rfl (Y.out.alloc _) ⟨m,0,none⟩ 1 1 [.slice D B E] rfl rfl (r5 (cs:=#[.slice D B E]) (t:=22) (fr:=(0,0)) (pW m _)) (by simp[Value.oneCell']) (by unfold maxLen;omega) z x.size ?_;intro hh J K O _);have M:β b J:=x.grown O x.size (λg ar=>by
        rcases xN g b with L|L
        .exact absurd ar.symm (yH Y L)
        .exact L)
       have R:Hid (J.ownsRow b 22 1 hh (i+1+(j)) (f++[Value.slice D B E])):=A (by rw[show i+1+(j)=i+j+1 by omega];exact K);have Q:Hid (∀y∈f++[Value.slice D B E],mZ T b y):=A λy aC=>by
        rcases kx.1 aC with aC|aC;exact ps.out y aC;simp at aC;subst aC;exact Gc
       have U:Hid ((f++[Value.slice D B E]).length=i+1+(j)):=A (by rw[ir,Md];simp;omega);clear K O;go_roundw;case rel=>first|exact⟨i+1,j,_,z,z,iY (Value.int .i64) z,iY (Value.int .i64) z,U,M,R,Q⟩|((repeat apply Exists.intro);refine⟨?_,rfl⟩;exact⟨i+1,j,_,z,z,congrArg (Value.int .i64) z,congrArg (Value.int .i64) z,U,M,R,Q⟩)
       case measure=>simp[RowKit.intOf];omega
      .refine cn 19 53 ?_;refine cn 20 54 ?_;refine cn 21 55 ?_;refine EM aw ?_ _;have Gc:mZ T b (.slice F C H):=aN.out;have pA:m ⟨rb,aK+j,none⟩=some (.slice F C H):=(l.cell iR).trans ay;have aj:rb<m.heap.size:=cT l iR;clear ko;have x:=l.alloc l.size (.cells #[.slice F C H] 22)
       go_wp2_with (at_builtin;refine lP _ rfl _ _ 23 rfl b 22 xf _ 1 24 HU w9 l2 mm mn rfl al _ (i+j) f rfl (Y.out.alloc _) ⟨m,0,none⟩ 1 1 [.slice F C H] rfl rfl (r5 (cs:=#[.slice F C H]) (t:=22) (fr:=(0,0)) (pW m _)) (by simp[Value.oneCell']) (by unfold maxLen;omega) z x.size ?_;intro hh J K O _);have M:β b J:=x.grown O x.size (λg ar=>by
        rcases xN g b with L|L
        .exact absurd ar.symm (yH Y L)
        .exact L)
       have R:Hid (J.ownsRow b 22 1 hh (i+(j+1)) (f++[Value.slice F C H])):=A (by rw[show i+(j+1)=i+j+1 by omega];exact K);have Q:Hid (∀y∈f++[Value.slice F C H],mZ T b y):=A λy aC=>by
        rcases kx.1 aC with aC|aC;exact ps.out y aC;simp at aC;subst aC;exact Gc
       have U:Hid ((f++[Value.slice F C H]).length=i+(j+1)):=A (by rw[ir,Md];simp;omega);clear K O;go_roundw;case rel=>first|exact⟨i,j+1,_,z,z,iY (Value.int .i64) z,iY (Value.int .i64) z,U,M,R,Q⟩|((repeat apply Exists.intro);refine⟨?_,rfl⟩;exact⟨i,j+1,_,z,z,congrArg (Value.int .i64) z,congrArg (Value.int .i64) z,U,M,R,Q⟩)
       case measure=>simp[RowKit.intOf];omega
     .have wW:(j:Int)<((n-h:Nat):Int):=z;have f5:(j:Int)<(n:Int)-(h:Int):=z;have Bl:((j:Int)==((n-h:Nat):Int))=false:=by rw[mx];omega
      have f7:((j:Int)==(n:Int)-(h:Int))=false:=by rw[mx];omega
      have a_:¬(i:Int)<h:=z;have bb:decide ((i:Int)<h)=false:=bw
      go_wp2;refine CK (S:=(λ_=>True)) aw gL (λye=>?_);refine cn 0 34 ?_;refine cn 1 35 ?_;refine cn 2 36 ?_;refine cn 3 37 ?_;refine cn 4 38 ?_;refine cn 5 39 ?_;refine cn 6 40 ?_;refine cn 7 41 ?_;refine cn 8 42 ?_;refine cn 9 43 ?_;refine mR 10 44 ?_;refine mR 11 45 ?_;refine mR 12 46 ?_;refine mR 13 47 ?_;refine mR 14 48 ?_;refine mR 15 49 ?_;refine mR 16 50 ?_;refine mR 17 51 ?_;refine mR 18 52 ?_;refine mR 19 53 ?_;refine cn 20 54 ?_;refine cn 21 55 ?_;refine EM aw ?_ _;have l:=bm.drew;have Y:Hid (wr.drew.ownsRow b 22 1 _ (i+j) f):=em;generalize wr.drew=m at*;let⟨bS,eI,tA,j3,kf⟩:=an.out _ (bl _ _) z;cases tA;let⟨y,aC,D9⟩:=kf j z;obtain⟨s,u,q,rfl,af,ad⟩:=D9;have Gc:mZ T b (.slice s q u):=⟨s,u,q,rfl,af,ad⟩;have pA:=aA l j3 aC;have aj:bS<m.heap.size:=cT l j3;have x:=l.alloc l.size (.cells #[.slice s q u] 22);clear kf aC
      go_wp2_with (at_builtin;refine lP _ rfl _ _ 23 rfl b 22 xf _ 1 24 HU w9 l2 mm mn rfl al _ (i+j) f rfl (Y.out.alloc _) ⟨m,0,none⟩ 1 1 [.slice s q u] rfl rfl (r5 (cs:=#[.slice s q u]) (t:=22) (fr:=(0,0)) (pW m _)) (by simp[Value.oneCell']) (by unfold maxLen;omega) z x.size ?_;intro hh J K O _);have M:β b J:=x.grown O x.size (λg ar=>by
       rcases xN g b with L|L
       .exact absurd ar.symm (yH Y L)
       .exact L)
      have R:Hid (J.ownsRow b 22 1 hh (i+(j+1)) (f++[Value.slice s q u])):=A (by rw[show i+(j+1)=i+j+1 by omega];exact K);have Q:Hid (∀y∈f++[Value.slice s q u],mZ T b y):=A λy aC=>by
       rcases kx.1 aC with aC|aC;exact ps.out y aC;simp at aC;subst aC;exact Gc
      have U:Hid ((f++[Value.slice s q u]).length=i+(j+1)):=A (by rw[ir,Md];simp;omega);clear K O;go_roundw;case rel=>first|exact⟨i,j+1,_,z,z,iY (Value.int .i64) z,iY (Value.int .i64) z,U,M,R,Q⟩|((repeat apply Exists.intro);refine⟨?_,rfl⟩;exact⟨i,j+1,_,z,z,congrArg (Value.int .i64) z,congrArg (Value.int .i64) z,U,M,R,Q⟩)
      case measure=>simp[RowKit.intOf];omega
variable{w:Γ}{v:Φ}
def mZ.kept{T:List Int->Prop}{w':Γ}(h:mZ T w v)(a:xW w w'):mZ T w' v:=by let⟨b,c,q,e,H,I⟩:=h;exact⟨b,c,q,e,H.kept a,I⟩
def mZ.xn{T:List Int->Prop}(h:mZ T w v):v.oneCell'=true:=by obtain⟨a,b,q,rfl,_⟩:=h;rfl
variable{n:Nat}
def x3.fD{T:List Int->Prop}{va:Θ}(h:x3 T w va n):∃zs:List Φ,zs.length=n/\(∀y∈zs,mZ T w y)/\((∃ad,va=some ad/\∀(j:Nat) u,zs[j]? =some u->w.cell? (ad.add j)=some u)∨(va=none/\n=0)):=by
 by_cases af:0<n
 .obtain⟨b,o,e,f,c⟩:=h af;have key:∀i,i<n->w ⟨b,o+i,none⟩=some ((w ⟨b,o+i,none⟩).getD undef)/\mZ T w ((w ⟨b,o+i,none⟩).getD undef):=λi hi=>by let⟨v,H,I⟩:=c i hi;rw[H];exact⟨rfl,I⟩
  refine⟨(List.range n).map λi=>(w ⟨b,o+i,none⟩).getD undef,aq,λy a=>?_,.inl ⟨_,e,λj u hu=>?_⟩⟩;obtain⟨i,hi,rfl⟩:=AJ.1 a;exact(key i (xK.1 hi)).2
  .rw[ou]at hu;obtain⟨i,hi,rfl⟩:=iW.1 hu;obtain⟨au,rfl⟩:=kL.1 hi;rw[afA]at au;rw[List.getElem_range];have d:(⟨b,o,none⟩:Addr).add j=⟨b,o+j,none⟩:=by unfold Addr.add;split;rename_i dA;subst dA;rfl;rfl
   rw[d];exact(key j au).1
 .obtain rfl:n=0:=z;refine⟨[],rfl,λy a=>(by cases a),?_⟩;cases va with
  |none=>exact .inr ⟨rfl,rfl⟩
  |some ad=>exact .inl ⟨ad,rfl,λj u hu=>by simp at hu⟩
def aJ3{rs:List bD}{M:Nat->Nat}{an:Nat}(f:∀i,1<=M i/\M i<=5)(n:x4 rs M an):∃d,1<=d/\d<=M an/\∀need,ug M rs an rs need->gh rs (λs=>min (M s) d+1) need d an d≠[]:=by
 rcases n with⟨k,b,c,aL⟩|⟨I,a,k,j,b,m,c,aL,l,g⟩
 have H:=f an;exact⟨1,aY _,H.1,λneed e=>asB b c aL z (by have:=e.eo;omega) 1 (aY _)⟩;have H:=f a;exact⟨2,z,I,λneed e=>aKr b c aL m l g z (by have:=e.eo;omega) z (e.Cy k b b c I a aL)⟩
def aIu{base:Nat}{l:List Int}(h:w.ownsRow base 3 1 v n (gS l))(b:l.length=n)(af:v≠ .slice none 0 0):∃g cap,v=.slice (some ⟨g,0,none⟩) l cap/\lT w (some ⟨g,0,none⟩) l/\l.length<=cap/\cap<=9223372036854775807/\base<=g:=by
 let⟨g,cap,ak,H,I,c⟩:=arq h b af;refine⟨g,cap,ak,H,I,?_,c⟩;rcases h.2 with⟨a,_⟩|⟨f,i,e,a,_,_,_,d,_⟩
 rw[a]at ak;cases ak;rw[a]at ak;cases ak;exact d
def UZ{base:Nat}{e:TypeId}{size:Nat}{aH:List Φ}(h:w.ownsRow base e size v n aH)(a:0<n):v≠ .slice none 0 0:=λe=>by
 rcases h.2 with⟨_,af⟩|⟨_,_,_,ak,_⟩
 .omega
 .rw[e]at ak;cases ak
section
variable {S:c8} {M:Nat->Nat} {rs:List bD} {ca be:Θ} {cc aW rb aK rc:Nat} {w:Γ}
def avW(base:Nat)(rs:List bD)(M:Nat->Nat)(an:Nat)(e:Ending)(w':Γ):Prop:=∃va a n p,e=.returned (.slice va (p:List Int).length a)/\lT w' va p/\p6 rs M an n p/\p.length<=a/\a<=9223372036854775807/\∀x,va=some x->base<=x.block
attribute [local irreducible] wpStill wpAnyH in
def aHb(h:p1 S M rs ca be cc aW rb aK rc w)(j1:Ic w rb aK rs)(uy:rs.length<=9)(bt:x4 rs M S.an)(fV:Int): Calls prog 126 #[.agg (en S rs ca be cc aW rb aK rc),.int .i64 fV] w λe w'=>avW w.heap.size rs M S.an e w'/\β w w':=by
 have aQ:=ie.d_ w (en S rs ca be cc aW rb aK rc);have aR:=A (λW (Q:β w W) (ai:Nat) (H:1<=ai) (b4:ai<=5)=>aJg (h.K Q) (j1.K Q) uy ai H b4);obtain⟨d,TB,bh,bO⟩:=aJ3 h.yz bt;have AW:=A bO;have uL:=h.ok.xw;have sx:=h.ok.aJ;have fb:=h.ok.an;have lR:=A h.yz;have F6:=h.yz S.an;obtain⟨bS,eI,tA,j3,kf⟩:=h.y;have ps:=A (λW (Q:β w W) i (hi:i<S.aJ.length)=>aA Q j3 (kf i hi).2.2);subst tA;obtain⟨-,-,-,bI,-,N⟩:=gp aQ.g;have uq:=ps.out _ aQ.b _ fb;have gQ:(0:Int)<=(S.an:Int):=z;have gb:(S.an:Int)<S.aJ.length:=z;obtain⟨xf,w9,ks,hV,ij⟩:=iz O4;clear h j1 bt bO kf;go_enter func126,ntmps126;go_wp2;have az:w.heap.size+1<=(w.alloc (.cells (en S rs ca (some ⟨bS,eI,none⟩) cc aW rb aK rc) 29)).heap.size:=aq;go_loopw [6,7] (λv i wr=>∃(ai len:Nat) (K:List Φ),1<=ai/\ai<=M S.an+1/\i=.int .i64 ai/\w.heap.size+1<=wr.heap.size/\ie w (en S rs ca (some ⟨bS,eI,none⟩) cc aW rb aK rc) wr/\Hid (wr.ownsRow (w.heap.size+1) 22 1 v len K)/\Hid (∀y∈K,mZ (λp=>∃n,p6 rs M S.an n p) wr y)/\len<400/\(d<ai->0<len)) (λ_ i _=>M S.an+1-(RowKit.intOf i).toNat);case atStart=>exact⟨1,0,[],z,z,rfl,az,aQ,A (ne _ _ _ _),A (λy aC=>by cases aC),z,λh=>z⟩
 case round=>
  clear aQ az bI N uq;obtain⟨ai,len,K,jf,bi,rfl,jE,R,W6,Xi,aZ,ad⟩:=hrel;by_cases dQ:ai<=M S.an
  .have jh:(ai:Int)<=(M S.an:Int):=z;obtain⟨ct,a_,bb,bI,dr,N⟩:=gp R.g;have ak:=A (aR.out _ R.b ai jf z);go_upto_region 7 with(go_at_call 201;refine ak.out.mono ?_;rintro e ap ⟨⟨bj,need,rfl,aD,NX⟩,bu⟩)
   have ni:=R.K bu;have W7:=A (Ab W6.out bu);have an:=A (λy aC=>(Xi.out y aC).K bu);have aH:=c6 jE bu.size;clear R W6 Xi jE bu ct a_ bb bI dr N ak;obtain⟨bG,hz,b8,rfl,jV,⟨bk,bg,aG⟩,ay⟩:=aD;obtain⟨o7,⟨aX,bf,aF⟩,cl,Z'⟩:=ay S.an fb;try dsimp only at cl Z'
   obtain⟨va,cB,T,e',ab⟩:=Z' ai z;rw[show min (M S.an) ai+1=ai+1 by omega]at cl;have vY:=QB (rs:=rs) (Z:=λs=>min (M s) ai+1) (need:=need) uy ai z S.an ai;have af:∀q∈gh rs (λs=>min (M s) ai+1) need ai S.an ai,∃n,p6 rs M S.an n q:=λq aE=>⟨ai,QC (M:=M) (λs=>z) ai S.an ai q aE⟩;have BE:d=ai->0<(gh rs (λs=>min (M s) ai+1) need ai S.an ai).length:=λe=>by subst e;exact List.length_pos_iff.2 (AW.out need NX)
   obtain⟨b6,cK⟩:∃b6,gh rs (λs=>min (M s) ai+1) need ai S.an ai=b6:=⟨_,rfl⟩;rw[cK]at T e' ab vY af BE;obtain⟨j,av⟩:∃j,b6.length=j:=⟨_,rfl⟩;have Z5:=e'.aHn af;rw[av]at T ab vY BE Z5;have bd:j<=61917364224:=c6 vY (k5 z (z:ai<=5));have am:=A (λW (Q:β ap W)=>aJG (λp=>∃n,p6 rs M S.an n p) (λp ag=>by
    obtain⟨n,ax⟩:=ag
    have H:=ax.len
    have I:=ax.le
    have ah:=(lR.out S.an).2
    omega) j j va cB W (aY _) z ab (Z5.K Q))
   have aP:=A BE;clear ay Z' e' vY af cK av Z5 NX BE;have N:=aN 5 ni.g;have q2:=de ni.g;have cC:(ai:Int)<=5:=z;have bm:IntKind.i64.wrap (ai:Int)=ai:=pU _ ⟨z,z⟩;have z3:(ai:Int)<(ai:Int)+1:=z;have bc:min (ai:Int) (ai:Int)=ai:=z;have dC:(1:Int)<=(ai:Int):=z;have ky:β ap ap.drew:=(bl _ _).drew;refine CK (S:=(λW=>W ⟨w.heap.size,5,none⟩=some (.int .i64 S.an)/\W ⟨bG,S.an,none⟩=some (.slice (some ⟨b8 S.an,0,none⟩) (ai+1) (ai+1))/\W ⟨b8 S.an,ai,none⟩=some (.slice va j cB))) aw ⟨N,cl,T⟩ (λye=>?_);refine cn 0 24 ?_;refine cn 1 25 ?_;refine cn 2 26 ?_;refine cn 3 27 ?_;refine cn 4 28 ?_;refine cn 5 29 ?_;refine cn 6 30 ?_;refine cn 7 31 ?_;refine cn 8 32 ?_;refine cn 9 33 ?_;refine cn 10 34 ?_;refine cn 11 35 ?_;refine cn 12 36 ?_;refine cn 13 37 ?_;refine cn 14 38 ?_;refine cn 15 39 ?_;refine cn 16 40 ?_;refine pg 17 (λcf cy=>?_);go_simp;go_at_call 202;refine(am.out _ ky).mono ?_;rintro e w7 ⟨⟨fU,KC,rfl,kU,aB⟩,ha⟩;have B:=b3 ky ha;obtain⟨zs,zW,aj,J⟩:=aB.fD;refine cy.out _ _ ⟨(B.cell q2).trans N,(B.cell jV).trans cl,(B.cell o7).trans T⟩ (λko=>?_);clear cy cf;refine ix ?_;refine pg 18 (λcf cy=>?_);refine asf (d:=some 42) _ rfl rfl _ _ 23 rfl (w.heap.size+1) 22 xf _ 1 24 HU w9 ks hV ij rfl al _ len K rfl (Ab W7.out B) fU j KC zs rfl (by rw[zW,tX]) J (λu hu=>(aj u hu).xn) (by unfold maxLen;omega) z (c6 aH B.size) ?_;intro mS m m9 U _;obtain⟨KO,KP,rfl⟩:=acI m9;have O:=Ab W7.out B;have Z0:=GL O U;have X:=ni.K B;have DX:m.heap[w.heap.size]? =some (Obj.cells (en S rs ca (some ⟨bS,eI,none⟩) cc aW rb aK rc) 29 (0,0)):=by rw[U.block _ (de X.g) (BW O X.g al)];exact X.g
   have au:m ⟨w.heap.size,5,none⟩=_:=kQ DX rfl;have M9:m ⟨bG,S.an,none⟩=_:=(U.cell_far ⟨bG,S.an,none⟩ (cT B jV) (BW O ((B.block _ jV).trans aG) al)).trans ((B.cell jV).trans cl);have aV:m ⟨b8 S.an,ai,none⟩=_:=(U.cell_far ⟨b8 S.an,ai,none⟩ (cT B o7) (BW O ((B.block _ o7).trans aF) al)).trans ((B.cell o7).trans T);refine cy.out _ _ ⟨au,M9,aV⟩ (λko=>?_);clear cy cf;refine ix ?_;refine cn 19 6 ?_;refine EM aw ?_ _;have L3:=A m9;have Xj:Hid (∀y∈K++zs,mZ (λp=>∃n,p6 rs M S.an n p) m y):=A λy aC=>by(rcases kx.1 aC with aC|aC);{exact((an.out y aC).K B).kept Z0};{exact(aj y aC).kept Z0}
   have Tu:β w m:=X.b.grown U X.b.size (λg ar=>by
    rcases xN g (w.heap.size+1)with L|L
    .exact absurd ar.symm (yH O L)
    .omega)
   have C2:ie w (en S rs ca (some ⟨bS,eI,none⟩) cc aW rb aK rc) m:=⟨Tu,DX⟩;have Oc:w.heap.size+1<=m.heap.size:=de DX;have Oj:d<ai+1->0<len+j:=λhd=>by by_cases e:d=ai;{have:=aP.out e;omega};{have:=ad z;omega}
   have bT:(j:Int)<=61917364224:=z;have eW:(len:Int)<400:=z;clear Z0 O DX U m9 aj zW J aB X B an W7 N au cl T ko ye ha am ni;by_cases aS:400<=len+j
   .have cI:((len:Int)+(j:Int))≥400:=z;have h2:decide ((400:Int)<=(len:Int)+(j:Int))=true:=bw;obtain⟨f,OD⟩:∃f,f=len+j:=⟨_,rfl⟩;have jQ:(400:Int)<=(f:Int):=z;have kS:(f:Int)<=100000000000:=z;have aT:decide ((400:Int)<=(f:Int))=true:=bw;rw[<-OD]at L3 Oj|-;clear Oj cI h2 aS OD;have G:=L3;have Xk:=Xj;have xS:=Tu;obtain⟨g,cap,cq,x',TG,iQ,rK,_,Y⟩:=uT G.out (UZ G.out z);cases x';have Gt:=G.out.1;obtain⟨C,n7,aJ,aM,aO⟩:∃C:Nat,min (f:Int) 400=(C:Int)/\1<=C/\C<=f/\C<=400:=⟨min f 400,z,z,z,z⟩;have aI:(if 400<(f:Int)then(400:Int)else(f:Int))=(C:Int):=by split<;>omega
    have WP:Hid (∀r,r<f->∃D E q,m ⟨g,r,none⟩=some (.slice D (q:List Int).length E)/\p3 m D q/\∃n,p6 rs M S.an n q):=A λr ae=>by have H:=Y r z;rw[j_ z]at H;obtain⟨D,E,q,e,F,n9⟩:=Xk.out _ (fp (show r<(K++zs).length by omega));exact⟨D,E,q,by rw[kQ iQ H,e],F,n9⟩
    have vj:=LH m (w.heap.size) 3 1 xS.size;have cu:β m (m.alloc (.cells #[] 3)):=(bl _ _).alloc (aY _) _;obtain⟨uO,uJ,l2,mm,mn⟩:=iz Eb;have uG:=de iQ;have he:(1:Int)<=(f:Int):=z;have lN:(f:Int)<=100000000000:=z;have n5:((f:Int)==0)=false:=by rw[mx];omega
    clear Y Gt
    go_wp2_with (first
     |(have _:=nC;at_builtin;refine Wa _ rfl _ _ 22 rfl w.heap.size 3 uO _ 1 8 pj uJ l2 mm mn rfl al (.slice (some ⟨m.heap.size,0,none⟩) 0 0) 0 [] rfl vj ⟨wk,xs,none⟩ q.length E (gS q) rfl (by rw[HJ,tX]) (JN _ cu) (HK _) F (by unfold maxLen;omega) z (c6 xS.size cu.size) _ rfl ?_;intro qb zm gI qS qQ _ _)
     |(go_at_call 203;refine(ack fV C _ z z).mono ?_;rintro e w' ⟨⟨r,nC,rfl⟩,rfl⟩;obtain⟨D,E,q,YE,F5,nq,zD⟩:=WP.out r z;have F:0<q.length:=(by rw[zD.len];exact zD.pos);have ys:q.length<=5:=(by rw[zD.len];exact c6 zD.le (lR.out _).2);obtain⟨wk,xs,rfl,JN⟩:=Uv F5 F;have aU:=aA cu uG YE;have cr:(0:Int)<=(r:Int):=z;have dy:(r:Int)<f:=z))
    exact aoQ
   .have cI:¬((400:Int)<=(len:Int)+(j:Int)):=z;have h2:decide ((400:Int)<=(len:Int)+(j:Int))=false:=bw;obtain⟨f,OD⟩:∃f,f=len+j:=⟨_,rfl⟩;have jQ:¬(400:Int)<=(f:Int):=z;have aT:decide ((400:Int)<=(f:Int))=false:=bw;have zw:f<400:=z;rw[<-OD]at L3 Oj|-;clear cI h2 aS OD;go_wp2;go_roundw;case rel=>first|exact⟨ai+1,f,_,z,z,bz,Oc,C2,L3,Xj,zw,Oj⟩|((repeat apply Exists.intro);refine⟨?_,rfl⟩;exact⟨ai+1,f,_,z,z,bz,Oc,C2,L3,Xj,zw,Oj⟩)
    case measure=>simp[RowKit.intOf];omega
  .obtain rfl:ai=M S.an+1:=z;have jh:¬((M S.an+1:Nat):Int)<=(M S.an:Int):=z;have ba:=ad z;have G:=W6;have Xk:=Xi;have xS:=R.b;clear ad R;obtain⟨g,cap,cq,x',TG,iQ,rK,_,Y⟩:=uT G.out (UZ G.out z);cases x';have Gt:=G.out.1;obtain⟨C,n7,aJ,aM,aO⟩:∃C:Nat,min (len:Int) 400=(C:Int)/\1<=C/\C<=len/\C<=400:=⟨min len 400,z,z,z,z⟩;have aI:(if 400<(len:Int)then(400:Int)else(len:Int))=(C:Int):=by split<;>omega
   have WP:Hid (∀r,r<len->∃D E q,wr ⟨g,r,none⟩=some (.slice D (q:List Int).length E)/\p3 wr D q/\∃n,p6 rs M S.an n q):=A λr ae=>by have H:=Y r z;rw[j_ z]at H;obtain⟨D,E,q,e,F,n9⟩:=Xk.out _ (fp (show r<K.length by omega));exact⟨D,E,q,by rw[kQ iQ H,e],F,n9⟩
   have vj:=LH wr (w.heap.size) 3 1 xS.size;have cu:β wr (wr.alloc (.cells #[] 3)):=(bl _ _).alloc (aY _) _;obtain⟨uO,uJ,l2,mm,mn⟩:=iz Eb;have uG:=de iQ;have he:(1:Int)<=(len:Int):=z;have lN:(len:Int)<=100000000000:=z;have n5:((len:Int)==0)=false:=by rw[mx];omega
   clear Y Gt
   go_wp2_with (first
    |(have _:=nC;at_builtin;refine Wa _ rfl _ _ 22 rfl w.heap.size 3 uO _ 1 8 pj uJ l2 mm mn rfl al (.slice (some ⟨wr.heap.size,0,none⟩) 0 0) 0 [] rfl vj ⟨wk,xs,none⟩ q.length E (gS q) rfl (by rw[HJ,tX]) (JN _ cu) (HK _) F (by unfold maxLen;omega) z (c6 xS.size cu.size) _ rfl ?_;intro qb zm gI qS qQ _ _)
    |(go_at_call 203;refine(ack fV C _ z z).mono ?_;rintro e w' ⟨⟨r,nC,rfl⟩,rfl⟩;obtain⟨D,E,q,YE,F5,nq,zD⟩:=WP.out r z;have F:0<q.length:=(by rw[zD.len];exact zD.pos);have ys:q.length<=5:=(by rw[zD.len];exact c6 zD.le (lR.out _).2);obtain⟨wk,xs,rfl,JN⟩:=Uv F5 F;have aU:=aA cu uG YE;have cr:(0:Int)<=(r:Int):=z;have dy:(r:Int)<len:=z))
   exact aoQ
end
end Go.bk
namespace Go.bE
open Go Go.Proofs.Tryz Go.Proofs Go.RowKit Go.di Go.bk
open Go.bk.N (l_)
open Go.aM (er k_ fk qm hC)
structure AS (S:c8) (M:Nat->Nat) (rs:List bD) (ca be:Θ) (cc aW rb aK rc:Nat) (w:Γ):Prop where
 oB:p1 S M rs ca be cc aW rb aK rc w
 cap:Ic w rb aK rs
 apI:rs.length<=9
 an:x4 rs M S.an
 ok:∀r∈rs,l9 S r
 kd:(S.aJ[S.an]'oB.ok.an).2=1∨(S.aJ[S.an]'oB.ok.an).2=2∨(S.aJ[S.an]'oB.ok.an).2=3
 up:∀x∈S.bB,1<=x.2/\x.2<=5
def AS.K{S:c8}{M:Nat->Nat}{rs:List bD}{ca d:Θ}{cc b rb aK rc:Nat}{w w':Γ}(h:AS S M rs ca d cc b rb aK rc w)(G:β w w'):AS S M rs ca d cc b rb aK rc w':=
 ⟨h.oB.K G,h.cap.K G,h.apI,h.an,h.ok,h.kd,h.up⟩
structure nl (w:Γ) (a:Θ) (n:Nat) (aF:Ω) (wr:Γ):Prop where
 b:Below w.heap.size w wr
 g:wr.heap[w.heap.size]? =some (.cells aF 29 (0,0))
 o:wr.heap[w.heap.size+1]? =some (.cells uP 47 (0,0))
 m:∃c cf:Nat,wr.heap[w.heap.size+2]? =some (.cells #[.slice a n c,.int .i64 cf] 53 (0,0))
structure ow (w:Γ) (a:Θ) (n:Nat) (aF:Ω) (cY:Nat) (dl:Ω) (wr:Γ):Prop where
 x:nl w a n aF wr
 i:wr.heap[cY]? =some (.cells dl 47 (0,0))
 hi:w.heap.size+3<=cY
structure y9 (w:Γ) (a:Θ) (n:Nat) (aF:Ω) (cY:Nat) (dl:Ω) (bA:Nat) (aZ:Ω) (wr:Γ):Prop where
 y:ow w a n aF cY dl wr
 v:wr.heap[bA]? =some (.cells aZ 44 (0,0))
 J:w.heap.size+3<=bA
section
variable {w wr w':Γ} {a:Θ} {n c:Nat} {aF dl aZ:Ω} {cY bA:Nat}
def nl.start(w:Γ)(a:Θ)(n c:Nat)(aF:Ω):nl w a n aF (((w.alloc (.cells aF 29)).alloc (.cells uP 47)).alloc (.cells #[.slice a n c,.int .i64 0] 53)):=by have af:=c7 w (.cells aF 29);have H:=c7 (w.alloc (.cells aF 29)) (.cells uP 47);have I:=c7 ((w.alloc (.cells aF 29)).alloc (.cells uP 47)) (.cells #[.slice a n c,.int .i64 0] 53);have iZ:∀(w:Γ) (o b:Obj) (k:Nat),w.heap[k]? =some b->(w.alloc o).heap[k]? =some b:=λw o b k h=>((fu w o).block k (bM h)).trans h;have e:∀(w:Γ) (o:Obj),(w.alloc o).heap.size=w.heap.size+1:=λw o=>aq;simp only[e]at H I;exact⟨(((bl _ _).alloc (aY _) _).alloc aq _).alloc bw _,iZ _ _ _ _ (iZ _ _ _ _ af),iZ _ _ _ _ H,c,0,I⟩
def nl.num(h:nl w a n aF wr)(b:k_ w a n)(f:∀q,a=some q->0<n->q.block<w):er wr (w.heap.size+2) a n:=by let⟨c,g,e⟩:=h.m;exact⟨c,g,e,b.K h.b,λq d af=>by have:=f q d af;omega⟩
def nl.hN(h:nl w a n aF wr)(G:β w w')(b:∀k,k<w.heap.size+3->k<wr.heap.size->w'.heap[k]? =wr.heap[k]?):nl w a n aF w':=by let⟨c,e,d⟩:=h.m;exact⟨G,(b _ z (bM h.g)).trans h.g,(b _ z (bM h.o)).trans h.o,c,e,(b _ z (bM d)).trans d⟩
def nl.K(h:nl w a n aF wr)(G:β wr w'):nl w a n aF w':=h.hN (b3 h.b G) λk _ b=>G.block k b
def ow.K(h:ow w a n aF cY dl wr)(G:β wr w'):ow w a n aF cY dl w':=⟨h.x.K G,(G.block _ (bM h.i)).trans h.i,h.hi⟩
def y9.K(h:y9 w a n aF cY dl bA aZ wr)(G:β wr w'):y9 w a n aF cY dl bA aZ w':=⟨h.y.K G,(G.block _ (bM h.v)).trans h.v,h.J⟩
def nl.alloc(h:nl w a n aF wr)(o:Obj):nl w a n aF (wr.alloc o):=h.K ((bl _ _).alloc (aY _) o)
def ow.alloc(h:ow w a n aF cY dl wr)(o:Obj):ow w a n aF cY dl (wr.alloc o):=h.K ((bl _ _).alloc (aY _) o)
def nl.drew(h:nl w a n aF wr):nl w a n aF wr.drew:=h.K ((bl _ _).drew)
def ow.drew(h:ow w a n aF cY dl wr):ow w a n aF cY dl wr.drew:=h.K ((bl _ _).drew)
def y9.drew(h:y9 w a n aF cY dl bA aZ wr):y9 w a n aF cY dl bA aZ wr.drew:=h.K ((bl _ _).drew)
def nl.next(h:nl w a n aF wr)(f:er w' (w.heap.size+2) a n)(b:fk (w.heap.size+2) wr w'):nl w a n aF w':=by let⟨c,g,e,_⟩:=f;have G:β w w':=⟨b.os.trans h.b.os,b.tape.trans h.b.tape,b.output.trans h.b.output,c6 h.b.size b.size,λk d=>(b.block k (cT h.b d) z).trans (h.b.block k d)⟩;exact⟨G,(b.block _ (bM h.g) z).trans h.g,(b.block _ (bM h.o) z).trans h.o,c,g,e⟩
def ow.next(h:ow w a n aF cY dl wr)(d:er w' (w.heap.size+2) a n)(b:fk (w.heap.size+2) wr w'):ow w a n aF cY dl w':=⟨h.x.next d b,(b.block _ (bM h.i) (by have:=h.hi;omega)).trans h.i,h.hi⟩
def y9.next(h:y9 w a n aF cY dl bA aZ wr)(d:er w' (w.heap.size+2) a n)(b:fk (w.heap.size+2) wr w'):y9 w a n aF cY dl bA aZ w':=⟨h.y.next d b,(b.block _ (bM h.v) (by have:=h.J;omega)).trans h.v,h.J⟩
def nl.set(h:nl w a n aF wr){r:Nat}(d:w.heap.size+3<=r)(i:Nat)(u:Φ):nl w a n aF (wr.setCell ⟨r,i,none⟩ u):=
 h.hN (h.b.setCell (p:=⟨r,i,none⟩) (by show w.heap.size<=r;omega) u) λk b _=>ht _ _ _ _ (by show k≠r;omega)
def ow.set(h:ow w a n aF cY dl wr)(i:Nat)(u:Φ):ow w a n aF cY (dl.setIfInBounds i u) (wr.setCell ⟨cY,i,none⟩ u):=⟨h.x.set h.hi i u,h' h.i u,h.hi⟩
end
def aDT(m:Nat)(b:m<5)(W:Γ):∃t:Int,(W.alloc (.cells #[.int .i64 1,.int .i64 1,.int .i64 3,.int .i64 2,.int .i64 4] 3)) ⟨W,m,none⟩=t/\(t=1∨t=2∨t=3∨t=4):=by
 have h:=c7 W (.cells #[.int .i64 1,.int .i64 1,.int .i64 3,.int .i64 2,.int .i64 4] 3);rcases(z:m=0∨m=1∨m=2∨m=3∨m=4)with rfl|rfl|rfl|rfl|rfl
 all_goals exact⟨_,by simp only[World.cell?,h];rfl,al⟩
structure b2 where
 id:Int
 cX:Int
 fT:Int
 cZ:Int
 kd:Int
 ej:List bs
 out:bs
 eX:Ψ
 eH:Ψ
 prog:List Int
def gT(B:Nat->Prop)(w:Γ)(F:Ω)(x:b2):Prop:=∃b e k s N S n ca cc ra rc aO d,F=gj x.id x.cX x.fT x.cZ x.kd b x.ej.length e k s N S n ca cc ra rc x.eX x.eH aO x.prog.length d/\x.out=.mk k s N S n [] []/\cm B (aR B 1) w b x.ej/\qD B w aO x.prog
def AN(x:b2):Prop:=(1<=x.cX/\x.cX<=3)/\0<=x.cZ/\x.cZ<=8
def Ms(base:Nat)(e:Ending)(w':Γ):Prop:=∃F x,e=.returned (.agg F)/\AN x/\gT (fj base) w' F x
end Go.bE
namespace Go.bE
open Go Go.Proofs Go.RowKit Go.di Go.bk
open Go.bk.N (l_)
open Go.aM (er k_ fk qm hC)
variable{B:Nat->Prop}
def MF{r:Nat}(c:¬B r)(l:List Φ)(i:Nat)(W:Γ):eR B W (W.setCells r i l):=⟨(Ag (B:=0) (dh _) l i W (bl 0 W)).size,λb G _=>aqO (λe=>c (by rw[<-e];exact G)) l i W⟩
def aFV(W:Γ)(e b c d f:Int):k_ (W.alloc (.cells #[e,b,c,d,f] 3)) (some ⟨W,0,none⟩) 5:=.inr ⟨_,0,rfl,λi hi=>by
 have h:=c7 W (.cells #[e,b,c,d,f] 3)
 rcases(z:i=0∨i=1∨i=2∨i=3∨i=4)with rfl|rfl|rfl|rfl|rfl
 all_goals exact⟨_,by simp only[World.cell?,h];rfl⟩⟩
def alj(n:Nat):Code->Bool
 |.region k _ _=>k==n
 |.seq a _=>alj n a
 |_=>false
def Vd(n:Nat):Code->Code
 |.seq a b=>if alj n a=true then .seq a b else Vd n b
 |c=>c
def ax0:Code->Code
 |.seq (.seq _ c) _=>c
 |c=>c
def Wu(cV io:Nat):Nat->Prop:=λb=>cV<=b/\b<io
abbrev sd(cV io:Nat)(w:Γ)(ra:Θ)(R:List bs):Prop:=cm (Wu cV io) (aR (Wu cV io) 1) w ra R
variable{cV io:Nat}{w w':Γ}{ra:Θ}
def sd.IR{R:List bs}(h:sd cV io w ra R)(b:eR (Wu cV io) w w'):sd cV io w' ra R:=cm.eB (aR.mono _ 1) h b
def sd.MK{R:List bs}(h:sd cV io w ra R)(b:β w w'):sd cV io w' ra R:=cm.K (aR.mono _ 1) h b
def sd.all{R:List bs}(h:sd cV io w ra R):cm aD (aR aD 1) w ra R:=cm.low (λ_ _=>gL) (λ_ _ _ h=>aR.low (λ_ _=>gL) h) h
variable{n:Nat}
def sd.from{R:List bs}(h:sd cV io w ra R)(b:n<=cV):cm (fj n) (aR (fj n) 1) w ra R:=cm.low (λ_ G=>c6 b G.1) (λ_ _ _ h=>aR.low (λ_ G=>c6 b G.1) h) h
def aIS{W:Γ}{a:Θ}{cY:Nat}{aF dl:Ω}{R:List bs}(_:β W w')(c:cm (fj W) (aR (fj W) 1) w' ra R)(h:ow w a n aF cY dl W):∃cV,sd cV w' w' ra R/\cY<cV/\w.heap.size+2<cV:=⟨W.heap.size,cm.lt (λ_ _ b=>b.lt) c,bM h.i,bM h.x.m.choose_spec.choose_spec⟩
structure mc (w:Γ) (a:Θ) (n:Nat) (aF:Ω) (cY:Nat) (dl:Ω) (cV io:Nat) (ra:Θ) (R:List bs) (bA:Nat) (aZ:Ω) (Ay:Γ):Prop where
 y:y9 w a n aF cY dl bA aZ Ay
 s:sd cV io Ay ra R
 aj:io<=bA
 G:cY<cV/\w.heap.size+2<cV/\cY<io
section
variable {w wr w':Γ} {a:Θ} {n cY cV io bA:Nat} {aF dl aZ:Ω} {ra:Θ} {R:List bs}
def mc.Eh(h:ow w a n aF cY dl wr)(b:sd cV io wr ra R)(aj:io<=wr.heap.size)(G:cY<cV/\w.heap.size+2<cV/\cY<io)(aZ:Ω):mc w a n aF cY dl cV io ra R wr aZ (wr.alloc (.cells aZ 44)):=
 ⟨⟨h.alloc _,c7 _ _,c6 h.hi (AK (bM h.i))⟩,b.MK ((bl _ _).alloc (aY _) _),aj,G⟩
def mc.put{k N S g:Int}{s:Ψ}{ca i:Θ}{cl cc rl rc:Nat}(h:mc w a n aF cY dl cV io ra R bA (bC k s N S g ca cl cc i rl rc) wr)(u0 u1 u2 u3 u4 u5 u6:Φ):mc w a n aF cY dl cV io ra R bA #[u0,u1,u2,u3,u4,u5,u6] (Ae wr bA u0 u1 u2 u3 u4 u5 u6):=by have J:=h.y.J;have aj:=h.aj;have G:=h.G;have c:=Kr (B:=λb=>b≠bA) (w:=wr) (eR.refl _ wr) (r:=bA) (λe=>e rfl) u0 u1 u2 u3 u4 u5 u6;refine⟨⟨⟨h.y.y.x.hN (iU h.y.y.x.b z _ _ _ _ _ _ _) λk j d=>c.2 k (by show k≠bA;omega) d,(c.2 cY (by show cY≠bA;omega) (bM h.y.y.i)).trans h.y.y.i,h.y.y.hi⟩,iJ h.y.v _ _ _ _ _ _ _,J⟩,h.s.IR ⟨c.1,λb f au=>c.2 b (by show b≠bA;have:=f.2;omega) au⟩,aj,G⟩
def mc.K(h:mc w a n aF cY dl cV io ra R bA aZ wr)(G:β wr w'):mc w a n aF cY dl cV io ra R bA aZ w':=⟨h.y.K G,h.s.MK G,h.aj,h.G⟩
def mc.next(h:mc w a n aF cY dl cV io ra R bA aZ wr)(d:er w' (w.heap.size+2) a n)(c:fk (w.heap.size+2) wr w'):mc w a n aF cY dl cV io ra R bA aZ w':=
 ⟨h.y.next d c,h.s.IR ⟨c.size,λb G au=>c.block b au (by have:=G.1;have:=h.G.2.1;omega)⟩,h.aj,h.G⟩
def mc.drew(h:mc w a n aF cY dl cV io ra R bA aZ wr):mc w a n aF cY dl cV io ra R bA aZ wr.drew:=h.K ((bl _ _).drew)
def mc.set(h:mc w a n aF cY dl cV io ra R bA aZ wr)(i:Nat)(u:Φ):mc w a n aF cY (dl.setIfInBounds i u) cV io ra R bA aZ (wr.setCell ⟨cY,i,none⟩ u):=by have J:=h.y.J;have aj:=h.aj;have G:=h.G;exact⟨⟨h.y.y.set i u,(ht _ _ _ _ (by show bA≠cY;omega)).trans h.y.v,J⟩,h.s.IR ((eR.refl _ wr).set (λb=>by have:=b.1;omega) i u),aj,G⟩
end
variable{b:Nat}
def vE{c i j:Nat}{u:Φ}(h:c≠b):(w.setCell ⟨c,j,none⟩ u) ⟨b,i,none⟩=w ⟨b,i,none⟩:=ve _ _ _ _ h
variable{aO:Θ}{p:List Int}
def anK(h:lT w aO p)(e:fk b w w')(G:∀x,aO=some x->b<x.block):lT w' aO p:=λaf=>by
 obtain⟨c,o,rfl,d,f⟩:=h af
 have:=G _ rfl
 exact⟨c,o,rfl,i4 d e.size,λi hi=>by rw[nN (e.block c d (by show c≠b;simp at this;omega))];exact f i hi⟩
def aEk(h:lT w aO p)(G:∀x,aO=some x->b<x.block)(i:Nat)(u:Φ):lT (w.setCell ⟨b,i,none⟩ u) aO p:=λaf=>by
 obtain⟨c,o,rfl,d,e⟩:=h af
 have:=G _ rfl
 exact⟨c,o,rfl,by simpa using d,λi hi=>(vE (by simp at this;omega)).trans (e i hi)⟩
def aDt(h:lT w aO p)(f:∀x,aO=some x->B x.block)(b:p.length<=40):qD B w aO p:=⟨b,λaf=>by
 obtain⟨c,o,rfl,d,e⟩:=h af
 exact⟨c,o,rfl,f _ rfl,d,e⟩⟩
end Go.bE
namespace Go.bE
open Go Go.Proofs.Tryz Go.Proofs Go.RowKit Go.di Go.bk
open Go.bk.N (l_)
open Go.aM (er k_ fk qm hC)
def aKw{S:c8}{M:Nat->Nat}{rs:List bD}{ca L:Θ}{cc I rb aK rc:Nat}{w:Γ}(h:AS S M rs ca L cc I rb aK rc w)(id:Int)(a:Θ)(n:Nat)(ab:k_ w a n)(az:∀q,a=some q->0<n->q.block<w.heap.size)(av:n<=maxLen) {wc:Γ}{g T Y K:Nat}{ra:Θ}{B:Nat}{R:List bs}{cX y u kd:Int}{k:Int}{s:Ψ}{N D m:Int}{va:Θ}{l:Nat}{o:Θ}{C:Nat}(w0:mc w a n (en S rs ca L cc I rb aK rc) g (gj id cX y u kd ra R B 0 bX 0 0 0 none 0 none 0 bX bX none 0 0) T Y ra R K (bC k s N D m va 0 l o 0 C) wc)(lE:rt (.mk k s N D m [] []))(O:k=1∨k=2∨k=3)(Gf:1<=cX/\cX<=3)(rM:0<=u/\u<=8) (t0 dU cO t4 t5 t9 B2 B3 B4 B5 B6 B7 B8 B9 B_ Ca Cb t22 t23 Cc t25 Cd Ce Cf Cg Ch Ci t32 Cj Ck t35 t36 Cl Cm Cn Co t41 Cp Cq t44 Cr t46 Cs Ct Qh Hh Hi Hj t53 Hk Hl Hm t57 Hn Ho Hp Hq Hr t63 t64 Hs Ht Hu Hv Hw Qi Qj Qk Ql Qm Qn Qo Qp Qq Qr Qs Qt Qu Qv Qw Qx Qy Qz QA Hy Hz HA HB:Φ):Code.wp prog (Vd 12 (f57.body.getD .ret)) (bodyPost prog f57 λe w'=>Ms w e w'/\β w w') ⟨#[t0,dU,cO,.pointer (some ⟨w,0,none⟩),t4,t5,.pointer (some ⟨w.heap.size+1,0,none⟩),.pointer (some ⟨w.heap.size+1+1,0,none⟩),.pointer (some ⟨g,0,none⟩),t9,.pointer (some ⟨K,0,none⟩),B2,B3,B4,B5,B6,B7,B8,B9,B_,Ca,Cb,t22,t23,Cc,t25,Cd,Ce,Cf,Cg,Ch,Ci,t32,Cj,Ck,t35,t36,Cl,Cm,Cn,Co,t41,Cp,Cq,t44,Cr,t46,Cs,Ct,Qh,Hh,Hi,Hj,t53,Hk,Hl,Hm,t57,Hn,Ho,Hp,Hq,Hr,t63,t64,Hs,Ht,Hu,Hv,Hw,Qi,Qj,Qk,Ql,Qm,Qn,Qo,Qp,Qq,Qr,Qs,Qt,Qu,Qv,Qw,Qx,Qy,Qz,QA,Hy,Hz,HA,HB],[]⟩ wc:=by
 have ad:=A λ(W:Γ) (k:Int) (s:Ψ) (N D n:Int) (va:Θ) (l:Nat) (o:Θ) (wc:Nat) (J:rt (.mk k s N D n [] []))=>ad1 J W (bC k s N D n va 0 l o 0 wc) (aR.jb aD 1 W _ _ _ _ _ _ _ _ _);have Gh:Hid (∀x,ca=some x->x.block≠w.heap.size+2):=A λx aa=>by exact an0
 have ae:=A λW (ao:β w W) (Q:er W (w.heap.size+2) a n)=>λid cX fT cZ kd hM oa h6 es bY kz nr hc jC jD jj jK eX eH dI rW eu k s N D m va xA l o vb wc O=>ap_ (h.K ao).oB (w.heap.size+2) a n av Q Gh.out id cX fT cZ kd hM oa h6 es bY kz nr hc jC jD jj jK eX eH dI rW eu k s N D m va xA l o vb wc O;have dT:=A ab;have nQ:=A az;clear h ab az;have j:=A w0;obtain⟨iO,kT,JC⟩:=w0.G;have r9:=A lE;have gi:=A O;clear w0 lE O;obtain⟨A2,E⟩:∃A2,A2=(bodyPost prog f57 λe w'=>Ms w e w'/\β w w'):=⟨_,rfl⟩;rw[<-E];have k9:=A E;clear E;show Code.wp prog (Code.seq _ _) _ _ _;have Z:wc ⟨g,4,none⟩=kd:=aN 4 j.out.y.y.i;have P:=bM j.out.y.y.i;by_cases Q:kd=3
 .subst Q;have pL:wc ⟨g,13,none⟩=bX:=aN 13 j.out.y.y.i;have f13:=Go.aM.cM (i:=13) j.out.y.y.i;go_upto_region 16 with fail
  have d:Hid (mc w a n (en S rs ca L cc I rb aK rc) g (gj id cX y u 3 ra R B 0 bX 0 0 0 none 0 none 0 ⟨#[105,115]⟩ bX none 0 0) T Y ra R K (bC k s N D m va 0 l o 0 C) (wc.setCell ⟨g,13,none⟩ (.string ⟨#[105,115]⟩))):=A (j.out.set 13 _);clear j Z pL f13 P;generalize (wc.setCell ⟨g,13,none⟩ (.string ⟨#[105,115]⟩))=dc at*;obtain⟨v0,U,V,v3,v4,v5,X⟩:=eU d.out.y.v;go_upto_region 17 with(go_at_call 132;(with_reducible refine(ad.out _ k s N D m va l o C r9.out).mono ?_);rintro e gI ⟨⟨yF,rfl,af⟩,o6⟩;have H:=A (d.out.K o6);clear o6;have rO:gI ⟨g,14,none⟩=bX:=aN 14 H.out.y.y.i;have f14:=Go.aM.cM (i:=14) H.out.y.y.i;have P:=bM H.out.y.y.i)
  have G:Hid (mc w a n (en S rs ca L cc I rb aK rc) g (gj id cX y u 3 ra R B 0 bX 0 0 0 none 0 none 0 ⟨#[105,115]⟩ yF none 0 0) T Y ra R K (bC k s N D m va 0 l o 0 C) (gI.setCell ⟨g,14,none⟩ (.string yF))):=A (H.out.set 14 _);clear d H rO f14 P v0 U V v3 v4 v5 X;generalize (gI.setCell ⟨g,14,none⟩ (.string yF))=yK at*;obtain⟨v0,U,V,v3,v4,v5,X⟩:=eU G.out.y.v;obtain⟨ct,a_,bb,bI,dr,d'⟩:=gp G.out.y.y.x.g;obtain⟨dZ,gQ,gb,jg,Z,nE,nF,nG,q0,q1,qY,qZ,rN,pL,rO,qi⟩:=s8 G.out.y.y.i;go_wp2_with (go_at_call 133;(with_reducible refine(ae.out _ G.out.y.y.x.b (G.out.y.y.x.num dT.out nQ.out) id cX y u 3 ra R B 0 bX 0 0 0 none 0 none 0 ⟨#[105,115]⟩ yF none 0 0 k s N D m va 0 l o 0 C gi.out).mono ?_);rintro e F ⟨⟨eX,eH,rfl⟩,_,bT,bH⟩;have f:=A (G.out.next bT bH);clear bT bH;have hf:=aN 0 f.out.y.y.x.o;have z0:=Go.aM.cM (i:=0) f.out.y.y.x.o;have dn:=aN 1 f.out.y.y.x.o;have cC:=Go.aM.cM (i:=1) f.out.y.y.x.o;have dR:=aN 2 f.out.y.y.x.o;have dC:=Go.aM.cM (i:=2) f.out.y.y.x.o;have fy:=aN 3 f.out.y.y.x.o;have z3:=Go.aM.cM (i:=3) f.out.y.y.x.o;have gG:=aN 4 f.out.y.y.x.o;have z4:=Go.aM.cM (i:=4) f.out.y.y.x.o;have hg:=aN 5 f.out.y.y.x.o;have z5:=Go.aM.cM (i:=5) f.out.y.y.x.o;have hj:=aN 6 f.out.y.y.x.o;have eJ:=Go.aM.cM (i:=6) f.out.y.y.x.o;have PE:=aN 7 f.out.y.y.x.o;have CF:=Go.aM.cM (i:=7) f.out.y.y.x.o;have PF:=aN 8 f.out.y.y.x.o;have r4:=Go.aM.cM (i:=8) f.out.y.y.x.o;have PG:=aN 9 f.out.y.y.x.o;have z9:=Go.aM.cM (i:=9) f.out.y.y.x.o;have Py:=aN 10 f.out.y.y.x.o;have QS:=Go.aM.cM (i:=10) f.out.y.y.x.o;have Pz:=aN 11 f.out.y.y.x.o;have QT:=Go.aM.cM (i:=11) f.out.y.y.x.o;have PA:=aN 12 f.out.y.y.x.o;have QU:=Go.aM.cM (i:=12) f.out.y.y.x.o;have PB:=aN 13 f.out.y.y.x.o;have QV:=Go.aM.cM (i:=13) f.out.y.y.x.o;have PC:=aN 14 f.out.y.y.x.o;have QW:=Go.aM.cM (i:=14) f.out.y.y.x.o;have PD:=aN 15 f.out.y.y.x.o;have QX:=Go.aM.cM (i:=15) f.out.y.y.x.o;have kr:w.heap.size+1<F.heap.size:=bM f.out.y.y.x.o;have cN:=A (Ks f.out.y.y.x.o [id,cX,y,u,.int .i64 3,.slice ra R B,.int .i64 0,bX,.int .i64 0,.int .i64 0,.int .i64 0,.slice none 0 0,.slice none 0 0,eX,eH,.slice none 0 0] rfl);have bR:=A (Ag (rj w) [id,cX,y,u,.int .i64 3,.slice ra R B,.int .i64 0,bX,.int .i64 0,.int .i64 0,.int .i64 0,.slice none 0 0,.slice none 0 0,eX,eH,.slice none 0 0] 0 F f.out.y.y.x.b);have E:=A (f.out.s.IR (MF (r:=w.heap.size+1) (λaa=>by have:=aa.1;omega) [id,cX,y,u,.int .i64 3,.slice ra R B,.int .i64 0,bX,.int .i64 0,.int .i64 0,.int .i64 0,.slice none 0 0,.slice none 0 0,eX,eH,.slice none 0 0] 0 F)));rw[k9.out];refine gd (BV (fn:=f57) rfl _ _ (w.heap.size+1) 47 _ (0,0) _ rfl cN.out CI rfl KH) rfl ?_;exact⟨⟨_,⟨id,cX,y,u,3,R,gY 0,eX,eH,[]⟩,rfl,⟨Gf,rM⟩,ra,B,0,bX,0,0,0,none,0,none,0,none,0,rfl,rfl,(sd.from E.out z),⟨aq,λh=>absurd h aq⟩⟩,bR.out⟩
 .have ek:(kd==3)=false:=by rw[mx];exact Q
  obtain⟨v0,U,V,v3,v4,v5,X⟩:=eU j.out.y.v;have nF:wc ⟨g,6,none⟩=(0:Int):=aN 6 j.out.y.y.i;have Bl:=Go.aM.cM (i:=6) j.out.y.y.i;have nG:wc ⟨g,7,none⟩=bX:=aN 7 j.out.y.y.i;have f7:=Go.aM.cM (i:=7) j.out.y.y.i;have q0:wc ⟨g,8,none⟩=(0:Int):=aN 8 j.out.y.y.i;have f8:=Go.aM.cM (i:=8) j.out.y.y.i;have q1:wc ⟨g,9,none⟩=(0:Int):=aN 9 j.out.y.y.i;have FW:=Go.aM.cM (i:=9) j.out.y.y.i;have qY:wc ⟨g,10,none⟩=(0:Int):=aN 10 j.out.y.y.i;have f10:=Go.aM.cM (i:=10) j.out.y.y.i;have qZ:wc ⟨g,11,none⟩=some (.slice none 0 0):=aN 11 j.out.y.y.i;have f11:=Go.aM.cM (i:=11) j.out.y.y.i;have rN:wc ⟨g,12,none⟩=some (.slice none 0 0):=aN 12 j.out.y.y.i;have f12:=Go.aM.cM (i:=12) j.out.y.y.i;go_upto_region 14 with fail
  have d:Hid (mc w a n (en S rs ca L cc I rb aK rc) g (gj id cX y u kd ra R B k s N D m va l o C bX bX none 0 0) T Y ra R K (bC k s N D m va 0 l o 0 C) (((((((wc.setCell ⟨g,6,none⟩ k).setCell ⟨g,7,none⟩ (.string s)).setCell ⟨g,8,none⟩ N).setCell ⟨g,9,none⟩ D).setCell ⟨g,10,none⟩ m).setCell ⟨g,11,none⟩ (.slice va 0 l)).setCell ⟨g,12,none⟩ (.slice o 0 C))):=A (((((((j.out.set 6 _).set 7 _).set 8 _).set 9 _).set 10 _).set 11 _).set 12 _);clear j Z P v0 U V v3 v4 v5 X nF Bl nG f7 q0 f8 q1 FW qY f10 qZ f11 rN f12;generalize (((((((wc.setCell ⟨g,6,none⟩ k).setCell ⟨g,7,none⟩ (.string s)).setCell ⟨g,8,none⟩ N).setCell ⟨g,9,none⟩ D).setCell ⟨g,10,none⟩ m).setCell ⟨g,11,none⟩ (.slice va 0 l)).setCell ⟨g,12,none⟩ (.slice o 0 C))=F at*;obtain⟨dZ,gQ,gb,jg,Z,nE,nF,nG,q0,q1,qY,qZ,rN,pL,rO,qi⟩:=s8 d.out.y.y.i;have hf:=aN 0 d.out.y.y.x.o;have z0:=Go.aM.cM (i:=0) d.out.y.y.x.o;have dn:=aN 1 d.out.y.y.x.o;have cC:=Go.aM.cM (i:=1) d.out.y.y.x.o;have dR:=aN 2 d.out.y.y.x.o;have dC:=Go.aM.cM (i:=2) d.out.y.y.x.o;have fy:=aN 3 d.out.y.y.x.o;have z3:=Go.aM.cM (i:=3) d.out.y.y.x.o;have gG:=aN 4 d.out.y.y.x.o;have z4:=Go.aM.cM (i:=4) d.out.y.y.x.o;have hg:=aN 5 d.out.y.y.x.o;have z5:=Go.aM.cM (i:=5) d.out.y.y.x.o;have hj:=aN 6 d.out.y.y.x.o;have eJ:=Go.aM.cM (i:=6) d.out.y.y.x.o;have PE:=aN 7 d.out.y.y.x.o;have CF:=Go.aM.cM (i:=7) d.out.y.y.x.o;have PF:=aN 8 d.out.y.y.x.o;have r4:=Go.aM.cM (i:=8) d.out.y.y.x.o;have PG:=aN 9 d.out.y.y.x.o;have z9:=Go.aM.cM (i:=9) d.out.y.y.x.o;have Py:=aN 10 d.out.y.y.x.o;have QS:=Go.aM.cM (i:=10) d.out.y.y.x.o;have Pz:=aN 11 d.out.y.y.x.o;have QT:=Go.aM.cM (i:=11) d.out.y.y.x.o;have PA:=aN 12 d.out.y.y.x.o;have QU:=Go.aM.cM (i:=12) d.out.y.y.x.o;have PB:=aN 13 d.out.y.y.x.o;have QV:=Go.aM.cM (i:=13) d.out.y.y.x.o;have PC:=aN 14 d.out.y.y.x.o;have QW:=Go.aM.cM (i:=14) d.out.y.y.x.o;have PD:=aN 15 d.out.y.y.x.o;have QX:=Go.aM.cM (i:=15) d.out.y.y.x.o;have kr:w.heap.size+1<F.heap.size:=bM d.out.y.y.x.o;have cN:=A (Ks d.out.y.y.x.o [id,cX,y,u,kd,.slice ra R B,k,s,N,D,m,.slice va 0 l,.slice o 0 C,bX,bX,.slice none 0 0] rfl);have bR:=A (Ag (rj w) [id,cX,y,u,kd,.slice ra R B,k,s,N,D,m,.slice va 0 l,.slice o 0 C,bX,bX,.slice none 0 0] 0 F d.out.y.y.x.b);have E:=A (d.out.s.IR (MF (r:=w.heap.size+1) (λaa=>by have:=aa.1;omega) [id,cX,y,u,kd,.slice ra R B,k,s,N,D,m,.slice va 0 l,.slice o 0 C,bX,bX,.slice none 0 0] 0 F));go_wp2;rw[k9.out];refine gd (BV (fn:=f57) rfl _ _ (w.heap.size+1) 47 _ (0,0) _ rfl cN.out CI rfl KH) rfl ?_;exact⟨⟨_,⟨id,cX,y,u,kd,R,.mk k s N D m [] [],bX,bX,[]⟩,rfl,⟨Gf,rM⟩,ra,B,k,s,N,D,m,va,l,o,C,none,0,rfl,rfl,(sd.from E.out z),⟨aq,λh=>absurd h aq⟩⟩,bR.out⟩
def aG2{S:c8}{M:Nat->Nat}{rs:List bD}{ca E:Θ}{cc D rb aK rc:Nat}{w:Γ}(h:AS S M rs ca E cc D rb aK rc w)(id:Int)(a:Θ)(n:Nat)(ab:k_ w a n)(az:∀q,a=some q->0<n->q.block<w.heap.size)(av:n<=maxLen) {y:Γ}{d:Nat}{cX l j:Int}{aO:Θ}{f ad:Nat}{p:List Int}(ae:ow w a n (en S rs ca E cc D rb aK rc) d (gj id cX l j 4 none 0 0 0 bX 0 0 0 none 0 none 0 bX bX none 0 0) y)(hV:lT y aO p)(ij:p6 rs M S.an ad p)(D5:p.length<=f)(ak:f<=9223372036854775807)(vT:∀x,aO=some x->d<x.block)(OB:w.heap.size+3<=d)(Gf:1<=cX/\cX<=3)(rM:0<=j/\j<=8) (cf:Act->Γ->Prop)(t0 dU cO t4 t5 EB B2 B3 B4 B5 B6 B7 B8 B9 B_ Ca Cb t22 t23 Cc t25 Cd Ce Cf Cg Ch Ci t32 Cj Ck t36 Cl Cm Cn Co t41 Cp Cq t44 Cr t46 Cs Ct Qh Hh Hi Hj t53 Hk Hl Hm t57 Hn Ho Hp Hq Hr t63 t64 Hs Ht Hu Hv Hw Qi Qj Qk Ql Qm Qn Qo Qp Qq Qr Qs Qt Qu Qv Qw Qx Qy Qz QA Hy Hz HA HB:Φ):Code.wp prog (ax0 (Vd 4 (f57.body.getD .ret))) (Exit.then cf (bodyPost prog f57 λe w'=>Ms w e w'/\β w w')) ⟨#[t0,dU,cO,.pointer (some ⟨w,0,none⟩),t4,t5,.pointer (some ⟨w.heap.size+1,0,none⟩),.pointer (some ⟨w.heap.size+1+1,0,none⟩),.pointer (some ⟨d,0,none⟩),.slice aO p f,EB,B2,B3,B4,B5,B6,B7,B8,B9,B_,Ca,Cb,t22,t23,Cc,t25,Cd,Ce,Cf,Cg,Ch,Ci,t32,Cj,Ck,.bool true,t36,Cl,Cm,Cn,Co,t41,Cp,Cq,t44,Cr,t46,Cs,Ct,Qh,Hh,Hi,Hj,t53,Hk,Hl,Hm,t57,Hn,Ho,Hp,Hq,Hr,t63,t64,Hs,Ht,Hu,Hv,Hw,Qi,Qj,Qk,Ql,Qm,Qn,Qo,Qp,Qq,Qr,Qs,Qt,Qu,Qv,Qw,Qx,Qy,Qz,QA,Hy,Hz,HA,HB],[]⟩ y:=by
 have AR:=A λ(m:Int) (H:0<m) (I:m<=2000000000000001) W (ah:er W (w.heap.size+2) a n)=>qm W (w.heap.size+2) a n m H I av ah;have Rz:=A λW (ao:β w W) (aO:Θ) (f k:Nat) (p:List Int) (ag:lT W aO p) (e':p6 rs M S.an k p) (af:p.length<=f) (hd:f<=9223372036854775807) x=>ap7 (h.K ao).oB aO f k p ag e' af hd x;have dT:=A ab;have nQ:=A az;have Iq:=A h;have s:=A ae;have y5:=A hV;have L:=A ij;have vn:=A vT;have ar:d<y.heap.size:=bM s.out.i;have qi:y ⟨d,15,none⟩=some (.slice none 0 0):=aN 15 s.out.i;obtain⟨v0,el,eq,v3,v4,v5⟩:=gp s.out.x.g;clear h ab az ae hV ij vT;obtain⟨Z,B⟩:∃Z,Z=(bodyPost prog f57 λe w'=>Ms w e w'/\β w w'):=⟨_,rfl⟩;rw[<-B];have an:=A B;clear B;show Code.wp prog (Code.cond _ _ _) _ _ _;go_upto_region 5 with fail
 go_region_held3 (λX=>X ⟨w,0,none⟩=S.nm/\X ⟨w,1,none⟩=S.dk/\X ⟨w,2,none⟩=some (.slice ca S.bB cc)/\X ⟨w,3,none⟩=some (.slice E S.aJ D)/\X ⟨w,4,none⟩=some (.slice (some ⟨rb,aK,none⟩) rs rc)/\X ⟨w,5,none⟩=S.an) (first|with_reducible exact⟨v0,el,eq,v3,v4,v5⟩|with_reducible exact⟨u0,u1,u2,u3,u4,u5⟩|with_reducible exact⟨T,N,R,Q,V,U⟩|exact⟨(vE z).trans T,(vE z).trans N,(vE z).trans R,(vE z).trans Q,(vE z).trans V,(vE z).trans U⟩|go_keep) (first
  |(have _:=u0;go_at_call 127;(with_reducible refine(Rz.out _ C.out.x.b aO f ad p Fb.out L.out D5 ak _).mono ?_);rintro e u ⟨⟨bN,dP,gF,mr,T5,mq,va,g,rfl,cK,jd⟩,Y⟩;have o:=A (C.out.K Y);have k9:=A cK;have cp:=A jd;have T6:Hid ((p.take bN++ -1::p.drop (bN+gF)).length<=40):=A (by rw[ir,l8,mw,pm];have:=Fa.out;omega);have o6:d<F.heap.size:=bM C.out.i;clear cK jd Y T5 mq mr;generalize (p.take bN++ -1::p.drop (bN+gF))=q at*;obtain⟨T,N,R,Q,V,U⟩:=gp o.out.x.g;have Y:d<u.heap.size:=bM o.out.i;have aj:u ⟨d,15,none⟩=some (.slice none 0 0):=aN 15 o.out.i;have f15:=Go.aM.cM (i:=15) o.out.i)
  |(go_at_call 19;(with_reducible refine(AR.out 20 al al _ (s.out.drew.x.num dT.out nQ.out)).mono ?_);rintro e F ⟨⟨uY,ap,ys,rfl⟩,bT,P⟩;have C:=A (s.out.drew.next bT P);have Fa:Hid (p.length<=5):=A (by rw[L.out.len];exact c6 L.out.le (Iq.out.oB.yz _).2);have Fb:=A (anK (y5.out.K ((bl _ _).drew)) P (λx O=>by have:=vn.out x O;omega));clear bT P;obtain⟨u0,u1,u2,u3,u4,u5⟩:=gp C.out.x.g))
 have c:Hid (ow w a n (en S rs ca E cc D rb aK rc) d (gj id cX l j 4 none 0 0 0 bX 0 0 0 none 0 none 0 bX bX va q g) (u.setCell ⟨d,15,none⟩ (.slice va q g))):=A (o.out.set 15 _);have ai:=C.out.x.b.size;have am:Hid (qD (fj F) (u.setCell ⟨d,15,none⟩ (.slice va q g)) va q):=A ((aDt k9.out (λx O=>cp.out x O) T6.out).eB ((eR.refl _ u).set (by show ¬(F.heap.size<=d);omega) 15 _));clear T N R Q V U u0 u1 u2 u3 u4 u5 v0 el eq v3 v4 v5 qi aj f15 o k9 cp T6 y5 L vn Fb Fa s;generalize (u.setCell ⟨d,15,none⟩ (.slice va q g))=K at*;obtain⟨dZ,gQ,gb,jg,kV,nE,nF,nG,q0,q1,qY,qZ,rN,pL,rO,qi⟩:=s8 c.out.i;have hf:=aN 0 c.out.x.o;have z0:=Go.aM.cM (i:=0) c.out.x.o;have dn:=aN 1 c.out.x.o;have cC:=Go.aM.cM (i:=1) c.out.x.o;have dR:=aN 2 c.out.x.o;have dC:=Go.aM.cM (i:=2) c.out.x.o;have fy:=aN 3 c.out.x.o;have z3:=Go.aM.cM (i:=3) c.out.x.o;have gG:=aN 4 c.out.x.o;have z4:=Go.aM.cM (i:=4) c.out.x.o;have hg:=aN 5 c.out.x.o;have z5:=Go.aM.cM (i:=5) c.out.x.o;have hj:=aN 6 c.out.x.o;have eJ:=Go.aM.cM (i:=6) c.out.x.o;have PE:=aN 7 c.out.x.o;have CF:=Go.aM.cM (i:=7) c.out.x.o;have PF:=aN 8 c.out.x.o;have r4:=Go.aM.cM (i:=8) c.out.x.o;have PG:=aN 9 c.out.x.o;have z9:=Go.aM.cM (i:=9) c.out.x.o;have Py:=aN 10 c.out.x.o;have QS:=Go.aM.cM (i:=10) c.out.x.o;have Pz:=aN 11 c.out.x.o;have QT:=Go.aM.cM (i:=11) c.out.x.o;have PA:=aN 12 c.out.x.o;have QU:=Go.aM.cM (i:=12) c.out.x.o;have PB:=aN 13 c.out.x.o;have QV:=Go.aM.cM (i:=13) c.out.x.o;have PC:=aN 14 c.out.x.o;have QW:=Go.aM.cM (i:=14) c.out.x.o;have PD:=aN 15 c.out.x.o;have QX:=Go.aM.cM (i:=15) c.out.x.o;have kr:w.heap.size+1<K.heap.size:=bM c.out.x.o;have oH:d<K.heap.size:=bM c.out.i;have cN:=A (Ks c.out.x.o [id,cX,l,j,.int .i64 4,.slice none 0 0,.int .i64 0,bX,.int .i64 0,.int .i64 0,.int .i64 0,.slice none 0 0,.slice none 0 0,bX,bX,.slice va q g] rfl);have bR:=A (Ag (rj w) [id,cX,l,j,.int .i64 4,.slice none 0 0,.int .i64 0,bX,.int .i64 0,.int .i64 0,.int .i64 0,.slice none 0 0,.slice none 0 0,bX,bX,.slice va q g] 0 K c.out.x.b);have B:=A (am.out.eB (MF (r:=w.heap.size+1) (by show ¬(F.heap.size<=w.heap.size+1);omega) [id,cX,l,j,.int .i64 4,.slice none 0 0,.int .i64 0,bX,.int .i64 0,.int .i64 0,.int .i64 0,.slice none 0 0,.slice none 0 0,bX,bX,.slice va q g] 0 K));go_wp2;rw[an.out];refine gd (BV (fn:=f57) rfl _ _ (w.heap.size+1) 47 _ (0,0) _ rfl cN.out CI rfl KH) rfl ?_;exact⟨⟨_,⟨id,cX,l,j,4,[],gY 0,bX,bX,q⟩,rfl,⟨Gf,rM⟩,none,0,0,bX,0,0,0,none,0,none,0,va,g,rfl,rfl,⟨aq,λh=>absurd h aq⟩,B.out.low (λb G=>c6 ai G)⟩,bR.out⟩
end Go.bE
