/- ConflictAuthors. -/
import Derived.Test.YtfgcglgpfgifkaaGreatDoorP13
set_option linter.all false
set_option maxRecDepth 100000
set_option maxHeartbeats 16000000
namespace Go.bj
open Go Go.Proofs Go.RowKit Go.c0
theorem aAm{rs:List bA}{M Z need:Nat->Nat}(a:∀s,Z s<=M s+1)(n k:Nat):S_ rs M (part rs Z need n k):=fun s m p h=>by
 unfold part at h
 split at h
 ·rename_i c
  have H:p∈fI rs Z need (n+1) s m:=by
   unfold fI
   rw[cv c]
   obtain⟨e,b,h⟩:=MV.1 h
   exact MV.2 ⟨e,MW b,h⟩
  exact Mr a (n+1) s m p H
 ·exact Mr a n s m p h
structure k9 (base:Nat) (w:World) (v:Value) (k:Nat) (Z bT:Nat->Nat) (E:Nat->Nat->Value) (bV:Nat->Nat->List (List Int)):Prop where
 e2:w.ownsRow base 151 1 v k ((List.range k).map fun s=>.slice (some ⟨bT s,0,none⟩) (Z s) (Z s))
 aU:∀s,s<k->base<=bT s/\∃arr,w.heap[bT s]? =some (Obj.cells arr 23 (0,0))/\arr.size=Z s/\∀i,i<Z s->arr[i]? =some (E s i)
 Dq:∀s i,s<k->i<Z s->∃bE,w.ownsRow base 22 1 (E s i) (bV s i).length bE/\kf w bE (bV s i)
 inj:∀s t,s<k->t<k->s≠t->bT s≠bT t
 Di:∀s i t j,s<k->i<Z s->t<k->j<Z t->¬(s=t/\i=j)->(E s i).ownBlock=none∨(E s i).ownBlock≠(E t j).ownBlock
theorem k9.congr{base:Nat}{w:World}{v:Value}{k:Nat}{Z bT:Nat->Nat}{E:Nat->Nat->Value}{b a:Nat->Nat->List (List Int)}(h:k9 base w v k Z bT E b)(e:∀s i,b s i=a s i):k9 base w v k Z bT E a:=by
 have:b=a:=funext fun s=>funext fun i=>e s i;subst this;exact h
theorem Qx{w w':World}{base:Nat}{e:TypeId}{size:Nat}{v:Value}{n:Nat}{aK:List Value}(h:w.ownsRow base e size v n aK)(c:∀g a,v.ownBlock=some g->w.heap[g]? =some (Obj.cells a e (0,0))->w'.heap[g]? =some (Obj.cells a e (0,0))):w'.ownsRow base e size v n aK:=by
 obtain⟨f,b⟩:=h;refine⟨f,?_⟩;rcases b with b|⟨g,cap,a,ak,d,i,j⟩
 ·exact .inl b
 ·exact .inr ⟨g,cap,a,ak,d,c g a (by rw[ak];rfl) i,j⟩
theorem k9.U{base:Nat}{w w':World}{v:Value}{k:Nat}{Z bT:Nat->Nat}{E:Nat->Nat->Value}{b:Nat->Nat->List (List Int)}(h:k9 base w v k Z bT E b)(A:Below w.heap.size w w'):k9 base w' v k Z bT E b:=by
 refine⟨ye h.e2 A,fun s a=>?_,fun s i a hi=>?_,h.inj,h.Di⟩
 ·obtain⟨H,arr,I,c⟩:=h.aU s a;exact⟨H,arr,by rw[A.block _ (cX I)];exact I,c⟩
 ·obtain⟨d,H,I⟩:=h.Dq s i a hi;exact⟨d,ye H A,I.U A⟩
theorem W2{w:World}{b i:Nat}{x:Value}{cs:Array Value}{t e:TypeId}{fr:Nat×Nat}(A:w.heap[b]? =some (Obj.cells cs t fr))(ah:t≠e){g:Nat}{arr:Array Value}{bg:Nat×Nat}(a:w.heap[g]? =some (Obj.cells arr e bg)):(w.setCell ⟨b,i,none⟩ x).heap[g]? =some (Obj.cells arr e bg):=by
 have:g≠b:=fun h=>by subst h;rw[A]at a;cases a;exact ah rfl
 rw[hm _ _ _ _ this];exact a
theorem LV{w:World}{base:Nat}{e:TypeId}{size:Nat}{v:Value}{n:Nat}{aK:List Value}(h:w.ownsRow base e size v n aK){b i:Nat}{x:Value}{cs:Array Value}{t:TypeId}{fr:Nat×Nat}(A:w.heap[b]? =some (Obj.cells cs t fr))(ah:t≠e):(w.setCell ⟨b,i,none⟩ x).ownsRow base e size v n aK:=
 Qx h fun _ _ _ a=>W2 A ah a
theorem PR{w:World}{b i:Nat}{x:Value}{cs:Array Value}{t:TypeId}{fr:Nat×Nat}(A:w.heap[b]? =some (Obj.cells cs t fr))(ah:t≠3):vT w (w.setCell ⟨b,i,none⟩ x):=fun _ _ _ a=>W2 A ah a
theorem k9.set{base:Nat}{w:World}{v:Value}{k:Nat}{Z bT:Nat->Nat}{E:Nat->Nat->Value}{e:Nat->Nat->List (List Int)}(h:k9 base w v k Z bT E e){b i:Nat}{x:Value}{cs:Array Value}{t:TypeId}{fr:Nat×Nat}(A:w.heap[b]? =some (Obj.cells cs t fr))(H:t≠3)(I:t≠22)(l:t≠23)(f:t≠151):k9 base (w.setCell ⟨b,i,none⟩ x) v k Z bT E e:=by
 refine⟨LV h.e2 A f,fun s a=>?_,fun s j a g=>?_,h.inj,h.Di⟩
 ·obtain⟨c,arr,d,n⟩:=h.aU s a;exact⟨c,arr,W2 A l d,n⟩
 ·obtain⟨m,c,d⟩:=h.Dq s j a g;exact⟨m,LV c A I,d.kept (PR A H)⟩
def EP{a:Type}(E:Nat->Nat->a)(bX b:Nat)(x:a):Nat->Nat->a:=fun s i=>if s=bX/\i=b then x else E s i
theorem EQ{a:Type}(E:Nat->Nat->a)(bX b:Nat)(x:a):EP E bX b x bX b=x:=by simp[EP]
theorem Ce{a:Type}(E:Nat->Nat->a)(bX b:Nat)(x:a){s i:Nat}(h:¬(s=bX/\i=b)):EP E bX b x s i=E s i:=by simp only[EP,bn h]
theorem k9.grown{base:Nat}{w u:World}{v o:Value}{k:Nat}{Z bT:Nat->Nat}{E:Nat->Nat->Value}{l:Nat->Nat->List (List Int)}(h:k9 base w v k Z bT E l){bX a:Nat}(K:bX<k)(V:a<Z bX){B zs:List Value}{m:List (List Int)} (P:w.ownsRow base 22 1 (E bX a) (l bX a).length B)(ag:kf w B (l bX a))(R:kf w zs m)(T:u.ownsRow base 22 1 o ((l bX a).length+m.length) (B++zs))(G:w.grownBy u (E bX a).ownBlock)(N:o.ownBlock=(E bX a).ownBlock∨o.ownBlock=some w.heap.size): k9 base (u.setCell ⟨bT bX,a,none⟩ o) v k Z bT (EP E bX a o) (EP l bX a (l bX a++m)):=by
 have hC:∀{b:Nat} {cs:Array Value} {t:TypeId} {fr:Nat×Nat},w.heap[b]? =some (Obj.cells cs t fr)->t≠22->u.heap[b]? =some (Obj.cells cs t fr):=fun A ah=>by rw[G.block _ (cX A) (Aa P A ah)];exact A
 have J:vT w u:=Ee P G;obtain⟨r4,Q,O,X,W⟩:=h.aU bX K;have n:=hC O ai;have aq:∀s i,s<k->i<Z s->∀g,(E s i).ownBlock=some g->g<w.heap.size:=fun s i c hi g d=>by
  obtain⟨aK,H,_⟩:=h.Dq s i c hi;rcases H.2 with⟨ak,_⟩|⟨Y,cap,L,ak,D,S,_⟩
  ·rw[ak]at d;cases d
  ·rw[ak]at d;cases d;exact cX S
 refine⟨LV (Qx h.e2 fun g L _ d=>hC d ai) n ai,fun s c=>?_,fun s i c hi=>?_,h.inj,fun s i t j c hi ah y z=>?_⟩
 ·obtain⟨x,arr,r,I,M⟩:=h.aU s c;by_cases e:s=bX
  ·subst e;rw[O]at r;cases r;refine⟨x,Q.setIfInBounds a o,hS n _,by simpa using I,fun i hi=>?_⟩;by_cases F:i=a
   ·subst F;rw[EQ];simp[I,hi]
   ·rw[Ce _ _ _ _ (fun q=>F q.2),yG (ht F)];exact M i hi
  ·refine⟨x,arr,?_,I,fun i hi=>?_⟩
   ·rw[hm _ _ _ _ (h.inj s bX c K e)];exact hC r ai
   ·rw[Ce _ _ _ _ (fun q=>e q.1)];exact M i hi
 ·by_cases e:s=bX/\i=a
  ·obtain⟨rfl,rfl⟩:=e;rw[EQ,EQ];exact⟨B++zs,by rw[ie];exact LV T n ai,((ag.kept J).FM (R.kept J)).kept (PR n ai)⟩
  ·rw[Ce _ _ _ _ e,Ce _ _ _ _ e];obtain⟨aK,x,r⟩:=h.Dq s i c hi;refine⟨aK,LV (Qx x fun g L C d=>?_) n ai,(r.kept J).kept (PR n ai)⟩;rw[G.block _ (cX d) ?_]
   ·exact d
   ·rcases h.Di s i bX a c hi K V e with H|H
    ·rw[H]at C;cases C
    ·rw[C]at H;exact H
 ·by_cases e:s=bX/\i=a
  ·obtain⟨rfl,rfl⟩:=e;have U:¬(t=s/\j=i):=fun q=>z ⟨q.1.symm,q.2.symm⟩;rw[EQ,Ce _ _ _ _ U];rcases N with f|f
   ·rw[f];exact h.Di s i t j c hi ah y z
   ·rw[f];right;intro q;exact H1 _ (aq t j ah y _ q.symm)
  ·rw[Ce _ _ _ _ e];by_cases D:t=bX/\j=a
   ·obtain⟨rfl,rfl⟩:=D;rw[EQ];rcases N with f|f
    ·rw[f];exact h.Di s i t j c hi ah y z
    ·rw[f];right;intro q;exact H1 _ (aq s i c hi _ q)
   ·rw[Ce _ _ _ _ D];exact h.Di s i t j c hi ah y z
theorem k9.next{base:Nat}{w c:World}{v r:Value}{k:Nat}{Z bT:Nat->Nat}{E:Nat->Nat->Value}{m:Nat->Nat->List (List Int)}(h:k9 base w v k Z bT E m){a:Nat}(G:base<=a)(H:w.heap[a]? =some (Obj.cells (Array.replicate (Z k) (.slice none 0 0)) 23 (0,0)))(q:∀s,s<k->bT s≠a)(f:∀i,E k i=.slice none 0 0)(F:∀i,m k i=[]) (D:c.ownsRow base 151 1 r (k+1) (((List.range k).map fun s=>.slice (some ⟨bT s,0,none⟩) (Z s) (Z s))++[.slice (some ⟨a,0,none⟩) (Z k) (Z k)]))(x:w.grownBy c v.ownBlock):k9 base c r (k+1) Z (fun s=>if s=k then a else bT s) E m:=by
 have hC:∀{b:Nat} {cs:Array Value} {t:TypeId} {fr:Nat×Nat},w.heap[b]? =some (Obj.cells cs t fr)->t≠151->c.heap[b]? =some (Obj.cells cs t fr):=fun A ah=>by rw[x.block _ (cX A) (Aa h.e2 A ah)];exact A
 have C:vT w c:=fun _ _ _ A=>hC A ai;refine⟨?_,fun s V=>?_,fun s i V hi=>?_,fun s t V ah o=>?_,fun s i t j V hi ah u o=>?_⟩
 ·rw[MY,w1,oa,Cq,cv rfl];have ak:(List.range k).map (fun s=>Value.slice (some ⟨if s=k then a else bT s,0,none⟩) (Z s) (Z s))=(List.range k).map (fun s=>Value.slice (some ⟨bT s,0,none⟩) (Z s) (Z s)):=by exact ajj
  rw[ak];exact D
 ·by_cases e:s=k
  ·subst e;rw[cv rfl];exact⟨G,_,hC H ai,am,fun i hi=>by rw[f];simp[hi]⟩
  ·rw[bn e];obtain⟨l,arr,n,B⟩:=h.aU s z;exact⟨l,arr,hC n ai,B⟩
 ·by_cases e:s=k
  ·subst e;rw[f,F];exact⟨[],mo _ _ _ _,h5⟩
  ·obtain⟨y,l,n⟩:=h.Dq s i z hi;exact⟨y,Qx l fun _ _ _ I=>hC I ai,n.kept C⟩
 ·by_cases e:s=k
  ·rw[cv e,bn z];exact(q t z).symm
  ·rw[bn e];by_cases d:t=k
   ·rw[cv d];exact q s z
   ·rw[bn d];exact h.inj s t z z o
 ·by_cases e:s=k
  ·subst e;left;rw[f];rfl
  ·by_cases d:t=k
   ·subst d;rw[f];cases J:(E s i).ownBlock with
    |none=>exact .inl rfl
    |some g=>right;simp[Value.ownBlock]
   ·exact h.Di s i t j z hi z u o
def C2(w:World)(v:Value)(e:Nat)(Z:Nat->Nat)(c:Nat->Nat->List (List Int)):Prop:=
 ∃(b f:Nat) (bT:Nat->Nat),v=.slice (some ⟨b,0,none⟩) e f/\b<w.heap.size/\(∃arr bg,w.heap[b]? =some (Obj.cells arr 151 bg))/\∀a,a<e->bT a<w.heap.size/\(∃arr bg,w.heap[bT a]? =some (Obj.cells arr 23 bg))/\w.cell? ⟨b,a,none⟩=some (.slice (some ⟨bT a,0,none⟩) (Z a) (Z a))/\
  ∀i,i<Z a->∃va d,w.cell? ⟨bT a,i,none⟩=some (.slice va (c a i).length d)/\qR w va (c a i)/\(c a i).length<=d
theorem k9.QQ{base:Nat}{w:World}{v:Value}{k:Nat}{Z bT:Nat->Nat}{E:Nat->Nat->Value}{f:Nat->Nat->List (List Int)}(h:k9 base w v k Z bT E f)(l:0<k):∃(b i:Nat),v=.slice (some ⟨b,0,none⟩) k i/\base<=b/\b<w.heap.size/\(∃arr,w.heap[b]? =some (Obj.cells arr 151 (0,0)))/\(∀a,a<k->w.cell? ⟨b,a,none⟩=some (.slice (some ⟨bT a,0,none⟩) (Z a) (Z a))):=by
 rcases h.e2.2 with⟨_,ab⟩|⟨g,cap,c,ak,e,bv,m,n,o,j⟩
 ·omega
 ·refine⟨g,cap,ak,e,cX bv,⟨c,bv⟩,fun a d=>?_⟩;have:(c.toList.take (k*1))[a]? =some (Value.slice (some ⟨bT a,0,none⟩) (Z a) (Z a)):=by rw[j];simp[d]
  exact ajg
theorem k9.amQ{base:Nat}{w:World}{v:Value}{k:Nat}{Z bT:Nat->Nat}{E:Nat->Nat->Value}{d:Nat->Nat->List (List Int)}(h:k9 base w v k Z bT E d)(f:0<k):C2 w v k Z d:=by
 obtain⟨m,q,e,_,H,⟨j,s⟩,I⟩:=h.QQ f;refine⟨m,q,bT,e,H,⟨j,_,s⟩,fun a b=>?_⟩;obtain⟨t,arr,c,x,o⟩:=h.aU a b;refine⟨cX c,⟨arr,_,c⟩,I a b,fun i hi=>?_⟩;obtain⟨u,p,r⟩:=h.Dq a i b hi;obtain⟨va,n,ak,g,_,l⟩:=alh p r rfl;exact⟨va,n,by rw[lb c (o i hi),ak],g,l⟩
theorem C2.md{w:World}{v:Value}{c bJ:Nat}{Z:Nat->Nat}{b:Nat->Nat->List (List Int)}(h:C2 w v c Z b)(n:w.cell? ⟨bJ,6,none⟩=some v)(d:bJ<w.heap.size):FF w bJ c Z b:=by
 obtain⟨l,o,bT,rfl,H,_,I⟩:=h;refine⟨d,l,o,bT,n,H,fun a e=>?_⟩;obtain⟨g,_,k,j⟩:=I a e;exact⟨g,k,fun i hi=>by obtain⟨va,m,ak,f,_⟩:=j i hi;exact⟨va,m,ak,f⟩⟩
theorem C2.U{w w':World}{v:Value}{d:Nat}{Z:Nat->Nat}{c:Nat->Nat->List (List Int)}(h:C2 w v d Z c)(A:Below w.heap.size w w'):C2 w' v d Z c:=by
 obtain⟨n,q,bT,e,H,⟨h7,fR,f⟩,I⟩:=h;refine⟨n,q,bT,e,cE A H,⟨h7,fR,by rw[A.block _ H];exact f⟩,fun a g=>?_⟩;obtain⟨b,⟨p,r,s⟩,l,k⟩:=I a g;refine⟨cE A b,⟨p,r,by rw[A.block _ b];exact s⟩,aA A H l,fun i hi=>?_⟩;obtain⟨va,o,ak,j,m⟩:=k i hi;exact⟨va,o,aA A b ak,j.U A,m⟩
theorem aAp(rs:List bA)(Z need:Nat->Nat)(n k:Nat)(b:k<rs.length)(d:n+1<Z rs[k].h)(c:n+1<=need rs[k].h):∀s i,EP (part rs Z need n k) rs[k].h (n+1) (part rs Z need n k rs[k].h (n+1)++kl (part rs Z need n k) Z [(k:Int)] rs[k].args n) s i=part rs Z need n (k+1) s i:=fun s i=>by
 rw[ak4 rs Z need n k s i b]
 by_cases e:s=rs[k].h/\i=n+1
 ·obtain⟨rfl,rfl⟩:=e
  rw[EQ,cv rfl,ax3]
  unfold vu
  rw[cv ⟨rfl,d,c⟩]
 ·rw[Ce _ _ _ _ e]
  by_cases a:i=n+1
  ·rw[cv a]
   unfold vu
   rw[bn fun q=>e ⟨q.1.symm,a⟩,qK]
  ·rw[bn a,qK]
theorem aAn(rs:List bA)(Z need:Nat->Nat)(n k:Nat)(a:k<rs.length)(h:¬(n+1<Z rs[k].h/\n+1<=need rs[k].h)):∀s i,part rs Z need n k s i=part rs Z need n (k+1) s i:=fun s i=>by
 rw[ak4 rs Z need n k s i a]
 split
 ·unfold vu
  rw[bn fun q=>h (by rw[←q.1]at q;exact⟨q.2.1,q.2.2⟩),qK]
 ·rw[qK]
end Go.bj
namespace Go.bj
open Go Go.Proofs.Tryz Go.Proofs Go.RowKit Go.c0
theorem akW{w:World}{base:Nat}{e:TypeId}{size:Nat}{v:Value}{n:Nat}{aK:List Value}(h:w.ownsRow base e size v n aK):∃va b,v=.slice va n b:=by
 rcases h.2 with⟨ak,a⟩|⟨g,cap,c,ak,_⟩
 ·exact⟨none,0,by rw[ak,a]⟩
 ·exact⟨_,cap,ak⟩
theorem mw.kept{w w':World}{b n:Nat}{f:Nat->Nat}(h:mw w b n f)(a:vT w w'):mw w' b n f:=by
 obtain⟨arr,H,I,c⟩:=h.md;exact⟨cX (a _ _ _ H),arr,a _ _ _ H,I,c⟩
theorem axd:(prog.info? 151).map (fun i=>(i.zero,i.size,i.bytes))=some (some (.slice none 0 0),1,24):=au
theorem ayQ(n:Nat)(H:1<=n)(a:n<=6):∀(w:World),(Instr.makeSlice 151 (.int .i64 n) (.int .i64 n)).run prog w=.ok (.slice (some ⟨w.heap.size,0,none⟩) n n) (w.alloc (.cells (Array.replicate n (.slice none 0 0)) 23)):=by
 have:n=1∨n=2∨n=3∨n=4∨n=5∨n=6:=z;rcases this with rfl|rfl|rfl|rfl|rfl|rfl
 all_goals(intro w;kernel_rfl)
section
variable {S:cO} {M:Nat->Nat} {rs:List bA} {ca bd:Option Addr} {cc aV rb aC rc:Nat} {w:World}
def E'(w:World)(rb aC:Nat)(rs:List bA):Prop:=rb<w.heap.size/\∀i (hi:i<rs.length) (a:Option Addr) (ac:Nat),w.cell? ⟨rb,aC+i*4+3,none⟩=some (.slice a rs[i].args.length ac)->rs[i].args.length<=ac
theorem E'.U{w w':World}{rb aC:Nat}{rs:List bA}(h:E' w rb aC rs)(A:Below w.heap.size w w'):E' w' rb aC rs:=
 ⟨cE A h.1,fun i hi b ac a=>h.2 i hi b ac ((A.cell (p:=⟨rb,aC+i*4+3,none⟩) h.1).symm.trans a)⟩
def ap8(S:cO)(M:Nat->Nat)(rs:List bA)(m:Nat)(e:Ending)(w':World):Prop:=∃v need,e=.returned v/\C2 w' v S.aB.length (fun s=>min (M s) m+1) (fI rs (fun s=>min (M s) m+1) need m)/\sI M rs S.aj rs.length need
attribute [local irreducible] wpStill wpAnyH in
theorem aCj(h:oX S M rs ca bd cc aV rb aC rc w)(jc:E' w rb aC rs)(xG:rs.length<=9)(m:Nat)(lH:1<=m)(KW:m<=5): Calls prog 91 #[.agg (eh S rs ca bd cc aV rb aC rc),.int .i64 m] w fun e w'=>ap8 S M rs m e w'/\Below w.heap.size w w':=by
 have gW:=G (fun W (y:Below w.heap.size w W)=>ay2 (h.U y));have aQ:=hw.eI w (eh S rs ca bd cc aV rb aC rc);have s8:=h.ok.vB;have rf:=h.ok.aB;have eE:=h.ok.aj;have k3:=G h.oG;have SB:=G (fun r (Y:r∈rs)=>h.ok.Ab r (h.sub.subset Y));obtain⟨bJ,eB,sg,jV,kk⟩:=h.y;have pw:=G (fun W (y:Below w.heap.size w W) i (hi:i<S.aB.length)=>aA y jV (kk i hi).2.2);subst sg;have mS:=G h.r;have aF:=G jc;obtain⟨awY,avp,sd,it,m7⟩:=jt axd;obtain⟨Z,X⟩:∃Z:Nat->Nat,Z=fun s=>min (M s) m+1:=⟨_,rfl⟩;have T:=G X;have aw:∀s,1<=Z s/\Z s<=6:=fun s=>by rw[X];dsimp only;omega
 have L:=G aw;clear h kk X aw jc;go_enter func91,ntmps91
 go_wp2;have xb:hw w (eh S rs ca (some ⟨bJ,eB,none⟩) cc aV rb aC rc) ((w.alloc (.cells (eh S rs ca (some ⟨bJ,eB,none⟩) cc aV rb aC rc) 29)).alloc (.cells #[.string S.bo,.int .i64 S.cZ,.slice ca S.bs.length cc,.slice (some ⟨bJ,eB,none⟩) S.aB.length aV,.slice (some ⟨rb,aC,none⟩) rs.length rc,.int .i64 S.aj,.slice none 0 0] 235)):=aQ.U ((bi _ _).alloc (aZ _) _);have i7:kd ((w.alloc (.cells (eh S rs ca (some ⟨bJ,eB,none⟩) cc aV rb aC rc) 29)).alloc (.cells #[.string S.bo,.int .i64 S.cZ,.slice ca S.bs.length cc,.slice (some ⟨bJ,eB,none⟩) S.aB.length aV,.slice (some ⟨rb,aC,none⟩) rs.length rc,.int .i64 S.aj,.slice none 0 0] 235)) (w.heap.size+1) 235 #[.string S.bo,.int .i64 S.cZ,.slice ca S.bs.length cc,.slice (some ⟨bJ,eB,none⟩) S.aB.length aV,.slice (some ⟨rb,aC,none⟩) rs.length rc,.int .i64 S.aj,.slice none 0 0]:=by have:=kd.eI (w.alloc (.cells (eh S rs ca (some ⟨bJ,eB,none⟩) cc aV rb aC rc) 29)) 235 #[.string S.bo,.int .i64 S.cZ,.slice ca S.bs.length cc,.slice (some ⟨bJ,eB,none⟩) S.aB.length aV,.slice (some ⟨rb,aC,none⟩) rs.length rc,.int .i64 S.aj,.slice none 0 0];rw[jC]at this;exact this
 have an:w.heap.size+2<=((w.alloc (.cells (eh S rs ca (some ⟨bJ,eB,none⟩) cc aV rb aC rc) 29)).alloc (.cells #[.string S.bo,.int .i64 S.cZ,.slice ca S.bs.length cc,.slice (some ⟨bJ,eB,none⟩) S.aB.length aV,.slice (some ⟨rb,aC,none⟩) rs.length rc,.int .i64 S.aj,.slice none 0 0] 235)).heap.size:=am;clear aQ;generalize (w.alloc (.cells (eh S rs ca (some ⟨bJ,eB,none⟩) cc aV rb aC rc) 29)).alloc (.cells #[.string S.bo,.int .i64 S.cZ,.slice ca S.bs.length cc,.slice (some ⟨bJ,eB,none⟩) S.aB.length aV,.slice (some ⟨rb,aC,none⟩) rs.length rc,.int .i64 S.aj,.slice none 0 0] 235)=ap at*;go_loopw [6] (fun i wr=>∃(k:Nat) (v:Value) (bT:Nat->Nat),k<=S.aB.length/\i=.int .i64 k/\w.heap.size+2<=wr.heap.size/\hw w (eh S rs ca (some ⟨bJ,eB,none⟩) cc aV rb aC rc) wr/\kd wr (w.heap.size+1) 235 #[.string S.bo,.int .i64 S.cZ,.slice ca S.bs.length cc,.slice (some ⟨bJ,eB,none⟩) S.aB.length aV,.slice (some ⟨rb,aC,none⟩) rs.length rc,.int .i64 S.aj,v]/\k9 (w.heap.size+2) wr v k Z bT (fun _ _=>.slice none 0 0) (fun _ _=>[])) (fun i _=>S.aB.length-(RowKit.intOf i).toNat);case atStart=>exact⟨0,.slice none 0 0,fun _=>0,dq _,rfl,an,xb,i7,⟨mo _ _ _ _,fun s V=>z,fun s i V=>z,fun s t V=>z,fun s i t j V=>z⟩⟩
 case round=>
  clear xb i7 an;obtain⟨k,v,bT,ay,rfl,jb,cd,hU,dC⟩:=hrel;have bR:=aS 3 cd.g;have fk:=aS 6 hU;have AI:=cX cd.g;have n1:=cX hU;by_cases aq:k<S.aB.length
  ·have mj:(0:Int)<=(k:Int):=z;have lj:(k:Int)<S.aB.length:=z;have sT:=pw.out _ cd.b _ aq;have fp:=k3.out k;have GN:bJ<wr.heap.size:=cE cd.b jV;have n0:(M k:Int)<=5:=z;have zR:(m:Int)<=5:=z;obtain⟨ae,F⟩:∃ae,ae=Z k:=⟨_,rfl⟩;have C:=L.out k;rw[←F]at C;have sa:=ayQ ae C.1 C.2;have zM:ae=min (M k) m+1:=by rw[F,T.out]
   have acz:=G F;have aK:min (M k:Int) (m:Int)+1=(ae:Int):=z;clear F zM
   go_wp2;have kF:Below wr.heap.size wr wr.drew:=(bi _ _).drew;refine yJ (S:=(fun W=>W.cell? ⟨w.heap.size,3,none⟩=some (.slice (some ⟨bJ,eB,none⟩) S.aB.length aV)/\W.cell? ⟨bJ,eB+k*3+2,none⟩=some (.int .i64 (M k)))) au ⟨bR,sT⟩ (fun ws=>?_);refine b8 0 21 ?_;refine b8 1 22 ?_;refine b8 2 23 ?_;refine b8 3 24 ?_;refine b8 5 26 ?_;refine b8 6 27 ?_;refine b8 7 28 ?_;refine b8 8 29 ?_;refine b8 9 30 ?_;refine b8 10 31 ?_;refine b8 11 32 ?_;refine b8 12 33 ?_;have m6:IntKind.i64.wrap (min (M k:Int) (m:Int)+1)=(ae:Int):=by rw[aK];exact oQ _ ⟨z,z⟩
   refine b8 13 34 ?_;have aD:IntKind.i64.wrap (ae:Int)=ae:=oQ _ ⟨z,z⟩;try rw[m6]
   try rw[aD]
   have aca:∀N,N=wr.heap.size+1->((wr.drew.alloc (.cells (Array.replicate ae (.slice none 0 0)) 23)).alloc (.cells #[.slice (some ⟨wr.heap.size,0,none⟩) ae ae] 151)).heap[N]? =some (Obj.cells #[.slice (some ⟨wr.heap.size,0,none⟩) ae ae] 151 (0,0)):=fun N fq=>by have:=da (wr.drew.alloc (.cells (Array.replicate ae (.slice none 0 0)) 23)) (.cells #[.slice (some ⟨wr.heap.size,0,none⟩) ae ae] 151);rw[jC]at this;rw[fq];exact this
   refine HM (rs:=[4,14]) au am ?_;refine yH (o:=_) rfl (fun b0 cC=>?_) (yH (o:=_) rfl (fun b0 cC=>?_) HJ)
   ·go_simp;refine cC.out _ _ ⟨bR,sT⟩ (fun jM=>?_);clear cC b0;refine gH ?_;refine n4 14 (fun b0 cC=>?_);go_simp;have cr:=kF.alloc (aZ _) (.cells (Array.replicate ae (.slice none 0 0)) 23);exact ajw
   ·go_simp;have cr:=kF.alloc (aZ _) (.cells (Array.replicate ae (.slice none 0 0)) 23);refine cC.out _ _ ⟨(cr.cell AI).trans bR,(cr.cell GN).trans sT⟩ (fun jM=>?_);clear cC b0;refine gH ?_;refine HM (rs:=[4,15]) au am ?_;refine yH (o:=_) rfl (fun b0 cC=>?_) (yH (o:=_) rfl (fun b0 cC=>?_) HJ)
    ·go_simp;exact ajw
    ·go_simp;have eT:=cr.alloc cr.size (.cells #[.slice (some ⟨wr.heap.size,0,none⟩) ae ae] 151);refine cC.out _ _ ⟨(eT.cell AI).trans bR,(eT.cell GN).trans sT⟩ (fun jM=>?_);clear cC b0;refine gH ?_;refine n4 4 (fun b0 cC=>?_);go_simp;exact ai_
  ·obtain rfl:k=S.aB.length:=z;have aE:=cd;obtain⟨cp,aW,bb,-,dF,dZ⟩:=fZ cd.g
   go_wp2_with (go_at_call 175;refine(gW.out _ cd.b).mono ?_;rintro e di ⟨⟨eA,f,rfl,tZ,Km⟩,B⟩);have AJ:=cd.U B;have ab:=hU.U B;have K:k9 (w.heap.size+2) di v S.aB.length Z bT (fun _ _=>.slice none 0 0) (fI rs Z f 0):=dC.U B;have Ky:w.heap.size+2<=di.heap.size:=db jb B.size;obtain⟨cF,g6,rfl,GC,_,_,_⟩:=K.QQ s8;clear cd aE hU dC cp aW bb bR dF dZ fk AI n1 B jb gW;go_loopw [8] (fun i wr=>∃(n:Nat) (E:Nat->Nat->Value),1<=n/\n<=m+1/\i=.int .i64 n/\w.heap.size+2<=wr.heap.size/\hw w (eh S rs ca (some ⟨bJ,eB,none⟩) cc aV rb aC rc) wr/\kd wr (w.heap.size+1) 235 #[.string S.bo,.int .i64 S.cZ,.slice ca S.bs.length cc,.slice (some ⟨bJ,eB,none⟩) S.aB.length aV,.slice (some ⟨rb,aC,none⟩) rs.length rc,.int .i64 S.aj,.slice (some ⟨cF,0,none⟩) S.aB.length g6]/\mw wr eA S.aB.length f/\k9 (w.heap.size+2) wr (.slice (some ⟨cF,0,none⟩) S.aB.length g6) S.aB.length Z bT E (fI rs Z f (n-1))) (fun i _=>m+1-(RowKit.intOf i).toNat);case atStart=>exact⟨1,_,z,z,rfl,Ky,AJ,ab,tZ,K⟩
   case round=>
    clear tZ AJ ab K Ky;obtain⟨n,E,sb,oB,rfl,jb,cd,hU,tZ,dC⟩:=hrel;by_cases dx:n<=m
    ·have li:(n:Int)<=(m:Int):=z;have av:k9 (w.heap.size+2) wr (.slice (some ⟨cF,0,none⟩) S.aB.length g6) S.aB.length Z bT E (part rs Z f (n-1) 0):=dC.congr fun s i=>(aAo rs Z f (n-1) s i).symm
     go_wp2;go_loopw [9] (fun i wr=>∃(k:Nat) (E:Nat->Nat->Value),k<=rs.length/\i=.int .i64 k/\w.heap.size+2<=wr.heap.size/\hw w (eh S rs ca (some ⟨bJ,eB,none⟩) cc aV rb aC rc) wr/\kd wr (w.heap.size+1) 235 #[.string S.bo,.int .i64 S.cZ,.slice ca S.bs.length cc,.slice (some ⟨bJ,eB,none⟩) S.aB.length aV,.slice (some ⟨rb,aC,none⟩) rs.length rc,.int .i64 S.aj,.slice (some ⟨cF,0,none⟩) S.aB.length g6]/\mw wr eA S.aB.length f/\k9 (w.heap.size+2) wr (.slice (some ⟨cF,0,none⟩) S.aB.length g6) S.aB.length Z bT E (part rs Z f (n-1) k)) (fun i _=>rs.length-(RowKit.intOf i).toNat);case atStart=>exact⟨0,E,dq _,rfl,jb,cd,hU,tZ,av⟩
     case round=>
      clear tZ cd hU dC av jb;obtain⟨k,E,ay,rfl,jb,cd,hU,tZ,dC⟩:=hrel;have dF:=aS 4 cd.g;have zT:=cX cd.g;have fk:=aS 6 hU;have n1:=cX hU;by_cases aq:k<rs.length
      ·obtain⟨tg,Hp,cw,Q,kj⟩:=mS.out;cases cw;obtain⟨D,ac,Y⟩:=kj k aq;have jO:=aF.out.2 k aq D ac Y.c3;have fV:=(cd.b.cell Q).trans Y.br;have ep:=(cd.b.cell Q).trans Y.c3;have ij:=G (Y.args.U (cd.b));obtain⟨b7,nT,xP,_,_⟩:=SB.out _ (fM aq);have mj:(0:Int)<=(k:Int):=z;have lj:(k:Int)<rs.length:=z;have n0:(0:Int)<=(rs[k].h:Int):=z;have zR:(rs[k].h:Int)<(S.aB.length:Int):=z;have x':(0:Int)<=(n:Int):=z;have JH:=tZ.cell b7;obtain⟨G4,W9,cw,_,KS,_,i1⟩:=dC.QQ s8;cases cw;have cl:=i1 _ b7;have KG:=Km.le rs[k].h;have C:=L.out rs[k].h;have Eb:(Z rs[k].h:Int)<=6:=z;have PQ:(f rs[k].h:Int)<=5:=z;clear kj Y;by_cases aa:n<Z rs[k].h/\n<=f rs[k].h
       ·obtain⟨jP,nv⟩:=aa;have ak:(n:Int)<(Z rs[k].h:Int):=z;have aJ:(n:Int)<=(f rs[k].h:Int):=z;go_upto_region 15 with fail
        have aI:n-1+1=n:=z;have ao:=aAm (rs:=rs) (M:=M) (Z:=Z) (need:=f) (fun s=>by rw[T.out];dsimp only;omega) (n-1) k;have Kt:FF wr (w.heap.size+1) S.aB.length Z (part rs Z f (n-1) k):=(dC.amQ s8).md fk n1;obtain⟨rp,R⟩:∃rp,kl (part rs Z f (n-1) k) Z [(k:Int)] rs[k].args (n-1)=rp:=⟨_,rfl⟩;have p_:=G (fun W (y:Below wr.heap.size wr W) (dd:oZ W (some ⟨wr.heap.size,0,none⟩) [(k:Int)])=>show Calls prog 176 #[.pointer (some ⟨w.heap.size+1,0,none⟩),.slice (some ⟨wr.heap.size,0,none⟩) 1 1,.slice D rs[k].args.length ac,.int .i64 ((n:Int)-1)] W fun e w'=>S3 rp e w'/\Below W.heap.size W w' from by
         have:=aBq (w.heap.size+1) S.aB.length Z (part rs Z f (n-1) k) wr Kt (ak3 xG (n-1) k z) (fun a=>(L.out a).2) (fun a i q az=>by
          have P:=ao a i q az
          have H:=P.len
          have I:=P.pos
          have af:=P.le
          have aM:=(k3.out a).2
          omega) rs[k].args xP nT [(k:Int)] (n-1) 1 ac (some ⟨wr.heap.size,0,none⟩) D W y dd am bu am (ij.out.U y) jO z
         rw[R,show((n-1:Nat):Int)=(n:Int)-1 by omega]at this
         exact this)
        have l:=aAp rs Z f (n-1) k aq;rw[aI,R]at l;have l:=l jP nv;have dh:(part rs Z f (n-1) k rs[k].h n).length+rp.length<=61917364224:=by have H:=ak3 (rs:=rs) (Z:=Z) (need:=f) xG (n-1) (k+1) z rs[k].h n;rw[←l,EQ,ie]at H;have I:(144:Nat)^n<=144^5:=ks z z;exact db H I
        have apc:=G l;obtain⟨VL,aq4,l0,aL,VI⟩:=dC.aU _ b7;have JC:=lb l0 (VI n jP);have Lt:=cX l0;obtain⟨vt,vk,jT,ir,i0⟩:=jt Li;have cz:(n:Int)<=5:=z;have gs:(1:Int)<=(n:Int):=z;have aN:IntKind.i64.wrap ((n:Int)-1)=(n:Int)-1:=oQ _ ⟨z,z⟩;have GL:rb<wr.heap.size:=cE cd.b Q;clear l Kt ao R;have kF:Below wr.heap.size wr wr.drew:=(bi _ _).drew;refine yJ (S:=(fun W=>W.cell? ⟨w.heap.size+1,6,none⟩=some (.slice (some ⟨cF,0,none⟩) S.aB.length g6)/\W.cell? ⟨cF,rs[k].h,none⟩=some (.slice (some ⟨bT rs[k].h,0,none⟩) (Z rs[k].h) (Z rs[k].h))/\W.cell? ⟨w.heap.size,4,none⟩=some (.slice (some ⟨rb,aC,none⟩) rs.length rc)/\W.cell? ⟨rb,aC+k*4+3,none⟩=some (.slice D rs[k].args.length ac))) au ⟨fk,cl,dF,ep⟩ (fun ws=>?_);refine b8 0 78 ?_;refine b8 1 79 ?_;refine b8 2 80 ?_;refine b8 3 81 ?_;refine b8 4 82 ?_;refine b8 5 83 ?_;refine b8 6 84 ?_;refine b8 7 85 ?_;refine b8 8 86 ?_;refine b8 9 87 ?_;refine b8 10 88 ?_;refine b8 11 89 ?_;refine b8 12 90 ?_;refine b8 13 91 ?_;refine b8 14 92 ?_;refine b8 15 93 ?_;refine b8 16 94 ?_;refine b8 18 96 ?_;refine b8 19 97 ?_;refine b8 21 99 ?_;refine b8 22 100 ?_;refine b8 23 101 ?_;refine b8 24 102 ?_;refine b8 25 103 ?_;refine b8 26 104 ?_;refine b8 27 105 ?_;refine b8 28 106 ?_;refine HM (rs:=[17,20]) au am ?_;refine yH (o:=_) rfl (fun b0 cC=>?_) (yH (o:=_) rfl (fun b0 cC=>?_) HJ)
        ·go_simp;refine cC.out _ _ ⟨fk,cl,dF,ep⟩ (fun jM=>?_);clear cC b0;refine gH ?_;refine n4 20 (fun b0 cC=>?_);go_simp;have cr:=kF.alloc (aZ _) (.cells #[.int .i64 k] 3);have Sw:oZ (wr.drew.alloc (.cells #[.int .i64 k] 3)) (some ⟨wr.heap.size,0,none⟩) [(k:Int)]:=fun _=>⟨wr.heap.size,0,_,_,rfl,da wr.drew _,fun i hi=>by
          have:i=0:=by simp at hi;omega
          subst this;rfl⟩
         have aG:(wr.drew.alloc (.cells #[.int .i64 k] 3)).cell? ⟨bT rs[k].h,n,none⟩=_:=(cr.cell Lt).trans JC;exact ajd
        ·go_simp;have cr:=kF.alloc (aZ _) (.cells #[.int .i64 k] 3);have Sw:oZ (wr.drew.alloc (.cells #[.int .i64 k] 3)) (some ⟨wr.heap.size,0,none⟩) [(k:Int)]:=fun _=>⟨wr.heap.size,0,_,_,rfl,da wr.drew _,fun i hi=>by
          have:i=0:=by simp at hi;omega
          subst this;rfl⟩
         have aG:(wr.drew.alloc (.cells #[.int .i64 k] 3)).cell? ⟨bT rs[k].h,n,none⟩=_:=(cr.cell Lt).trans JC;refine cC.out _ _ ⟨(cr.cell n1).trans fk,(cr.cell KS).trans cl,(cr.cell zT).trans dF,(cr.cell GL).trans ep⟩ (fun jM=>?_);clear cC b0;refine gH ?_;refine HM (rs:=[17,29]) au am ?_;refine yH (o:=_) rfl (fun b0 cC=>?_) (yH (o:=_) rfl (fun b0 cC=>?_) HJ)
         ·go_simp;exact ajd
         ·go_simp;go_at_call 176;refine(p_.out _ cr Sw).mono ?_;rintro e w7 ⟨⟨B4,Hs,rfl,K7,ug,kj⟩,ip⟩;have gb:=b_ cr ip;have ad2:=aA gb Lt JC;refine cC.out _ _ ⟨(gb.cell n1).trans fk,(gb.cell KS).trans cl,(gb.cell zT).trans dF,(gb.cell GL).trans ep⟩ (fun jM=>?_);clear cC b0;refine gH ?_;refine n4 17 (fun b0 cC=>?_);go_simp;exact ajb
       ·have Ks:k9 (w.heap.size+2) wr (.slice (some ⟨cF,0,none⟩) S.aB.length g6) S.aB.length Z bT E (part rs Z f (n-1) (k+1)):=dC.congr (aAn rs Z f (n-1) k aq (by rw[show n-1+1=n by omega];exact aa));by_cases jP:n<Z rs[k].h
        ·have ak:(n:Int)<(Z rs[k].h:Int):=z;have aJ:¬(n:Int)<=(f rs[k].h:Int):=z;have bv:decide ((n:Int)<=(f rs[k].h:Int))=false:=bu;have cT:¬n<=f rs[k].h:=z;exact ajt
        ·have ak:¬(n:Int)<(Z rs[k].h:Int):=z;exact ajt
      ·obtain rfl:k=rs.length:=z;have Ks:k9 (w.heap.size+2) wr (.slice (some ⟨cF,0,none⟩) S.aB.length g6) S.aB.length Z bT E (fI rs Z f (n+1-1)):=dC.congr fun s i=>by rw[aAl rs Z f (n-1) s i,show n-1+1=n+1-1 by omega]
       clear dC
       go_wp2;go_roundw;case rel=>first|exact⟨n+1,E,z,z,bM,jb,cd,hU,tZ,Ks⟩|((repeat apply Exists.intro);refine⟨?_,rfl⟩;exact⟨n+1,E,z,z,bM,jb,cd,hU,tZ,Ks⟩)
       case measure=>simp[RowKit.intOf];omega
    ·obtain rfl:n=m+1:=z;rw[MZ]at dC;have li:¬((m+1:Nat):Int)<=(m:Int):=z;have fk:=aS 6 hU;have n1:=cX hU;have ag:=G (dC.amQ s8);clear dC
     go_wp2;go_ret;rw[T.out]at ag;exact⟨⟨_,f,rfl,ag.out,Km⟩,cd.b⟩
end
end Go.bj
namespace Go.bj
open Go Go.Proofs Go.RowKit Go.c0
section
variable {S:cO} {M:Nat->Nat} {rs:List bA} {ca bd:Option Addr} {cc aV rb aC rc:Nat} {w:World}
theorem oX.op(h:oX S M rs ca bd cc aV rb aC rc w):∀r∈rs,r.op.size<=20:=fun r a=>(h.Qd.c8 r (h.sub.subset a)).op.hi
end
end Go.bj
namespace Go.bj
open Go Go.Proofs.Tryz Go.Proofs Go.RowKit Go.c0
attribute [local irreducible] wpAnyH in
theorem aCJ(T:List Int->Prop)(dC:∀p,T p->p.length<=100):∀(N n:Nat) (va:Option Addr) (cq:Nat) (w:World),n<=N->n<=1000000000000->n<=cq->wa T w va n-> Calls prog 92 #[.slice va n cq] w fun e w'=>ap3 T n e w'/\Below w.heap.size w w':=by
 intro N;induction N with
 |zero=>
  intro n va cq w dG A ab eY;obtain rfl:n=0:=z;have iO:=G eY;clear eY;go_enter func92,ntmps92
  go_wp2;go_ret;exact⟨⟨_,_,rfl,ab,iO.out⟩,bi _ _⟩
 |succ N px=>
  intro n va cq w dG A ab eY;have iO:=G eY;by_cases I:n<2
  ·have eg:(n:Int)<2:=z;have ak:decide ((n:Int)<2)=true:=bu;clear eY px;go_enter func92,ntmps92
   go_wp2;go_ret;exact⟨⟨_,_,rfl,ab,iO.out⟩,bi _ _⟩
  ·have eg:¬(n:Int)<2:=z;have ak:decide ((n:Int)<2)=false:=bu;obtain⟨h,b7⟩:∃h,h=n/2:=⟨_,rfl⟩;have sd:(n:Int).tdiv 2=(h:Int):=by rw[HN z];omega
   have az:wrap64 ((n:Int).tdiv 2)=(h:Int):=by rw[sd];exact MN _ ⟨z,z⟩
   have Bt:1<=h/\h<n:=z;have ex:(0:Int)<=(h:Int):=z;have g4:(h:Int)<=(n:Int):=z;have gx:(h:Int)<=(cq:Int):=z;have i3:(n:Int)<=(cq:Int):=z;have mI:¬cq=h:=z;obtain⟨oO,qH,rfl,GS,zI⟩:=eY z;have ae:=G (fun W (X:Below w.heap.size w W)=>px h (some ⟨oO,qH,none⟩) cq W z z z (wa.U (va:=some ⟨oO,qH,none⟩) (fun _=>⟨oO,qH,rfl,GS,fun i hi=>zI i z⟩) X));have ad:=G (fun W (X:Below w.heap.size w W)=>px (n-h) (some ⟨oO,qH+h,none⟩) (cq-h) W z z z (wa.U (va:=some ⟨oO,qH+h,none⟩) (fun _=>⟨oO,qH+h,rfl,GS,fun i hi=>by rw[kr];exact zI (h+i) z⟩) X));clear zI px eY iO b7;go_enter func92,ntmps92;go_upto_region 5 with(first
    |(have _:=aO;go_at_call 92;refine(ad.out _ aO).mono ?_;rintro e b ⟨⟨ra,rc,rfl,kj,dV⟩,bm⟩)
    |(go_at_call 92;refine(ae.out _ (bi _ _)).mono ?_;rintro e ap ⟨⟨fs,g6,rfl,qo,dd⟩,aO⟩))
   have lu:=b_ aO bm;have es:=G (fun W (X:Below b.heap.size b W)=>(dd.U bm).U X);have ah:=G (fun W (X:Below b.heap.size b W)=>dV.U X);clear dd dV aO bm ae ad;obtain⟨vt,vk,i',iF,iX⟩:=jt Li
   go_wp2;go_loopw [5,6,7] (fun v WZ Ll wr=>∃(i j:Nat) (f:List Value),i<=h/\j<=n-h/\WZ=.int .i64 i/\Ll=.int .i64 j/\Hid (f.length=i+j)/\Below b.heap.size b wr/\Hid (wr.ownsRow b.heap.size 22 1 v (i+j) f)/\Hid (∀y∈f,l' T b y)) (fun _ WZ Ll _=>n-((RowKit.intOf WZ).toNat+(RowKit.intOf Ll).toNat));case atStart=>exact⟨0,0,[],dq _,dq _,rfl,rfl,G rfl,bi _ _,G (mo _ _ _ _),G am⟩
   case round=>
    obtain⟨i,j,f,hi,aa,rfl,rfl,II,bc,fX,pw⟩:=hrel;have ce:(0:Int)<=(i:Int):=z;have eb:(0:Int)<=(j:Int):=z;have eV:((n-h:Nat):Int)=(n:Int)-(h:Int):=z;have kG:=b_ lu bc;by_cases GB:j=n-h
    ·by_cases ay:i<h
     ·have g2:(i:Int)<h:=z;have hg:((j:Int)==((n-h:Nat):Int))=true:=by rw[GB];simp
      have q6:decide ((i:Int)<h)=true:=bu
      go_wp2;refine yJ (S:=(fun _=>True)) au h5 (fun ws=>?_);refine b8 0 34 ?_;refine b8 1 35 ?_;refine b8 2 36 ?_;refine b8 3 37 ?_;refine b8 4 38 ?_;refine lO 5 39 ?_;refine lO 6 40 ?_;refine lO 7 41 ?_;refine lO 8 42 ?_;refine lO 9 43 ?_;refine lO 10 44 ?_;refine lO 11 45 ?_;refine lO 12 46 ?_;refine lO 13 47 ?_;refine lO 14 48 ?_;refine lO 15 49 ?_;refine lO 16 50 ?_;refine lO 17 51 ?_;refine lO 18 52 ?_;refine lO 19 53 ?_;refine lO 20 54 ?_;refine b8 21 55 ?_;refine As au ?_ _;have l:=bc.drew;have Z:Hid (wr.drew.ownsRow b.heap.size 22 1 _ (i+j) f):=fX;generalize wr.drew=m at*;obtain⟨bJ,eB,sg,jV,kk⟩:=es.out _ (bi _ _) z;cases sg;obtain⟨y,aR,vr⟩:=kk i z;obtain⟨s,u,q,rfl,Wr,Wp⟩:=vr;have DJ:l' T b (.slice s q.length u):=⟨s,u,q,rfl,Wr,Wp⟩;have ou:=aA l jV aR;have Xi:bJ<m.heap.size:=cE l jV;have x:=l.alloc l.size (.cells #[.slice s q.length u] 22);clear kk aR
      go_wp2_with (at_builtin;refine lP _ rfl _ _ 23 rfl b.heap.size 22 vt _ 1 24 underlying23 vk i' iF iX rfl ai _ (i+j) f rfl (Z.out.alloc _) ⟨m.heap.size,0,none⟩ 1 1 [.slice s q.length u] rfl rfl (sy (cs:=#[.slice s q.length u]) (t:=22) (fr:=(0,0)) (p1 m _)) (by simp[Value.oneCell']) (by unfold maxLen;omega) z x.size ?_;intro h4 J K L _);have M:Below b.heap.size b J:=x.grown L x.size (fun g al=>by
       rcases vI g b.heap.size with O|O
       ·exact absurd al.symm (wV Z.out O)
       ·exact O)
      have U:Hid (J.ownsRow b.heap.size 22 1 h4 (i+1+(j)) (f++[Value.slice s q.length u])):=G (by rw[show i+1+(j)=i+j+1 by omega];exact K);have Q:Hid (∀y∈f++[Value.slice s q.length u],l' T b y):=G fun y aR=>by
       rcases nJ.1 aR with aR|aR
       ·exact pw.out y aR
       ·simp at aR;subst aR;exact DJ
      have R:Hid ((f++[Value.slice s q.length u]).length=i+1+(j)):=G (by rw[ie,II.out];simp;omega);clear K L;go_roundw;case rel=>first|exact⟨i+1,j,_,z,z,ih (Value.int .i64) z,ih (Value.int .i64) z,R,M,U,Q⟩|((repeat apply Exists.intro);refine⟨?_,rfl⟩;exact⟨i+1,j,_,z,z,congrArg (Value.int .i64) z,congrArg (Value.int .i64) z,R,M,U,Q⟩)
      case measure=>simp[RowKit.intOf];omega
     ·have aW:¬(i:Int)<h:=z;have bb:decide ((i:Int)<h)=false:=bu;have bR:¬(j:Int)<((n-h:Nat):Int):=z;have dF:decide ((j:Int)<((n-h:Nat):Int))=false:=bu
      go_wp2;go_ret;obtain⟨e8,kn,rfl,aE,ax⟩:=aAF (T:=T) fX.out z II.out (fun y aR=>(pw.out y aR).U bc);rw[show i+j=n by omega]at*;exact⟨⟨e8,kn,rfl,aE,ax⟩,kG⟩
    ·by_cases ay:i<h
     ·have u':(j:Int)<((n-h:Nat):Int):=z;have f5:(j:Int)<(n:Int)-(h:Int):=z;have Dt:((j:Int)==((n-h:Nat):Int))=false:=by rw[l8];omega
      have f7:((j:Int)==(n:Int)-(h:Int))=false:=by rw[l8];omega
      have g2:(i:Int)<h:=z;have q6:decide ((i:Int)<h)=true:=bu;obtain⟨cF,ee,re,kx,aj⟩:=es.out _ (bi _ _) z;cases re;obtain⟨dk,Lc,aB⟩:=aj i z;obtain⟨D,E,B,rfl,ir,Wk⟩:=aB;obtain⟨rb,aC,j_,h0,an⟩:=ah.out _ (bi _ _) z;cases j_;obtain⟨dB,Ld,aD⟩:=an j z;obtain⟨F,H,C,rfl,i0,Wl⟩:=aD;have kF:=bc.drew;have cl:wr.drew.cell? ⟨cF,ee+i,none⟩=some (.slice D B.length E):=(kF.cell kx).trans Lc;have xA:wr.drew.cell? ⟨rb,aC+j,none⟩=some (.slice F C.length H):=(kF.cell h0).trans Ld;have aq:=G (fun W (X:Below b.heap.size b W)=>axU F D H E C B W (i0.U X).md (ir.U X).md (dC _ Wl) (dC _ Wk));have af:=G Lc;have av:Hid (l' T b (.slice D B.length E)):=G ⟨D,E,B,rfl,ir,Wk⟩;have aw:Hid (l' T b (.slice F C.length H)):=G ⟨F,H,C,rfl,i0,Wl⟩;have ag:=G Ld;clear aj an Lc Ld ir i0 Wk Wl
      go_wp2;refine yJ (S:=(fun W=>W.cell? ⟨rb,aC+j,none⟩=some (.slice F C.length H)/\W.cell? ⟨cF,ee+i,none⟩=some (.slice D B.length E))) au ⟨xA,cl⟩ (fun ws=>?_);clear cl xA;refine b8 0 34 ?_;refine b8 1 35 ?_;refine b8 2 36 ?_;refine b8 3 37 ?_;refine b8 4 38 ?_;refine b8 5 39 ?_;refine b8 6 40 ?_;refine b8 7 41 ?_;refine b8 8 42 ?_;refine b8 9 43 ?_;refine b8 10 44 ?_;refine b8 11 45 ?_;refine b8 12 46 ?_;refine b8 13 47 ?_;refine b8 14 48 ?_;refine b8 15 49 ?_;refine b8 16 50 ?_;refine b8 17 51 ?_;refine n4 18 (fun b0 cC=>?_);go_simp;go_at_call 177;refine(aq.out _ kF).mono ?_;rintro e m ⟨⟨r,rfl⟩,bt⟩;have l:Below b.heap.size b m:=b_ kF bt;have Z:Hid (m.ownsRow b.heap.size 22 1 _ (i+j) f):=G (ye (show wr.drew.ownsRow _ _ _ _ _ _ from fX.out) bt);refine cC.out _ _ ⟨(l.cell h0).trans ag.out,(l.cell kx).trans af.out⟩ (fun jM=>?_);clear cC b0 ws;refine gH ?_;cases r
      ·refine b8 19 53 ?_;refine b8 20 54 ?_;refine b8 21 55 ?_;refine As au ?_ _;have DJ:l' T b (.slice D B.length E):=av.out;have ou:m.cell? ⟨cF,ee+i,none⟩=some (.slice D B.length E):=(l.cell kx).trans af.out;have Xi:cF<m.heap.size:=cE l kx;clear jM;have x:=l.alloc l.size (.cells #[.slice D B.length E] 22)
       go_wp2_with (at_builtin;refine lP _ rfl _ _ 23 rfl b.heap.size 22 vt _ 1 24 underlying23 vk i' iF iX rfl ai _ (i+j) f rfl (Z.out.alloc _) ⟨m.heap.size,0,none⟩ 1 1 [.slice D B.length E] rfl rfl (sy (cs:=#[.slice D B.length E]) (t:=22) (fr:=(0,0)) (p1 m _)) (by simp[Value.oneCell']) (by unfold maxLen;omega) z x.size ?_;intro h4 J K L _);have M:Below b.heap.size b J:=x.grown L x.size (fun g al=>by
        rcases vI g b.heap.size with O|O
        ·exact absurd al.symm (wV Z.out O)
        ·exact O)
       have U:Hid (J.ownsRow b.heap.size 22 1 h4 (i+1+(j)) (f++[Value.slice D B.length E])):=G (by rw[show i+1+(j)=i+j+1 by omega];exact K);have Q:Hid (∀y∈f++[Value.slice D B.length E],l' T b y):=G fun y aR=>by
        rcases nJ.1 aR with aR|aR
        ·exact pw.out y aR
        ·simp at aR;subst aR;exact DJ
       have R:Hid ((f++[Value.slice D B.length E]).length=i+1+(j)):=G (by rw[ie,II.out];simp;omega);clear K L;go_roundw;case rel=>first|exact⟨i+1,j,_,z,z,ih (Value.int .i64) z,ih (Value.int .i64) z,R,M,U,Q⟩|((repeat apply Exists.intro);refine⟨?_,rfl⟩;exact⟨i+1,j,_,z,z,congrArg (Value.int .i64) z,congrArg (Value.int .i64) z,R,M,U,Q⟩)
       case measure=>simp[RowKit.intOf];omega
      ·refine b8 19 53 ?_;refine b8 20 54 ?_;refine b8 21 55 ?_;refine As au ?_ _;have DJ:l' T b (.slice F C.length H):=aw.out;have ou:m.cell? ⟨rb,aC+j,none⟩=some (.slice F C.length H):=(l.cell h0).trans ag.out;have Xi:rb<m.heap.size:=cE l h0;clear jM;have x:=l.alloc l.size (.cells #[.slice F C.length H] 22)
       go_wp2_with (at_builtin;refine lP _ rfl _ _ 23 rfl b.heap.size 22 vt _ 1 24 underlying23 vk i' iF iX rfl ai _ (i+j) f rfl (Z.out.alloc _) ⟨m.heap.size,0,none⟩ 1 1 [.slice F C.length H] rfl rfl (sy (cs:=#[.slice F C.length H]) (t:=22) (fr:=(0,0)) (p1 m _)) (by simp[Value.oneCell']) (by unfold maxLen;omega) z x.size ?_;intro h4 J K L _);have M:Below b.heap.size b J:=x.grown L x.size (fun g al=>by
        rcases vI g b.heap.size with O|O
        ·exact absurd al.symm (wV Z.out O)
        ·exact O)
       have U:Hid (J.ownsRow b.heap.size 22 1 h4 (i+(j+1)) (f++[Value.slice F C.length H])):=G (by rw[show i+(j+1)=i+j+1 by omega];exact K);have Q:Hid (∀y∈f++[Value.slice F C.length H],l' T b y):=G fun y aR=>by
        rcases nJ.1 aR with aR|aR
        ·exact pw.out y aR
        ·simp at aR;subst aR;exact DJ
       have R:Hid ((f++[Value.slice F C.length H]).length=i+(j+1)):=G (by rw[ie,II.out];simp;omega);clear K L;go_roundw;case rel=>first|exact⟨i,j+1,_,z,z,ih (Value.int .i64) z,ih (Value.int .i64) z,R,M,U,Q⟩|((repeat apply Exists.intro);refine⟨?_,rfl⟩;exact⟨i,j+1,_,z,z,congrArg (Value.int .i64) z,congrArg (Value.int .i64) z,R,M,U,Q⟩)
       case measure=>simp[RowKit.intOf];omega
     ·have u':(j:Int)<((n-h:Nat):Int):=z;have f5:(j:Int)<(n:Int)-(h:Int):=z;have Dt:((j:Int)==((n-h:Nat):Int))=false:=by rw[l8];omega
      have f7:((j:Int)==(n:Int)-(h:Int))=false:=by rw[l8];omega
      have aW:¬(i:Int)<h:=z;have bb:decide ((i:Int)<h)=false:=bu
      go_wp2;refine yJ (S:=(fun _=>True)) au h5 (fun ws=>?_);refine b8 0 34 ?_;refine b8 1 35 ?_;refine b8 2 36 ?_;refine b8 3 37 ?_;refine b8 4 38 ?_;refine b8 5 39 ?_;refine b8 6 40 ?_;refine b8 7 41 ?_;refine b8 8 42 ?_;refine b8 9 43 ?_;refine lO 10 44 ?_;refine lO 11 45 ?_;refine lO 12 46 ?_;refine lO 13 47 ?_;refine lO 14 48 ?_;refine lO 15 49 ?_;refine lO 16 50 ?_;refine lO 17 51 ?_;refine lO 18 52 ?_;refine lO 19 53 ?_;refine b8 20 54 ?_;refine b8 21 55 ?_;refine As au ?_ _;have l:=bc.drew;have Z:Hid (wr.drew.ownsRow b.heap.size 22 1 _ (i+j) f):=fX;generalize wr.drew=m at*;obtain⟨bJ,eB,sg,jV,kk⟩:=ah.out _ (bi _ _) z;cases sg;obtain⟨y,aR,vr⟩:=kk j z;obtain⟨s,u,q,rfl,Wr,Wp⟩:=vr;have DJ:l' T b (.slice s q.length u):=⟨s,u,q,rfl,Wr,Wp⟩;have ou:=aA l jV aR;have Xi:bJ<m.heap.size:=cE l jV;have x:=l.alloc l.size (.cells #[.slice s q.length u] 22);clear kk aR
      go_wp2_with (at_builtin;refine lP _ rfl _ _ 23 rfl b.heap.size 22 vt _ 1 24 underlying23 vk i' iF iX rfl ai _ (i+j) f rfl (Z.out.alloc _) ⟨m.heap.size,0,none⟩ 1 1 [.slice s q.length u] rfl rfl (sy (cs:=#[.slice s q.length u]) (t:=22) (fr:=(0,0)) (p1 m _)) (by simp[Value.oneCell']) (by unfold maxLen;omega) z x.size ?_;intro h4 J K L _);have M:Below b.heap.size b J:=x.grown L x.size (fun g al=>by
       rcases vI g b.heap.size with O|O
       ·exact absurd al.symm (wV Z.out O)
       ·exact O)
      have U:Hid (J.ownsRow b.heap.size 22 1 h4 (i+(j+1)) (f++[Value.slice s q.length u])):=G (by rw[show i+(j+1)=i+j+1 by omega];exact K);have Q:Hid (∀y∈f++[Value.slice s q.length u],l' T b y):=G fun y aR=>by
       rcases nJ.1 aR with aR|aR
       ·exact pw.out y aR
       ·simp at aR;subst aR;exact DJ
      have R:Hid ((f++[Value.slice s q.length u]).length=i+(j+1)):=G (by rw[ie,II.out];simp;omega);clear K L;go_roundw;case rel=>first|exact⟨i,j+1,_,z,z,ih (Value.int .i64) z,ih (Value.int .i64) z,R,M,U,Q⟩|((repeat apply Exists.intro);refine⟨?_,rfl⟩;exact⟨i,j+1,_,z,z,congrArg (Value.int .i64) z,congrArg (Value.int .i64) z,R,M,U,Q⟩)
      case measure=>simp[RowKit.intOf];omega
theorem l'.kept{T:List Int->Prop}{w w':World}{v:Value}(h:l' T w v)(a:vT w w'):l' T w' v:=by
 obtain⟨b,c,q,e,H,I⟩:=h;exact⟨b,c,q,e,H.kept a,I⟩
theorem l'.Ep{T:List Int->Prop}{w:World}{v:Value}(h:l' T w v):v.oneCell'=true:=by
 obtain⟨a,b,q,rfl,_⟩:=h;rfl
theorem wa.e7{T:List Int->Prop}{w:World}{va:Option Addr}{n:Nat}(h:wa T w va n):∃zs:List Value,zs.length=n/\(∀y∈zs,l' T w y)/\((∃ad,va=some ad/\∀(j:Nat) u,zs[j]? =some u->w.cell? (ad.add j)=some u)∨(va=none/\n=0)):=by
 by_cases ab:0<n
 ·obtain⟨b,o,e,f,c⟩:=h ab;have key:∀i,i<n->w.cell? ⟨b,o+i,none⟩=some ((w.cell? ⟨b,o+i,none⟩).getD undef)/\l' T w ((w.cell? ⟨b,o+i,none⟩).getD undef):=fun i hi=>by obtain⟨v,H,I⟩:=c i hi;rw[H];exact⟨rfl,I⟩
  refine⟨(List.range n).map fun i=>(w.cell? ⟨b,o+i,none⟩).getD undef,am,fun y a=>?_,.inl ⟨_,e,fun j u hu=>?_⟩⟩
  ·obtain⟨i,hi,rfl⟩:=yQ.1 a;exact(key i (ts.1 hi)).2
  ·rw[pn]at hu;obtain⟨i,hi,rfl⟩:=ig.1 hu;obtain⟨aq,rfl⟩:=j2.1 hi;rw[abb]at aq;rw[List.getElem_range];have d:(⟨b,o,none⟩:Addr).add j=⟨b,o+j,none⟩:=by
    unfold Addr.add;split
    ·rename_i eg;subst eg;rfl
    ·rfl
   rw[d];exact(key j aq).1
 ·obtain rfl:n=0:=z;refine⟨[],rfl,fun y a=>(by cases a),?_⟩;cases va with
  |none=>exact .inr ⟨rfl,rfl⟩
  |some ad=>exact .inl ⟨ad,rfl,fun j u hu=>by simp at hu⟩
theorem aC5{rs:List bA}{M:Nat->Nat}{aj:Nat}(g:∀i,1<=M i/\M i<=5)(o:wb rs M aj):∃d,1<=d/\d<=M aj/\∀need,sI M rs aj rs.length need->fI rs (fun s=>min (M s) d+1) need d aj d≠[]:=by
 rcases o with⟨k,b,c,e⟩|⟨I,a,k,j,b,n,c,e,m,l⟩
 ·have H:=g aj;exact⟨1,aZ _,H.1,fun need f=>amS b c e z (by have:=f.ee;omega) 1 (aZ _)⟩
 ·have H:=g a;exact⟨2,z,I,fun need f=>aDl b c e n m l z (by have:=f.ee;omega) z (f.Aj k b b c I a e)⟩
theorem aBw{w:World}{base:Nat}{v:Value}{n:Nat}{l:List Int}(h:w.ownsRow base 3 1 v n (e0 l))(b:l.length=n)(ab:v≠ .slice none 0 0):∃g cap,v=.slice (some ⟨g,0,none⟩) l.length cap/\k5 w (some ⟨g,0,none⟩) l/\l.length<=cap/\cap<=9223372036854775807/\base<=g:=by
 obtain⟨g,cap,ak,H,I,c⟩:=alQ h b ab;refine⟨g,cap,ak,H,I,?_,c⟩;rcases h.2 with⟨a,_⟩|⟨f,i,e,a,_,_,_,d,_⟩
 ·rw[a]at ak;cases ak
 ·rw[a]at ak;cases ak;exact d
theorem Qw{w:World}{base:Nat}{e:TypeId}{size:Nat}{v:Value}{n:Nat}{aK:List Value}(h:w.ownsRow base e size v n aK)(a:0<n):v≠ .slice none 0 0:=fun e=>by
 rcases h.2 with⟨_,ab⟩|⟨_,_,_,ak,_⟩
 ·omega
 ·rw[e]at ak;cases ak
section
variable {S:cO} {M:Nat->Nat} {rs:List bA} {ca bd:Option Addr} {cc aV rb aC rc:Nat} {w:World}
def ap1(base:Nat)(rs:List bA)(M:Nat->Nat)(aj:Nat)(e:Ending)(w':World):Prop:=∃va a n p,e=.returned (.slice va (p:List Int).length a)/\k5 w' va p/\o1 rs M aj n p/\p.length<=a/\a<=9223372036854775807/\∀x,va=some x->base<=x.block
attribute [local irreducible] wpStill wpAnyH in
theorem aAv(h:oX S M rs ca bd cc aV rb aC rc w)(jc:E' w rb aC rs)(xG:rs.length<=9)(bx:wb rs M S.aj)(fj:Int): Calls prog 44 #[.agg (eh S rs ca bd cc aV rb aC rc),.int .i64 fj] w fun e w'=>ap1 w.heap.size rs M S.aj e w'/\Below w.heap.size w w':=by
 have aQ:=hw.eI w (eh S rs ca bd cc aV rb aC rc);have ax:=G (fun W (Q:Below w.heap.size w W) (ae:Nat) (H:1<=ae) (bZ:ae<=5)=>aCj (h.U Q) (jc.U Q) xG ae H bZ);obtain⟨d,O8,a',b5⟩:=aC5 h.oG bx;have y0:=G b5;have s8:=h.ok.vB;have rf:=h.ok.aB;have eE:=h.ok.aj;have k3:=G h.oG;have DC:=h.oG S.aj;obtain⟨bJ,eB,sg,jV,kk⟩:=h.y;have pw:=G (fun W (Q:Below w.heap.size w W) i (hi:i<S.aB.length)=>aA Q jV (kk i hi).2.2);subst sg;obtain⟨-,-,-,bR,-,L⟩:=fZ aQ.g;have sT:=pw.out _ aQ.b _ eE;have g4:(0:Int)<=(S.aj:Int):=z;have gx:(S.aj:Int)<S.aB.length:=z;obtain⟨vt,vk,jT,ir,i0⟩:=jt Li;clear h jc bx b5 kk;go_enter func44,ntmps44
 go_wp2;have ak:w.heap.size+1<=(w.alloc (.cells (eh S rs ca (some ⟨bJ,eB,none⟩) cc aV rb aC rc) 29)).heap.size:=am;go_loopw [6,7] (fun v i wr=>∃(ae len:Nat) (K:List Value),1<=ae/\ae<=M S.aj+1/\i=.int .i64 ae/\w.heap.size+1<=wr.heap.size/\hw w (eh S rs ca (some ⟨bJ,eB,none⟩) cc aV rb aC rc) wr/\Hid (wr.ownsRow (w.heap.size+1) 22 1 v len K)/\Hid (∀y∈K,l' (fun p=>∃n,o1 rs M S.aj n p) wr y)/\len<400/\(d<ae->0<len)) (fun _ i _=>M S.aj+1-(RowKit.intOf i).toNat);case atStart=>exact⟨1,0,[],z,z,rfl,ak,aQ,G (mo _ _ _ _),G (fun y aR=>by cases aR),z,fun h=>z⟩
 case round=>
  clear aQ ak bR L sT;obtain⟨ae,len,K,jg,aX,rfl,jb,R,SC,SN,ba,VT⟩:=hrel;by_cases dx:ae<=M S.aj
  ·have li:(ae:Int)<=(M S.aj:Int):=z;obtain⟨cp,aW,bb,bR,dF,L⟩:=fZ R.g;have ab:=G (ax.out _ R.b ae jg z);go_upto_region 7 with(go_at_call 91;refine ab.out.mono ?_;rintro e ao ⟨⟨be,need,rfl,aE,Km⟩,bm⟩)
   have qO:=R.U bm;have SD:=G (ye SC.out bm);have ad:=G (fun y aR=>(SN.out y aR).U bm);have aI:=db jb bm.size;clear R SC SN jb bm cp aW bb bR dF L ab;obtain⟨cF,g6,bT,rfl,kx,⟨bf,aT,aG⟩,an⟩:=aE;obtain⟨m4,⟨aU,aP,aF⟩,cl,Vw⟩:=an S.aj eE;try dsimp only at cl Vw
   obtain⟨va,cq,T,eY,Wa⟩:=Vw ae z;rw[show min (M S.aj) ae+1=ae+1 by omega]at cl;have uj:=Mq (rs:=rs) (Z:=fun s=>min (M s) ae+1) (need:=need) xG ae z S.aj ae;have WD:∀q∈fI rs (fun s=>min (M s) ae+1) need ae S.aj ae,∃n,o1 rs M S.aj n q:=fun q az=>⟨ae,Mr (M:=M) (fun s=>z) ae S.aj ae q az⟩;have zD:d=ae->0<(fI rs (fun s=>min (M s) ae+1) need ae S.aj ae).length:=fun e=>by subst e;exact List.length_pos_iff.2 (y0.out need Km)
   obtain⟨bV,dd⟩:∃bV,fI rs (fun s=>min (M s) ae+1) need ae S.aj ae=bV:=⟨_,rfl⟩;rw[dd]at T eY Wa uj WD zD;obtain⟨j,aq⟩:∃j,bV.length=j:=⟨_,rfl⟩;have Vp:=eY.aAE WD;rw[aq]at T Wa uj zD Vp;have a_:j<=61917364224:=db uj (ks z (z:ae<=5));have aa:=G (fun W (Q:Below ao.heap.size ao W)=>aCJ (fun p=>∃n,o1 rs M S.aj n p) (fun p ag=>by
    obtain⟨n,aw⟩:=ag
    have H:=aw.len
    have I:=aw.le
    have af:=(k3.out S.aj).2
    omega) j j va cq W (aZ _) z Wa (Vp.U Q))
   have av:=G zD;clear an Vw eY uj WD dd aq Vp Km zD;have L:=aS 5 qO.g;have zT:=cX qO.g;have cy:(ae:Int)<=5:=z;have bg:IntKind.i64.wrap (ae:Int)=ae:=oQ _ ⟨z,z⟩;have z3:(ae:Int)<(ae:Int)+1:=z;have aY:min (ae:Int) (ae:Int)=ae:=z;have dv:(1:Int)<=(ae:Int):=z;have kF:Below ao.heap.size ao ao.drew:=(bi _ _).drew;refine yJ (S:=(fun W=>W.cell? ⟨w.heap.size,5,none⟩=some (.int .i64 S.aj)/\W.cell? ⟨cF,S.aj,none⟩=some (.slice (some ⟨bT S.aj,0,none⟩) (ae+1) (ae+1))/\W.cell? ⟨bT S.aj,ae,none⟩=some (.slice va j cq))) au ⟨L,cl,T⟩ (fun ws=>?_);refine b8 0 24 ?_;refine b8 1 25 ?_;refine b8 2 26 ?_;refine b8 3 27 ?_;refine b8 4 28 ?_;refine b8 5 29 ?_;refine b8 6 30 ?_;refine b8 7 31 ?_;refine b8 8 32 ?_;refine b8 9 33 ?_;refine b8 10 34 ?_;refine b8 11 35 ?_;refine b8 12 36 ?_;refine b8 13 37 ?_;refine b8 14 38 ?_;refine b8 15 39 ?_;refine b8 16 40 ?_;refine n4 17 (fun b0 cC=>?_);go_simp;go_at_call 92;refine(aa.out _ kF).mono ?_;rintro e w7 ⟨⟨e8,Hs,rfl,kj,ap⟩,ip⟩;have A:=b_ kF ip;obtain⟨zs,BD,WM,J⟩:=ap.e7;refine cC.out _ _ ⟨(A.cell zT).trans L,(A.cell kx).trans cl,(A.cell m4).trans T⟩ (fun jM=>?_);clear cC b0;refine gH ?_;refine n4 18 (fun b0 cC=>?_);refine amz (d:=some 42) _ rfl rfl _ _ 23 rfl (w.heap.size+1) 22 vt _ 1 24 underlying23 vk jT ir i0 rfl ai _ len K rfl (ye SD.out A) e8 j Hs zs rfl (by rw[BD,tv]) J (fun u hu=>(WM u hu).Ep) (by unfold maxLen;omega) z (db aI A.size) ?_;intro rr m mG U _;obtain⟨HD,HE,rfl⟩:=akW mG;have N:=ye SD.out A;have Vl:=Ee N U;have sF:=qO.U A;have Bs:m.heap[w.heap.size]? =some (Obj.cells (eh S rs ca (some ⟨bJ,eB,none⟩) cc aV rb aC rc) 29 (0,0)):=by rw[U.block _ (cX sF.g) (Aa N sF.g ai)];exact sF.g
   have aj:m.cell? ⟨w.heap.size,5,none⟩=_:=lb Bs rfl;have JF:m.cell? ⟨cF,S.aj,none⟩=_:=(U.cell_far ⟨cF,S.aj,none⟩ (cE A kx) (Aa N ((A.block _ kx).trans aG) ai)).trans ((A.cell kx).trans cl);have aD:m.cell? ⟨bT S.aj,ae,none⟩=_:=(U.cell_far ⟨bT S.aj,ae,none⟩ (cE A m4) (Aa N ((A.block _ m4).trans aF) ai)).trans ((A.cell m4).trans T);refine cC.out _ _ ⟨aj,JF,aD⟩ (fun jM=>?_);clear cC b0;refine gH ?_;refine b8 19 6 ?_;refine As au ?_ _;have Ix:=G mG;have SO:Hid (∀y∈K++zs,l' (fun p=>∃n,o1 rs M S.aj n p) m y):=G fun y aR=>by
    rcases nJ.1 aR with aR|aR
    ·exact((ad.out y aR).U A).kept Vl
    ·exact(WM y aR).kept Vl
   have O2:Below w.heap.size w m:=sF.b.grown U sF.b.size (fun g al=>by
    rcases vI g (w.heap.size+1)with O|O
    ·exact absurd al.symm (wV N O)
    ·omega)
   have AJ:hw w (eh S rs ca (some ⟨bJ,eB,none⟩) cc aV rb aC rc) m:=⟨O2,Bs⟩;have Ky:w.heap.size+1<=m.heap.size:=cX Bs;have KD:d<ae+1->0<len+j:=fun hd=>by
    by_cases e:d=ae
    ·have:=av.out e;omega
    ·have:=VT z;omega
   have cz:(j:Int)<=61917364224:=z;have gs:(len:Int)<400:=z;clear Vl N Bs U mG WM BD J ap sF A ad SD L aj cl T jM ws ip aa qO;by_cases aM:400<=len+j
   ·have cT:((len:Int)+(j:Int))≥400:=z;have jw:decide ((400:Int)<=(len:Int)+(j:Int))=true:=bu;obtain⟨f,KT⟩:∃f,f=len+j:=⟨_,rfl⟩;have ly:(400:Int)<=(f:Int):=z;have nr:(f:Int)<=100000000000:=z;have aB:decide ((400:Int)<=(f:Int))=true:=bu;rw[←KT]at Ix KD⊢;clear KD cT jw aM KT;have F:=Ix;have SP:=SO;have yY:=O2;obtain⟨g,cap,cj,Ur,aO,kL,sc,_,KA⟩:=tb F.out (Qw F.out z);cases Ur;have D3:=F.out.1;obtain⟨B,m6,aK,aL,aN⟩:∃B:Nat,min (f:Int) 400=(B:Int)/\1<=B/\B<=f/\B<=400:=⟨min f 400,z,z,z,z⟩;have aJ:(if 400<(f:Int)then(400:Int)else(f:Int))=(B:Int):=by split<;>omega
    have Sp:Hid (∀r,r<f->∃C D q,m.cell? ⟨g,r,none⟩=some (.slice C (q:List Int).length D)/\oZ m C q/\∃n,o1 rs M S.aj n q):=G fun r Y=>by have H:=KA r z;rw[ln z]at H;obtain⟨C,D,q,e,E,m7⟩:=SP.out _ (fM (show r<(K++zs).length by omega));exact⟨C,D,q,by rw[lb kL H,e],E,m7⟩
    have vM:=Ik m (w.heap.size) 3 1 yY.size;have cr:Below m.heap.size m (m.alloc (.cells #[] 3)):=(bi _ _).alloc (aZ _) _;obtain⟨mJ,mC,i',iF,iX⟩:=jt BG;have vj:=cX kL;have gt:(1:Int)<=(f:Int):=z;have lL:(f:Int)<=100000000000:=z;have n5:((f:Int)==0)=false:=by rw[l8];omega
    clear KA D3
    go_wp2_with (first
     |(have _:=nB;at_builtin;refine wpList_append_lies _ rfl _ _ 22 rfl w.heap.size 3 mJ _ 1 8 underlying22 mC i' iF iX rfl ai (.slice (some ⟨m.heap.size,0,none⟩) 0 0) 0 [] rfl vM ⟨us,vy,none⟩ q.length D (e0 q) rfl (by rw[ER,tv]) (GE _ cr) (ES _) E (by unfold maxLen;omega) z (db yY.size cr.size) _ rfl ?_;intro zq zi gD o_ o9 _ _)
     |(go_at_call 93;refine(XJ fj B _ z z).mono ?_;rintro e w' ⟨⟨r,nB,rfl⟩,rfl⟩;obtain⟨C,D,q,T_,DB,nq,xK⟩:=Sp.out r z;have E:0<q.length:=(by rw[xK.len];exact xK.pos);have wG:q.length<=5:=(by rw[xK.len];exact db xK.le (k3.out _).2);obtain⟨us,vy,rfl,GE⟩:=PY DB E;have ay:=aA cr vj T_;have b':(0:Int)<=(r:Int):=z;have dt:(r:Int)<f:=z))
    exact ajC
   ·have cT:¬((400:Int)<=(len:Int)+(j:Int)):=z;have jw:decide ((400:Int)<=(len:Int)+(j:Int))=false:=bu;obtain⟨f,KT⟩:∃f,f=len+j:=⟨_,rfl⟩;have ly:¬(400:Int)<=(f:Int):=z;have aB:decide ((400:Int)<=(f:Int))=false:=bu;have ah:f<400:=z;rw[←KT]at Ix KD⊢;clear cT jw aM KT
    go_wp2;go_roundw;case rel=>first|exact⟨ae+1,f,_,z,z,bM,Ky,AJ,Ix,SO,ah,KD⟩|((repeat apply Exists.intro);refine⟨?_,rfl⟩;exact⟨ae+1,f,_,z,z,bM,Ky,AJ,Ix,SO,ah,KD⟩)
    case measure=>simp[RowKit.intOf];omega
  ·obtain rfl:ae=M S.aj+1:=z;have li:¬((M S.aj+1:Nat):Int)<=(M S.aj:Int):=z;have bc:=VT z;have F:=SC;have SP:=SN;have yY:=R.b;clear VT R;obtain⟨g,cap,cj,Ur,aO,kL,sc,_,KA⟩:=tb F.out (Qw F.out z);cases Ur;have D3:=F.out.1;obtain⟨B,m6,aK,aL,aN⟩:∃B:Nat,min (len:Int) 400=(B:Int)/\1<=B/\B<=len/\B<=400:=⟨min len 400,z,z,z,z⟩;have aJ:(if 400<(len:Int)then(400:Int)else(len:Int))=(B:Int):=by split<;>omega
   have Sp:Hid (∀r,r<len->∃C D q,wr.cell? ⟨g,r,none⟩=some (.slice C (q:List Int).length D)/\oZ wr C q/\∃n,o1 rs M S.aj n q):=G fun r Y=>by have H:=KA r z;rw[ln z]at H;obtain⟨C,D,q,e,E,m7⟩:=SP.out _ (fM (show r<K.length by omega));exact⟨C,D,q,by rw[lb kL H,e],E,m7⟩
   have vM:=Ik wr (w.heap.size) 3 1 yY.size;have cr:Below wr.heap.size wr (wr.alloc (.cells #[] 3)):=(bi _ _).alloc (aZ _) _;obtain⟨mJ,mC,i',iF,iX⟩:=jt BG;have vj:=cX kL;have gt:(1:Int)<=(len:Int):=z;have lL:(len:Int)<=100000000000:=z;have n5:((len:Int)==0)=false:=by rw[l8];omega
   clear KA D3
   go_wp2_with (first
    |(have _:=nB;at_builtin;refine wpList_append_lies _ rfl _ _ 22 rfl w.heap.size 3 mJ _ 1 8 underlying22 mC i' iF iX rfl ai (.slice (some ⟨wr.heap.size,0,none⟩) 0 0) 0 [] rfl vM ⟨us,vy,none⟩ q.length D (e0 q) rfl (by rw[ER,tv]) (GE _ cr) (ES _) E (by unfold maxLen;omega) z (db yY.size cr.size) _ rfl ?_;intro zq zi gD o_ o9 _ _)
    |(go_at_call 93;refine(XJ fj B _ z z).mono ?_;rintro e w' ⟨⟨r,nB,rfl⟩,rfl⟩;obtain⟨C,D,q,T_,DB,nq,xK⟩:=Sp.out r z;have E:0<q.length:=(by rw[xK.len];exact xK.pos);have wG:q.length<=5:=(by rw[xK.len];exact db xK.le (k3.out _).2);obtain⟨us,vy,rfl,GE⟩:=PY DB E;have ay:=aA cr vj T_;have b':(0:Int)<=(r:Int):=z;have dt:(r:Int)<len:=z))
   exact ajC
end
end Go.bj
namespace Go.b3
open Go Go.Proofs.Tryz Go.Proofs Go.RowKit Go.c0 Go.bj
open Go.bj.N (lq)
open Go.aI (ef k7 fP pU g1)
structure AE (S:cO) (M:Nat->Nat) (rs:List bA) (ca bd:Option Addr) (cc aV rb aC rc:Nat) (w:World):Prop where
 ns:oX S M rs ca bd cc aV rb aC rc w
 cap:E' w rb aC rs
 akr:rs.length<=9
 aj:wb rs M S.aj
 ok:∀r∈rs,lo S r
 eF:(S.aB[S.aj]'ns.ok.aj).2=1∨(S.aB[S.aj]'ns.ok.aj).2=2∨(S.aB[S.aj]'ns.ok.aj).2=3
 sS:∀x∈S.bs,1<=x.2/\x.2<=5
theorem AE.U{S:cO}{M:Nat->Nat}{rs:List bA}{ca d:Option Addr}{cc b rb aC rc:Nat}{w w':World}(h:AE S M rs ca d cc b rb aC rc w)(A:Below w.heap.size w w'):AE S M rs ca d cc b rb aC rc w':=
 ⟨h.ns.U A,h.cap.U A,h.akr,h.aj,h.ok,h.eF,h.sS⟩
structure mv (w:World) (a:Option Addr) (n:Nat) (aG:Array Value) (wr:World):Prop where
 b:Below w.heap.size w wr
 g:wr.heap[w.heap.size]? =some (.cells aG 29 (0,0))
 o:wr.heap[w.heap.size+1]? =some (.cells x_ 47 (0,0))
 m:∃c b0:Nat,wr.heap[w.heap.size+2]? =some (.cells #[.slice a n c,.int .i64 b0] 57 (0,0))
structure nj (w:World) (a:Option Addr) (n:Nat) (aG:Array Value) (cG:Nat) (c7:Array Value) (wr:World):Prop where
 x:mv w a n aG wr
 i:wr.heap[cG]? =some (.cells c7 47 (0,0))
 hi:w.heap.size+3<=cG
structure xi (w:World) (a:Option Addr) (n:Nat) (aG:Array Value) (cG:Nat) (c7:Array Value) (bp:Nat) (aT:Array Value) (wr:World):Prop where
 y:nj w a n aG cG c7 wr
 v:wr.heap[bp]? =some (.cells aT 44 (0,0))
 J:w.heap.size+3<=bp
section
variable {w wr w':World} {a:Option Addr} {n c:Nat} {aG c7 aT:Array Value} {cG bp:Nat}
theorem mv.g7(w:World)(a:Option Addr)(n c:Nat)(aG:Array Value):mv w a n aG (((w.alloc (.cells aG 29)).alloc (.cells x_ 47)).alloc (.cells #[.slice a n c,.int .i64 0] 57)):=by
 have ab:=da w (.cells aG 29);have H:=da (w.alloc (.cells aG 29)) (.cells x_ 47);have I:=da ((w.alloc (.cells aG 29)).alloc (.cells x_ 47)) (.cells #[.slice a n c,.int .i64 0] 57);have h7:∀(w:World) (o b:Obj) (k:Nat),w.heap[k]? =some b->(w.alloc o).heap[k]? =some b:=fun w o b k h=>((fH w o).block k (b1 h)).trans h;have e:∀(w:World) (o:Obj),(w.alloc o).heap.size=w.heap.size+1:=fun w o=>am;simp only[e]at H I;exact⟨(((bi _ _).alloc (aZ _) _).alloc am _).alloc bu _,h7 _ _ _ _ (h7 _ _ _ _ ab),h7 _ _ _ _ H,c,0,I⟩
theorem mv.num(h:mv w a n aG wr)(b:k7 w a n)(e:∀q,a=some q->0<n->q.block<w.heap.size):ef wr (w.heap.size+2) a n:=by
 obtain⟨c,g,d⟩:=h.m;exact⟨c,g,d,b.U h.b,fun q f ab=>by have:=e q f ab;omega⟩
theorem mv.hC(h:mv w a n aG wr)(A:Below w.heap.size w w')(b:∀k,k<w.heap.size+3->k<wr.heap.size->w'.heap[k]? =wr.heap[k]?):mv w a n aG w':=by
 obtain⟨c,e,d⟩:=h.m;exact⟨A,(b _ z (b1 h.g)).trans h.g,(b _ z (b1 h.o)).trans h.o,c,e,(b _ z (b1 d)).trans d⟩
theorem mv.U(h:mv w a n aG wr)(A:Below wr.heap.size wr w'):mv w a n aG w':=h.hC (b_ h.b A) fun k _ b=>A.block k b
theorem nj.U(h:nj w a n aG cG c7 wr)(A:Below wr.heap.size wr w'):nj w a n aG cG c7 w':=⟨h.x.U A,(A.block _ (b1 h.i)).trans h.i,h.hi⟩
theorem xi.U(h:xi w a n aG cG c7 bp aT wr)(A:Below wr.heap.size wr w'):xi w a n aG cG c7 bp aT w':=⟨h.y.U A,(A.block _ (b1 h.v)).trans h.v,h.J⟩
theorem mv.alloc(h:mv w a n aG wr)(o:Obj):mv w a n aG (wr.alloc o):=h.U ((bi _ _).alloc (aZ _) o)
theorem nj.alloc(h:nj w a n aG cG c7 wr)(o:Obj):nj w a n aG cG c7 (wr.alloc o):=h.U ((bi _ _).alloc (aZ _) o)
theorem mv.drew(h:mv w a n aG wr):mv w a n aG wr.drew:=h.U ((bi _ _).drew)
theorem nj.drew(h:nj w a n aG cG c7 wr):nj w a n aG cG c7 wr.drew:=h.U ((bi _ _).drew)
theorem xi.drew(h:xi w a n aG cG c7 bp aT wr):xi w a n aG cG c7 bp aT wr.drew:=h.U ((bi _ _).drew)
theorem mv.next(h:mv w a n aG wr)(f:ef w' (w.heap.size+2) a n)(b:fP (w.heap.size+2) wr w'):mv w a n aG w':=by
 obtain⟨c,g,e,_⟩:=f;have A:Below w.heap.size w w':=⟨b.os.trans h.b.os,b.tape.trans h.b.tape,b.output.trans h.b.output,db h.b.size b.size,fun k d=>(b.block k (cE h.b d) z).trans (h.b.block k d)⟩;exact⟨A,(b.block _ (b1 h.g) z).trans h.g,(b.block _ (b1 h.o) z).trans h.o,c,g,e⟩
theorem nj.next(h:nj w a n aG cG c7 wr)(d:ef w' (w.heap.size+2) a n)(b:fP (w.heap.size+2) wr w'):nj w a n aG cG c7 w':=⟨h.x.next d b,(b.block _ (b1 h.i) (by have:=h.hi;omega)).trans h.i,h.hi⟩
theorem xi.next(h:xi w a n aG cG c7 bp aT wr)(d:ef w' (w.heap.size+2) a n)(b:fP (w.heap.size+2) wr w'):xi w a n aG cG c7 bp aT w':=⟨h.y.next d b,(b.block _ (b1 h.v) (by have:=h.J;omega)).trans h.v,h.J⟩
theorem mv.set(h:mv w a n aG wr){r:Nat}(d:w.heap.size+3<=r)(i:Nat)(u:Value):mv w a n aG (wr.setCell ⟨r,i,none⟩ u):=
 h.hC (h.b.setCell (p:=⟨r,i,none⟩) (by show w.heap.size<=r;omega) u) fun k b _=>hm _ _ _ _ (by show k≠r;omega)
theorem nj.set(h:nj w a n aG cG c7 wr)(i:Nat)(u:Value):nj w a n aG cG (c7.setIfInBounds i u) (wr.setCell ⟨cG,i,none⟩ u):=⟨h.x.set h.hi i u,hS h.i u,h.hi⟩
end
theorem axD(m:Nat)(b:m<5)(W:World):∃t:Int,(W.alloc (.cells #[.int .i64 1,.int .i64 1,.int .i64 3,.int .i64 2,.int .i64 4] 3)).cell? ⟨W.heap.size,m,none⟩=some (.int .i64 t)/\(t=1∨t=2∨t=3∨t=4):=by
 have h:=da W (.cells #[.int .i64 1,.int .i64 1,.int .i64 3,.int .i64 2,.int .i64 4] 3);rcases(z:m=0∨m=1∨m=2∨m=3∨m=4)with rfl|rfl|rfl|rfl|rfl
 all_goals exact⟨_,by simp only[World.cell?,h];rfl,ai⟩
structure kt where
 id:Int
 dM:Int
 lM:Int
 i5:Int
 eF:Int
 BH:List bH
 out:bH
 iI:ByteArray
 h2:ByteArray
 prog:List Int
def mU(B:Nat->Prop)(w:World)(F:Array Value)(x:kt):Prop:=∃b e k s N S n ca cc ra rc aF d,F=kz x.id x.dM x.lM x.i5 x.eF b x.BH.length e k s N S n ca cc ra rc x.iI x.h2 aF x.prog.length d/\x.out=.mk k s N S n [] []/\cU B (aY B 1) w b x.BH/\uE B w aF x.prog
def R4(x:kt):Prop:=(1<=x.dM/\x.dM<=3)/\0<=x.i5/\x.i5<=8
def I2(base:Nat)(e:Ending)(w':World):Prop:=∃F x,e=.returned (.agg F)/\R4 x/\mU (gR base) w' F x
end Go.b3
namespace Go.b3
open Go Go.Proofs Go.RowKit Go.c0 Go.bj
open Go.bj.N (lq)
open Go.aI (ef k7 fP pU g1)
theorem Tj{B:Nat->Prop}{r:Nat}(c:¬B r)(l:List Value)(i:Nat)(W:World):fw B W (W.setCells r i l):=⟨(Hm (B:=0) (dq _) l i W (bi 0 W)).size,fun b A _=>ali (fun e=>c (by rw[←e];exact A)) l i W⟩
theorem azi(W:World)(e d b c f:Int):k7 (W.alloc (.cells #[.int .i64 e,.int .i64 d,.int .i64 b,.int .i64 c,.int .i64 f] 3)) (some ⟨W.heap.size,0,none⟩) 5:=.inr ⟨_,0,rfl,fun i hi=>by
 have h:=da W (.cells #[.int .i64 e,.int .i64 d,.int .i64 b,.int .i64 c,.int .i64 f] 3)
 rcases(z:i=0∨i=1∨i=2∨i=3∨i=4)with rfl|rfl|rfl|rfl|rfl
 all_goals exact⟨_,by simp only[World.cell?,h];rfl⟩⟩
def agy(n:Nat):Code->Bool
 |.region k _ _=>k==n
 |.seq a _=>agy n a
 |_=>false
def Ym(n:Nat):Code->Code
 |.seq a b=>if agy n a=true then .seq a b else Ym n b
 |c=>c
def arY:Code->Code
 |.seq (.seq _ c) _=>c
 |c=>c
def R5(cJ hq:Nat):Nat->Prop:=fun b=>cJ<=b/\b<hq
abbrev qU(cJ hq:Nat)(w:World)(ra:Option Addr)(R:List bH):Prop:=cU (R5 cJ hq) (aY (R5 cJ hq) 1) w ra R
theorem qU.FK{cJ hq:Nat}{w w':World}{ra:Option Addr}{R:List bH}(h:qU cJ hq w ra R)(b:fw (R5 cJ hq) w w'):qU cJ hq w' ra R:=cU.gf (aY.mono _ 1) h b
theorem qU.Jg{cJ hq:Nat}{w w':World}{ra:Option Addr}{R:List bH}(h:qU cJ hq w ra R)(b:Below w.heap.size w w'):qU cJ hq w' ra R:=cU.U (aY.mono _ 1) h b
theorem qU.all{cJ hq:Nat}{w:World}{ra:Option Addr}{R:List bH}(h:qU cJ hq w ra R):cU be (aY be 1) w ra R:=cU.low (fun _ _=>h5) (fun _ _ _ h=>aY.low (fun _ _=>h5) h) h
theorem qU.from{cJ hq n:Nat}{w:World}{ra:Option Addr}{R:List bH}(h:qU cJ hq w ra R)(b:n<=cJ):cU (gR n) (aY (gR n) 1) w ra R:=cU.low (fun _ A=>db b A.1) (fun _ _ _ h=>aY.low (fun _ A=>db b A.1) h) h
theorem aBU{w W w':World}{a:Option Addr}{n cG:Nat}{aG c7:Array Value}{ra:Option Addr}{R:List bH}(_:Below W.heap.size W w')(b:cU (gR W.heap.size) (aY (gR W.heap.size) 1) w' ra R)(h:nj w a n aG cG c7 W):∃cJ,qU cJ w'.heap.size w' ra R/\cG<cJ/\w.heap.size+2<cJ:=⟨W.heap.size,cU.lt (fun _ _ c=>c.lt) b,b1 h.i,b1 h.x.m.choose_spec.choose_spec⟩
structure lw (w:World) (a:Option Addr) (n:Nat) (aG:Array Value) (cG:Nat) (c7:Array Value) (cJ hq:Nat) (ra:Option Addr) (R:List bH) (bp:Nat) (aT:Array Value) (yA:World):Prop where
 y:xi w a n aG cG c7 bp aT yA
 s:qU cJ hq yA ra R
 ah:hq<=bp
 A:cG<cJ/\w.heap.size+2<cJ/\cG<hq
section
variable {w wr w':World} {a:Option Addr} {n cG cJ hq bp:Nat} {aG c7 aT:Array Value} {ra:Option Addr} {R:List bH}
theorem lw.BM(h:nj w a n aG cG c7 wr)(b:qU cJ hq wr ra R)(ah:hq<=wr.heap.size)(A:cG<cJ/\w.heap.size+2<cJ/\cG<hq)(aT:Array Value):lw w a n aG cG c7 cJ hq ra R wr.heap.size aT (wr.alloc (.cells aT 44)):=
 ⟨⟨h.alloc _,da _ _,db h.hi (Ct (b1 h.i))⟩,b.Jg ((bi _ _).alloc (aZ _) _),ah,A⟩
theorem lw.put{k N S g:Int}{s:ByteArray}{ca i:Option Addr}{cl cc rl rc:Nat}(h:lw w a n aG cG c7 cJ hq ra R bp (bY k s N S g ca cl cc i rl rc) wr)(u0 u1 u2 u3 u4 u5 u6:Value):lw w a n aG cG c7 cJ hq ra R bp #[u0,u1,u2,u3,u4,u5,u6] (yh wr bp u0 u1 u2 u3 u4 u5 u6):=by
 have J:=h.y.J;have ah:=h.ah;have A:=h.A;have c:=QG (B:=fun b=>b≠bp) (w:=wr) (fw.refl _ wr) (r:=bp) (fun e=>e rfl) u0 u1 u2 u3 u4 u5 u6;refine⟨⟨⟨h.y.y.x.hC (ib h.y.y.x.b z _ _ _ _ _ _ _) fun k j d=>c.2 k (by show k≠bp;omega) d,(c.2 cG (by show cG≠bp;omega) (b1 h.y.y.i)).trans h.y.y.i,h.y.y.hi⟩,h3 h.y.v _ _ _ _ _ _ _,J⟩,h.s.FK ⟨c.1,fun b f aq=>c.2 b (by show b≠bp;have:=f.2;omega) aq⟩,ah,A⟩
theorem lw.U(h:lw w a n aG cG c7 cJ hq ra R bp aT wr)(A:Below wr.heap.size wr w'):lw w a n aG cG c7 cJ hq ra R bp aT w':=⟨h.y.U A,h.s.Jg A,h.ah,h.A⟩
theorem lw.next(h:lw w a n aG cG c7 cJ hq ra R bp aT wr)(d:ef w' (w.heap.size+2) a n)(c:fP (w.heap.size+2) wr w'):lw w a n aG cG c7 cJ hq ra R bp aT w':=
 ⟨h.y.next d c,h.s.FK ⟨c.size,fun b A aq=>c.block b aq (by have:=A.1;have:=h.A.2.1;omega)⟩,h.ah,h.A⟩
theorem lw.drew(h:lw w a n aG cG c7 cJ hq ra R bp aT wr):lw w a n aG cG c7 cJ hq ra R bp aT wr.drew:=h.U ((bi _ _).drew)
theorem lw.set(h:lw w a n aG cG c7 cJ hq ra R bp aT wr)(i:Nat)(u:Value):lw w a n aG cG (c7.setIfInBounds i u) cJ hq ra R bp aT (wr.setCell ⟨cG,i,none⟩ u):=by
 have J:=h.y.J;have ah:=h.ah;have A:=h.A;exact⟨⟨h.y.y.set i u,(hm _ _ _ _ (by show bp≠cG;omega)).trans h.y.v,J⟩,h.s.FK ((fw.refl _ wr).set (fun b=>by have:=b.1;omega) i u),ah,A⟩
end
theorem tQ{w:World}{b c i j:Nat}{u:Value}(h:c≠b):(w.setCell ⟨c,j,none⟩ u).cell? ⟨b,i,none⟩=w.cell? ⟨b,i,none⟩:=tp _ _ _ _ h
theorem aiD{w w':World}{aF:Option Addr}{p:List Int}{b:Nat}(h:k5 w aF p)(e:fP b w w')(A:∀x,aF=some x->b<x.block):k5 w' aF p:=fun ab=>by
 obtain⟨c,o,rfl,d,f⟩:=h ab
 have:=A _ rfl
 exact⟨c,o,rfl,iz d e.size,fun i hi=>by rw[mO (e.block c d (by show c≠b;simp at this;omega))];exact f i hi⟩
theorem ax1{w:World}{aF:Option Addr}{p:List Int}{b:Nat}(h:k5 w aF p)(A:∀x,aF=some x->b<x.block)(i:Nat)(u:Value):k5 (w.setCell ⟨b,i,none⟩ u) aF p:=fun ab=>by
 obtain⟨c,o,rfl,e,d⟩:=h ab
 have:=A _ rfl
 exact⟨c,o,rfl,by simpa using e,fun i hi=>(tQ (by simp at this;omega)).trans (d i hi)⟩
theorem axm{B:Nat->Prop}{w:World}{aF:Option Addr}{p:List Int}(h:k5 w aF p)(f:∀x,aF=some x->B x.block)(e:p.length<=40):uE B w aF p:=⟨e,fun ab=>by
 obtain⟨c,o,rfl,d,b⟩:=h ab
 exact⟨c,o,rfl,f _ rfl,d,b⟩⟩
end Go.b3
namespace Go.b3
open Go Go.Proofs.Tryz Go.Proofs Go.RowKit Go.c0 Go.bj
open Go.bj.N (lq)
open Go.aI (ef k7 fP pU g1)
theorem aDq{S:cO}{M:Nat->Nat}{rs:List bA}{ca K:Option Addr}{cc I rb aC rc:Nat}{w:World}(h:AE S M rs ca K cc I rb aC rc w)(id:Int)(a:Option Addr)(n:Nat)(aa:k7 w a n)(ax:∀q,a=some q->0<n->q.block<w.heap.size)(an:n<=maxLen) {wc:World}{g T Z L:Nat}{ra:Option Addr}{A:Nat}{R:List bH}{dM y u eF:Int}{k:Int}{s:ByteArray}{N D m:Int}{va:Option Addr}{l:Nat}{o:Option Addr}{B:Nat}(vd:lw w a n (eh S rs ca K cc I rb aC rc) g (kz id dM y u eF ra R.length A 0 bL 0 0 0 none 0 none 0 bL bL none 0 0) T Z ra R L (bY k s N D m va 0 l o 0 B) wc)(l3:p8 (.mk k s N D m [] []))(P:k=1∨k=2∨k=3)(DM:1<=dM/\dM<=3)(qr:0<=u/\u<=8) (t0 ek cM t4 t5 t9 Y7 Y8 Y9 Y_ Y' Za Zb Zc Zd Ze Zf t22 t23 Zg t25 Zh Zi Zj Zk Zl Zm t32 Zn Zo t35 t36 Zp Zq Zr Zs t41 Zt Zu t44 Zv t46 Zw Zx Zy Zz ZA ZB t53 ZC ZD ZE t57 ZF ZG ZH ZI ZJ t63 t64 ZK ZL ZM ZN ZO ZQ ZR ZS ZT ZU ZV ZW ZX ZY ZZ Z0 Z1 Z2 Z3 Z4 Z5 Z6 Z7 Z8 Z9 Z_ Z' ab:Value):Code.wp prog (Ym 12 (f20.body.getD .ret)) (bodyPost prog f20 fun e w'=>I2 w.heap.size e w'/\Below w.heap.size w w') ⟨#[t0,ek,cM,.pointer (some ⟨w.heap.size,0,none⟩),t4,t5,.pointer (some ⟨w.heap.size+1,0,none⟩),.pointer (some ⟨w.heap.size+1+1,0,none⟩),.pointer (some ⟨g,0,none⟩),t9,.pointer (some ⟨L,0,none⟩),Y7,Y8,Y9,Y_,Y',Za,Zb,Zc,Zd,Ze,Zf,t22,t23,Zg,t25,Zh,Zi,Zj,Zk,Zl,Zm,t32,Zn,Zo,t35,t36,Zp,Zq,Zr,Zs,t41,Zt,Zu,t44,Zv,t46,Zw,Zx,Zy,Zz,ZA,ZB,t53,ZC,ZD,ZE,t57,ZF,ZG,ZH,ZI,ZJ,t63,t64,ZK,ZL,ZM,ZN,ZO,ZQ,ZR,ZS,ZT,ZU,ZV,ZW,ZX,ZY,ZZ,Z0,Z1,Z2,Z3,Z4,Z5,Z6,Z7,Z8,Z9,Z_,Z',ab],[]⟩ wc:=by
 have ad:=G fun(W:World) (k:Int) (s:ByteArray) (N D n:Int) (va:Option Addr) (l:Nat) (o:Option Addr) (wc:Nat) (J:p8 (.mk k s N D n [] []))=>aad J W (bY k s N D n va 0 l o 0 wc) (aY.iE be 1 W _ _ _ _ _ _ _ _ _);have DP:Hid (∀x,ca=some x->x.block≠w.heap.size+2):=G fun x X=>by exact aiY
 have ae:=G fun W (ar:Below w.heap.size w W) (Q:ef W (w.heap.size+2) a n)=>fun id dM lM i5 eF hQ m9 iH fg bX j4 mz gL iT iV iv i4 iI h2 dp qz ei k s N D m va vD l o tm wc P=>akP (h.U ar).ns (w.heap.size+2) a n an Q DP.out id dM lM i5 eF hQ m9 iH fg bX j4 mz gL iT iV iv i4 iI h2 dp qz ei k s N D m va vD l o tm wc P;have es:=G aa;have mT:=G ax;clear h aa ax;have j:=G vd;obtain⟨iY,ld,O1⟩:=vd.A;have qN:=G l3;have ha:=G P;clear vd l3 P;obtain⟨IV,C⟩:∃IV,IV=(bodyPost prog f20 fun e w'=>I2 w.heap.size e w'/\Below w.heap.size w w'):=⟨_,rfl⟩;rw[←C];have nh:=G C;clear C;show Code.wp prog (Code.seq _ _) _ _ _;have mI:wc.cell? ⟨g,4,none⟩=some (.int .i64 eF):=aS 4 j.out.y.y.i;have O:=b1 j.out.y.y.i;by_cases Q:eF=3
 ·subst Q;have s9:wc.cell? ⟨g,13,none⟩=some (.string bL):=aS 13 j.out.y.y.i;have f13:=Go.aI.cB (i:=13) j.out.y.y.i;go_upto_region 16 with fail
  have d:Hid (lw w a n (eh S rs ca K cc I rb aC rc) g (kz id dM y u 3 ra R.length A 0 bL 0 0 0 none 0 none 0 ⟨#[105,115]⟩ bL none 0 0) T Z ra R L (bY k s N D m va 0 l o 0 B) (wc.setCell ⟨g,13,none⟩ (.string ⟨#[105,115]⟩))):=G (j.out.set 13 _);clear j mI s9 f13 O;generalize (wc.setCell ⟨g,13,none⟩ (.string ⟨#[105,115]⟩))=di at*;obtain⟨v0,U,V,v3,v4,v5,Y⟩:=eU d.out.y.v;go_upto_region 17 with(go_at_call 50;(with_reducible refine(ad.out _ k s N D m va l o B qN.out).mono ?_);rintro e gD ⟨⟨wU,rfl,ag⟩,o6⟩;have H:=G (d.out.U o6);clear o6;have wK:gD.cell? ⟨g,14,none⟩=some (.string bL):=aS 14 H.out.y.y.i;have f14:=Go.aI.cB (i:=14) H.out.y.y.i;have O:=b1 H.out.y.y.i)
  have F:Hid (lw w a n (eh S rs ca K cc I rb aC rc) g (kz id dM y u 3 ra R.length A 0 bL 0 0 0 none 0 none 0 ⟨#[105,115]⟩ wU none 0 0) T Z ra R L (bY k s N D m va 0 l o 0 B) (gD.setCell ⟨g,14,none⟩ (.string wU))):=G (H.out.set 14 _);clear d H wK f14 O v0 U V v3 v4 v5 Y;generalize (gD.setCell ⟨g,14,none⟩ (.string wU))=yy at*;obtain⟨v0,U,V,v3,v4,v5,Y⟩:=eU F.out.y.v;obtain⟨cp,aW,bb,bR,dF,dZ⟩:=fZ F.out.y.y.x.g;obtain⟨ex,g4,gx,i3,mI,ul,si,sj,zP,zQ,zN,zO,BE,s9,wK,x9⟩:=Df F.out.y.y.i
  go_wp2_with (go_at_call 51;(with_reducible refine(ae.out _ F.out.y.y.x.b (F.out.y.y.x.num es.out mT.out) id dM y u 3 ra R.length A 0 bL 0 0 0 none 0 none 0 ⟨#[105,115]⟩ wU none 0 0 k s N D m va 0 l o 0 B ha.out).mono ?_);rintro e E ⟨⟨iI,h2,rfl⟩,_,cz,cg⟩;have f:=G (F.out.next cz cg);clear cz cg;have gC:=aS 0 f.out.y.y.x.o;have z0:=Go.aI.cB (i:=0) f.out.y.y.x.o;have c_:=aS 1 f.out.y.y.x.o;have cy:=Go.aI.cB (i:=1) f.out.y.y.x.o;have dL:=aS 2 f.out.y.y.x.o;have dv:=Go.aI.cB (i:=2) f.out.y.y.x.o;have fU:=aS 3 f.out.y.y.x.o;have z3:=Go.aI.cB (i:=3) f.out.y.y.x.o;have gE:=aS 4 f.out.y.y.x.o;have z4:=Go.aI.cB (i:=4) f.out.y.y.x.o;have gM:=aS 5 f.out.y.y.x.o;have z5:=Go.aI.cB (i:=5) f.out.y.y.x.o;have gT:=aS 6 f.out.y.y.x.o;have eP:=Go.aI.cB (i:=6) f.out.y.y.x.o;have Qp:=aS 7 f.out.y.y.x.o;have Ci:=Go.aI.cB (i:=7) f.out.y.y.x.o;have Qq:=aS 8 f.out.y.y.x.o;have ru:=Go.aI.cB (i:=8) f.out.y.y.x.o;have Qr:=aS 9 f.out.y.y.x.o;have z9:=Go.aI.cB (i:=9) f.out.y.y.x.o;have Qj:=aS 10 f.out.y.y.x.o;have Rs:=Go.aI.cB (i:=10) f.out.y.y.x.o;have Qk:=aS 11 f.out.y.y.x.o;have Rt:=Go.aI.cB (i:=11) f.out.y.y.x.o;have Ql:=aS 12 f.out.y.y.x.o;have Ru:=Go.aI.cB (i:=12) f.out.y.y.x.o;have Qm:=aS 13 f.out.y.y.x.o;have Rv:=Go.aI.cB (i:=13) f.out.y.y.x.o;have Qn:=aS 14 f.out.y.y.x.o;have Rw:=Go.aI.cB (i:=14) f.out.y.y.x.o;have Qo:=aS 15 f.out.y.y.x.o;have Rx:=Go.aI.cB (i:=15) f.out.y.y.x.o;have lg:w.heap.size+1<E.heap.size:=b1 f.out.y.y.x.o;have cP:=G (QI f.out.y.y.x.o [.int .i64 id,.int .i64 dM,.int .i64 y,.int .i64 u,.int .i64 3,.slice ra R.length A,.int .i64 0,.string bL,.int .i64 0,.int .i64 0,.int .i64 0,.slice none 0 0,.slice none 0 0,.string iI,.string h2,.slice none 0 0] rfl);have ck:=G (Hm (oT w.heap.size) [.int .i64 id,.int .i64 dM,.int .i64 y,.int .i64 u,.int .i64 3,.slice ra R.length A,.int .i64 0,.string bL,.int .i64 0,.int .i64 0,.int .i64 0,.slice none 0 0,.slice none 0 0,.string iI,.string h2,.slice none 0 0] 0 E f.out.y.y.x.b);have C:=G (f.out.s.FK (Tj (r:=w.heap.size+1) (fun X=>by have:=X.1;omega) [.int .i64 id,.int .i64 dM,.int .i64 y,.int .i64 u,.int .i64 3,.slice ra R.length A,.int .i64 0,.string bL,.int .i64 0,.int .i64 0,.int .i64 0,.slice none 0 0,.slice none 0 0,.string iI,.string h2,.slice none 0 0] 0 E)));rw[nh.out];refine fL (EA (fn:=f20) rfl _ _ (w.heap.size+1) 47 _ (0,0) _ rfl cP.out underlying47 rfl Mj) rfl ?_;exact⟨⟨_,⟨id,dM,y,u,3,R,gZ 0,iI,h2,[]⟩,rfl,⟨DM,qr⟩,ra,A,0,bL,0,0,0,none,0,none,0,none,0,rfl,rfl,(qU.from C.out z),⟨am,fun h=>absurd h am⟩⟩,ck.out⟩
 ·have ep:(eF==3)=false:=by rw[l8];exact Q
  obtain⟨v0,U,V,v3,v4,v5,Y⟩:=eU j.out.y.v;have si:wc.cell? ⟨g,6,none⟩=some (.int .i64 0):=aS 6 j.out.y.y.i;have Dt:=Go.aI.cB (i:=6) j.out.y.y.i;have sj:wc.cell? ⟨g,7,none⟩=some (.string bL):=aS 7 j.out.y.y.i;have f7:=Go.aI.cB (i:=7) j.out.y.y.i;have zP:wc.cell? ⟨g,8,none⟩=some (.int .i64 0):=aS 8 j.out.y.y.i;have f8:=Go.aI.cB (i:=8) j.out.y.y.i;have zQ:wc.cell? ⟨g,9,none⟩=some (.int .i64 0):=aS 9 j.out.y.y.i;have J8:=Go.aI.cB (i:=9) j.out.y.y.i;have zN:wc.cell? ⟨g,10,none⟩=some (.int .i64 0):=aS 10 j.out.y.y.i;have f10:=Go.aI.cB (i:=10) j.out.y.y.i;have zO:wc.cell? ⟨g,11,none⟩=some (.slice none 0 0):=aS 11 j.out.y.y.i;have f11:=Go.aI.cB (i:=11) j.out.y.y.i;have BE:wc.cell? ⟨g,12,none⟩=some (.slice none 0 0):=aS 12 j.out.y.y.i;have f12:=Go.aI.cB (i:=12) j.out.y.y.i;go_upto_region 14 with fail
  have d:Hid (lw w a n (eh S rs ca K cc I rb aC rc) g (kz id dM y u eF ra R.length A k s N D m va l o B bL bL none 0 0) T Z ra R L (bY k s N D m va 0 l o 0 B) (((((((wc.setCell ⟨g,6,none⟩ (.int .i64 k)).setCell ⟨g,7,none⟩ (.string s)).setCell ⟨g,8,none⟩ (.int .i64 N)).setCell ⟨g,9,none⟩ (.int .i64 D)).setCell ⟨g,10,none⟩ (.int .i64 m)).setCell ⟨g,11,none⟩ (.slice va 0 l)).setCell ⟨g,12,none⟩ (.slice o 0 B))):=G (((((((j.out.set 6 _).set 7 _).set 8 _).set 9 _).set 10 _).set 11 _).set 12 _);clear j mI O v0 U V v3 v4 v5 Y si Dt sj f7 zP f8 zQ J8 zN f10 zO f11 BE f12;generalize (((((((wc.setCell ⟨g,6,none⟩ (.int .i64 k)).setCell ⟨g,7,none⟩ (.string s)).setCell ⟨g,8,none⟩ (.int .i64 N)).setCell ⟨g,9,none⟩ (.int .i64 D)).setCell ⟨g,10,none⟩ (.int .i64 m)).setCell ⟨g,11,none⟩ (.slice va 0 l)).setCell ⟨g,12,none⟩ (.slice o 0 B))=E at*;obtain⟨ex,g4,gx,i3,mI,ul,si,sj,zP,zQ,zN,zO,BE,s9,wK,x9⟩:=Df d.out.y.y.i;have gC:=aS 0 d.out.y.y.x.o;have z0:=Go.aI.cB (i:=0) d.out.y.y.x.o;have c_:=aS 1 d.out.y.y.x.o;have cy:=Go.aI.cB (i:=1) d.out.y.y.x.o;have dL:=aS 2 d.out.y.y.x.o;have dv:=Go.aI.cB (i:=2) d.out.y.y.x.o;have fU:=aS 3 d.out.y.y.x.o;have z3:=Go.aI.cB (i:=3) d.out.y.y.x.o;have gE:=aS 4 d.out.y.y.x.o;have z4:=Go.aI.cB (i:=4) d.out.y.y.x.o;have gM:=aS 5 d.out.y.y.x.o;have z5:=Go.aI.cB (i:=5) d.out.y.y.x.o;have gT:=aS 6 d.out.y.y.x.o;have eP:=Go.aI.cB (i:=6) d.out.y.y.x.o;have Qp:=aS 7 d.out.y.y.x.o;have Ci:=Go.aI.cB (i:=7) d.out.y.y.x.o;have Qq:=aS 8 d.out.y.y.x.o;have ru:=Go.aI.cB (i:=8) d.out.y.y.x.o;have Qr:=aS 9 d.out.y.y.x.o;have z9:=Go.aI.cB (i:=9) d.out.y.y.x.o;have Qj:=aS 10 d.out.y.y.x.o;have Rs:=Go.aI.cB (i:=10) d.out.y.y.x.o;have Qk:=aS 11 d.out.y.y.x.o;have Rt:=Go.aI.cB (i:=11) d.out.y.y.x.o;have Ql:=aS 12 d.out.y.y.x.o;have Ru:=Go.aI.cB (i:=12) d.out.y.y.x.o;have Qm:=aS 13 d.out.y.y.x.o;have Rv:=Go.aI.cB (i:=13) d.out.y.y.x.o;have Qn:=aS 14 d.out.y.y.x.o;have Rw:=Go.aI.cB (i:=14) d.out.y.y.x.o;have Qo:=aS 15 d.out.y.y.x.o;have Rx:=Go.aI.cB (i:=15) d.out.y.y.x.o;have lg:w.heap.size+1<E.heap.size:=b1 d.out.y.y.x.o;have cP:=G (QI d.out.y.y.x.o [.int .i64 id,.int .i64 dM,.int .i64 y,.int .i64 u,.int .i64 eF,.slice ra R.length A,.int .i64 k,.string s,.int .i64 N,.int .i64 D,.int .i64 m,.slice va 0 l,.slice o 0 B,.string bL,.string bL,.slice none 0 0] rfl);have ck:=G (Hm (oT w.heap.size) [.int .i64 id,.int .i64 dM,.int .i64 y,.int .i64 u,.int .i64 eF,.slice ra R.length A,.int .i64 k,.string s,.int .i64 N,.int .i64 D,.int .i64 m,.slice va 0 l,.slice o 0 B,.string bL,.string bL,.slice none 0 0] 0 E d.out.y.y.x.b);have C:=G (d.out.s.FK (Tj (r:=w.heap.size+1) (fun X=>by have:=X.1;omega) [.int .i64 id,.int .i64 dM,.int .i64 y,.int .i64 u,.int .i64 eF,.slice ra R.length A,.int .i64 k,.string s,.int .i64 N,.int .i64 D,.int .i64 m,.slice va 0 l,.slice o 0 B,.string bL,.string bL,.slice none 0 0] 0 E))
  go_wp2;rw[nh.out];refine fL (EA (fn:=f20) rfl _ _ (w.heap.size+1) 47 _ (0,0) _ rfl cP.out underlying47 rfl Mj) rfl ?_;exact⟨⟨_,⟨id,dM,y,u,eF,R,.mk k s N D m [] [],bL,bL,[]⟩,rfl,⟨DM,qr⟩,ra,A,k,s,N,D,m,va,l,o,B,none,0,rfl,rfl,(qU.from C.out z),⟨am,fun h=>absurd h am⟩⟩,ck.out⟩
theorem aAi{S:cO}{M:Nat->Nat}{rs:List bA}{ca E:Option Addr}{cc D rb aC rc:Nat}{w:World}(h:AE S M rs ca E cc D rb aC rc w)(id:Int)(a:Option Addr)(n:Nat)(aa:k7 w a n)(ax:∀q,a=some q->0<n->q.block<w.heap.size)(an:n<=maxLen) {y:World}{d:Nat}{dM l j:Int}{aF:Option Addr}{f LY:Nat}{p:List Int}(ab:nj w a n (eh S rs ca E cc D rb aC rc) d (kz id dM l j 4 none 0 0 0 bL 0 0 0 none 0 none 0 bL bL none 0 0) y)(ir:k5 y aF p)(i0:o1 rs M S.aj LY p)(x3:p.length<=f)(Wj:f<=9223372036854775807)(ue:∀x,aF=some x->d<x.block)(KR:w.heap.size+3<=d)(DM:1<=dM/\dM<=3)(qr:0<=j/\j<=8) (b0:Act->World->Prop)(t0 ek cM t4 t5 ah Y7 Y8 Y9 Y_ Y' Za Zb Zc Zd Ze Zf t22 t23 Zg t25 Zh Zi Zj Zk Zl Zm t32 Zn Zo t36 Zp Zq Zr Zs t41 Zt Zu t44 Zv t46 Zw Zx Zy Zz ZA ZB t53 ZC ZD ZE t57 ZF ZG ZH ZI ZJ t63 t64 ZK ZL ZM ZN ZO ZQ ZR ZS ZT ZU ZV ZW ZX ZY ZZ Z0 Z1 Z2 Z3 Z4 Z5 Z6 Z7 Z8 Z9 Z_ Z' ae:Value):Code.wp prog (arY (Ym 4 (f20.body.getD .ret))) (Exit.then b0 (bodyPost prog f20 fun e w'=>I2 w.heap.size e w'/\Below w.heap.size w w')) ⟨#[t0,ek,cM,.pointer (some ⟨w.heap.size,0,none⟩),t4,t5,.pointer (some ⟨w.heap.size+1,0,none⟩),.pointer (some ⟨w.heap.size+1+1,0,none⟩),.pointer (some ⟨d,0,none⟩),.slice aF p.length f,ah,Y7,Y8,Y9,Y_,Y',Za,Zb,Zc,Zd,Ze,Zf,t22,t23,Zg,t25,Zh,Zi,Zj,Zk,Zl,Zm,t32,Zn,Zo,.bool true,t36,Zp,Zq,Zr,Zs,t41,Zt,Zu,t44,Zv,t46,Zw,Zx,Zy,Zz,ZA,ZB,t53,ZC,ZD,ZE,t57,ZF,ZG,ZH,ZI,ZJ,t63,t64,ZK,ZL,ZM,ZN,ZO,ZQ,ZR,ZS,ZT,ZU,ZV,ZW,ZX,ZY,ZZ,Z0,Z1,Z2,Z3,Z4,Z5,Z6,Z7,Z8,Z9,Z_,Z',ae],[]⟩ y:=by
 have yV:=G fun(m:Int) (H:0<m) (I:m<=2000000000000001) W (af:ef W (w.heap.size+2) a n)=>pU W (w.heap.size+2) a n m H I an af;have M_:=G fun W (ar:Below w.heap.size w W) (aF:Option Addr) (f k:Nat) (p:List Int) (ag:k5 W aF p) (eY:o1 rs M S.aj k p) (ad:p.length<=f) (hd:f<=9223372036854775807) x=>akN (h.U ar).ns aF f k p ag eY ad hd x;have es:=G aa;have mT:=G ax;have Fl:=G h;have s:=G ab;have xd:=G ir;have K:=G i0;have tA:=G ue;have ap:d<y.heap.size:=b1 s.out.i;have x9:y.cell? ⟨d,15,none⟩=some (.slice none 0 0):=aS 15 s.out.i;obtain⟨v0,eJ,eO,v3,v4,v5⟩:=fZ s.out.x.g;clear h aa ax ab ir i0 ue;obtain⟨IV,B⟩:∃IV,IV=(bodyPost prog f20 fun e w'=>I2 w.heap.size e w'/\Below w.heap.size w w'):=⟨_,rfl⟩;rw[←B];have ak:=G B;clear B;show Code.wp prog (Code.cond _ _ _) _ _ _;go_upto_region 5 with fail
 go_region_held3 (fun aD=>aD.cell? ⟨w.heap.size,0,none⟩=some (.string S.bo)/\aD.cell? ⟨w.heap.size,1,none⟩=some (.int .i64 S.cZ)/\aD.cell? ⟨w.heap.size,2,none⟩=some (.slice ca S.bs.length cc)/\aD.cell? ⟨w.heap.size,3,none⟩=some (.slice E S.aB.length D)/\aD.cell? ⟨w.heap.size,4,none⟩=some (.slice (some ⟨rb,aC,none⟩) rs.length rc)/\aD.cell? ⟨w.heap.size,5,none⟩=some (.int .i64 S.aj)) (first|with_reducible exact⟨v0,eJ,eO,v3,v4,v5⟩|with_reducible exact⟨u0,u1,u2,u3,u4,u5⟩|with_reducible exact⟨T,O,Q,P,U,V⟩|exact⟨(tQ z).trans T,(tQ z).trans O,(tQ z).trans Q,(tQ z).trans P,(tQ z).trans U,(tQ z).trans V⟩|go_keep) (first
  |(have _:=u0;go_at_call 45;(with_reducible refine(M_.out _ C.out.x.b aF f LY p Z.out K.out x3 Wj _).mono ?_);rintro e u ⟨⟨ce,dy,gh,lJ,Pu,lH,va,g,rfl,dd,jR⟩,X⟩;have o:=G (C.out.U X);have nh:=G dd;have cd:=G jR;have Pv:Hid ((p.take ce++ -1::p.drop (ce+gh)).length<=40):=G (by rw[ie,mP,n_,pp];have:=Y.out;omega);have o6:d<F.heap.size:=b1 C.out.i;clear dd jR X Pu lH lJ;generalize (p.take ce++ -1::p.drop (ce+gh))=q at*;obtain⟨T,O,Q,P,U,V⟩:=fZ o.out.x.g;have X:d<u.heap.size:=b1 o.out.i;have ao:u.cell? ⟨d,15,none⟩=some (.slice none 0 0):=aS 15 o.out.i;have f15:=Go.aI.cB (i:=15) o.out.i)
  |(go_at_call 16;(with_reducible refine(yV.out 20 ai ai _ (s.out.drew.x.num es.out mT.out)).mono ?_);rintro e F ⟨⟨vz,Wt,wG,rfl⟩,cz,R⟩;have C:=G (s.out.drew.next cz R);have Y:Hid (p.length<=5):=G (by rw[K.out.len];exact db K.out.le (Fl.out.ns.oG _).2);have Z:=G (aiD (xd.out.U ((bi _ _).drew)) R (fun x N=>by have:=tA.out x N;omega));clear cz R;obtain⟨u0,u1,u2,u3,u4,u5⟩:=fZ C.out.x.g))
 have c:Hid (nj w a n (eh S rs ca E cc D rb aC rc) d (kz id dM l j 4 none 0 0 0 bL 0 0 0 none 0 none 0 bL bL va q.length g) (u.setCell ⟨d,15,none⟩ (.slice va q.length g))):=G (o.out.set 15 _);have al:=C.out.x.b.size;have aj:Hid (uE (gR F.heap.size) (u.setCell ⟨d,15,none⟩ (.slice va q.length g)) va q):=G ((axm nh.out (fun x N=>cd.out x N) Pv.out).gf ((fw.refl _ u).set (by show ¬(F.heap.size<=d);omega) 15 _));clear T O Q P U V u0 u1 u2 u3 u4 u5 v0 eJ eO v3 v4 v5 x9 ao f15 o nh cd Pv xd K tA Z Y s;generalize (u.setCell ⟨d,15,none⟩ (.slice va q.length g))=L at*;obtain⟨ex,g4,gx,i3,mI,ul,si,sj,zP,zQ,zN,zO,BE,s9,wK,x9⟩:=Df c.out.i;have gC:=aS 0 c.out.x.o;have z0:=Go.aI.cB (i:=0) c.out.x.o;have c_:=aS 1 c.out.x.o;have cy:=Go.aI.cB (i:=1) c.out.x.o;have dL:=aS 2 c.out.x.o;have dv:=Go.aI.cB (i:=2) c.out.x.o;have fU:=aS 3 c.out.x.o;have z3:=Go.aI.cB (i:=3) c.out.x.o;have gE:=aS 4 c.out.x.o;have z4:=Go.aI.cB (i:=4) c.out.x.o;have gM:=aS 5 c.out.x.o;have z5:=Go.aI.cB (i:=5) c.out.x.o;have gT:=aS 6 c.out.x.o;have eP:=Go.aI.cB (i:=6) c.out.x.o;have Qp:=aS 7 c.out.x.o;have Ci:=Go.aI.cB (i:=7) c.out.x.o;have Qq:=aS 8 c.out.x.o;have ru:=Go.aI.cB (i:=8) c.out.x.o;have Qr:=aS 9 c.out.x.o;have z9:=Go.aI.cB (i:=9) c.out.x.o;have Qj:=aS 10 c.out.x.o;have Rs:=Go.aI.cB (i:=10) c.out.x.o;have Qk:=aS 11 c.out.x.o;have Rt:=Go.aI.cB (i:=11) c.out.x.o;have Ql:=aS 12 c.out.x.o;have Ru:=Go.aI.cB (i:=12) c.out.x.o;have Qm:=aS 13 c.out.x.o;have Rv:=Go.aI.cB (i:=13) c.out.x.o;have Qn:=aS 14 c.out.x.o;have Rw:=Go.aI.cB (i:=14) c.out.x.o;have Qo:=aS 15 c.out.x.o;have Rx:=Go.aI.cB (i:=15) c.out.x.o;have lg:w.heap.size+1<L.heap.size:=b1 c.out.x.o;have re:d<L.heap.size:=b1 c.out.i;have cP:=G (QI c.out.x.o [.int .i64 id,.int .i64 dM,.int .i64 l,.int .i64 j,.int .i64 4,.slice none 0 0,.int .i64 0,.string bL,.int .i64 0,.int .i64 0,.int .i64 0,.slice none 0 0,.slice none 0 0,.string bL,.string bL,.slice va q.length g] rfl);have ck:=G (Hm (oT w.heap.size) [.int .i64 id,.int .i64 dM,.int .i64 l,.int .i64 j,.int .i64 4,.slice none 0 0,.int .i64 0,.string bL,.int .i64 0,.int .i64 0,.int .i64 0,.slice none 0 0,.slice none 0 0,.string bL,.string bL,.slice va q.length g] 0 L c.out.x.b);have B:=G (aj.out.gf (Tj (r:=w.heap.size+1) (by show ¬(F.heap.size<=w.heap.size+1);omega) [.int .i64 id,.int .i64 dM,.int .i64 l,.int .i64 j,.int .i64 4,.slice none 0 0,.int .i64 0,.string bL,.int .i64 0,.int .i64 0,.int .i64 0,.slice none 0 0,.slice none 0 0,.string bL,.string bL,.slice va q.length g] 0 L))
 go_wp2;rw[ak.out];refine fL (EA (fn:=f20) rfl _ _ (w.heap.size+1) 47 _ (0,0) _ rfl cP.out underlying47 rfl Mj) rfl ?_;exact⟨⟨_,⟨id,dM,l,j,4,[],gZ 0,bL,bL,q⟩,rfl,⟨DM,qr⟩,none,0,0,bL,0,0,0,none,0,none,0,va,g,rfl,rfl,⟨am,fun h=>absurd h am⟩,B.out.low (fun b A=>db al A)⟩,ck.out⟩
end Go.b3
