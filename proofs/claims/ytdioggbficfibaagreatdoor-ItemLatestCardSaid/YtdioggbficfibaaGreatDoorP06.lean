/- ItemLatest, one part of the proof. -/
import Derived.Test.YtdioggbficfibaaGreatDoorP05
set_option linter.all false
set_option maxRecDepth 100000
set_option maxHeartbeats 16000000
namespace Go.bh.N
open Go Go.Proofs.Tryz Go.Proofs Go.RowKit Go.da
theorem aCO:(prog.info? 136).map (fun i=>(i.zero,i.size,i.bytes))=some (some (.agg #[.string ⟨#[]⟩,.int .i64 0]),2,24):=av
theorem aCN:(prog.info? 61).map (fun i=>(i.zero,i.size,i.bytes))=some (some (.agg #[.string ⟨#[]⟩,.int .i64 0,.int .i64 0]),3,32):=av
theorem amM:(prog.info? 96).map (fun i=>(i.zero,i.size,i.bytes))=some (some (.agg #[.int .i64 0,.string ⟨#[]⟩,.string ⟨#[]⟩,.slice none 0 0]),4,64):=av
theorem aCL:(prog.info? 3).map (fun i=>(i.zero,i.size,i.bytes))=some (some (.int .i64 0),1,8):=av
def rU:List (ByteArray×Nat)->List Value
 |[]=>[]
 |c::l=>.string c.1::.int .i64 c.2::rU l
def rr:List (ByteArray×Nat)->(Nat->Nat)->Nat->List Value
 |[],_,_=>[]
 |c::l,M,k=>.string c.1::.int .i64 c.2::.int .i64 (M k)::rr l M (k+1)
def sB:List Nat->List Value
 |[]=>[]
 |a::l=>.int .i64 a::sB l
abbrev uY:=bA×Nat×Nat×Nat
def ut:List uY->List Value
 |[]=>[]
 |e::l=>.int .i64 e.1.h::.string e.1.op::.string e.1.aG::.slice (some ⟨e.2.1,e.2.2.1,none⟩) e.1.args.length e.2.2.2::ut l
theorem aiH:∀l,(rU l).length=l.length*2
 |[]=>rfl
 |c::l=>by simp[rU,aiH l];omega
theorem ar9(M:Nat->Nat):∀l k,(rr l M k).length=l.length*3
 |[],_=>rfl
 |c::l,k=>by simp[rr,ar9 M l];omega
theorem ah8:∀l,(sB l).length=l.length
 |[]=>rfl
 |c::l=>by simp[sB,ah8 l]
theorem aq6:∀a b,ut (a++b)=ut a++ut b
 |[],b=>rfl
 |e::a,b=>by simp[ut,aq6 a b]
theorem aiI:∀l,∀u∈rU l,u.oneCell'=true
 |[],u,h=>by simp[rU]at h
 |c::l,u,h=>by
  simp only[rU,gl]at h
  rcases h with rfl|rfl|h
  ·rfl
  ·rfl
  ·exact aiI l u h
theorem ar_(M:Nat->Nat):∀l k,∀u∈rr l M k,u.oneCell'=true
 |[],k,u,h=>by simp[rr]at h
 |c::l,k,u,h=>by
  simp only[rr,gl]at h
  rcases h with rfl|rfl|rfl|h
  ·rfl
  ·rfl
  ·rfl
  ·exact ar_ M l _ u h
theorem ah9:∀l,∀u∈sB l,u.oneCell'=true
 |[],u,h=>by simp[sB]at h
 |c::l,u,h=>by
  simp only[sB,gl]at h
  rcases h with rfl|h
  ·rfl
  ·exact ah9 l u h
theorem YQ:∀(l:List (ByteArray×Nat)) (i:Nat) (hi:i<l),(rU l)[i*2]? =some (.string l[i].1)/\(rU l)[i*2+1]? =some (.int .i64 l[i].2)
 |c::l,0,_=>⟨rfl,rfl⟩
 |c::l,i+1,hi=>by
  have:=YQ l i (by simpa using hi)
  rw[show(i+1)*2=i*2+1+1 by omega]
  simpa[rU]using this
theorem ad9(M:Nat->Nat):∀(l:List (ByteArray×Nat)) (k i:Nat) (hi:i<l),(rr l M k)[i*3]? =some (.string l[i].1)/\(rr l M k)[i*3+1]? =some (.int .i64 l[i].2)/\(rr l M k)[i*3+2]? =some (.int .i64 (M (k+i)))
 |c::l,k,0,_=>⟨rfl,rfl,rfl⟩
 |c::l,k,i+1,hi=>by
  have:=ad9 M l (k+1) i (by simpa using hi)
  rw[show(i+1)*3=i*3+1+1+1 by omega,show k+(i+1)=k+1+i by omega]
  simpa[rr]using this
theorem Yh:∀(l:List Nat) (i:Nat) (hi:i<l),(sB l)[i]? =some (.int .i64 l[i])
 |c::l,0,_=>rfl
 |c::l,i+1,hi=>by simpa[sB]using Yh l i (by simpa using hi)
theorem aq7:∀(l:List uY) (i:Nat) (hi:i<l),(ut l)[i*4]? =some (.int .i64 l[i].1.h)/\(ut l)[i*4+1]? =some (.string l[i].1.op)/\(ut l)[i*4+2]? =some (.string l[i].1.aG)/\(ut l)[i*4+3]? =some (.slice (some ⟨l[i].2.1,l[i].2.2.1,none⟩) l[i].1.args.length l[i].2.2.2)
 |e::l,0,_=>⟨rfl,rfl,rfl,rfl⟩
 |e::l,i+1,hi=>by
  have:=aq7 l i (by simpa using hi)
  rw[show(i+1)*4=i*4+1+1+1+1 by omega]
  simpa[ut]using this
def BM(w:World)(b o:Nat)(l:List Value):Prop:=∀j u,l[j]? =some u->w.cell? ((⟨b,o,none⟩:Addr).add j)=some u
theorem X'(b o j:Nat):(⟨b,o,none⟩:Addr).add j=⟨b,o+j,none⟩:=by unfold Addr.add;split<;>simp_all
theorem BM.cons{w:World}{b o:Nat}{v:Value}{l:List Value}(h:w.cell? ⟨b,o,none⟩=some v)(c:BM w b (o+1) l):BM w b o (v::l):=fun j u a=>by
 cases j with
 |zero=>simp at a;subst a;rw[X'];exact h
 |succ j=>
  have:=c j u (by simpa using a)
  rw[X']at this⊢
  rw[show o+(j+1)=o+1+j by omega]
  exact this
theorem aq0{w:World}{b:Nat}:∀(l:List (ByteArray×Nat)) (o:Nat),(∀i (hi:i<l.length),w.cell? ⟨b,o+i*2,none⟩=some (.string l[i].1)/\w.cell? ⟨b,o+i*2+1,none⟩=some (.int .i64 l[i].2))->BM w b o (rU l)
 |[],o,_=>fun j u a=>by simp[rU]at a
 |c::l,o,h=>.cons (by have:=(h 0 (C0 _)).1;simp only[uL,h7]at this;exact this) (.cons (by have:=(h 0 (C0 _)).2;simp only[uL,h7]at this;exact this) (aq0 l _ fun i hi=>by
  have:=h (i+1) (WD hi)
  rw[show o+1+1+i*2=o+(i+1)*2 by omega]
  exact this))
theorem aq1{w:World}{b:Nat}(M:Nat->Nat):∀(l:List (ByteArray×Nat)) (k o:Nat),(∀i (hi:i<l.length),w.cell? ⟨b,o+i*3,none⟩=some (.string l[i].1)/\w.cell? ⟨b,o+i*3+1,none⟩=some (.int .i64 l[i].2)/\w.cell? ⟨b,o+i*3+2,none⟩=some (.int .i64 (M (k+i))))->BM w b o (rr l M k)
 |[],k,o,_=>fun j u a=>by simp[rr]at a
 |c::l,k,o,h=>.cons (by have:=(h 0 (C0 _)).1;simp only[uL,h7]at this;exact this) (.cons (by have:=(h 0 (C0 _)).2.1;simp only[uL,h7]at this;exact this) (.cons (by have:=(h 0 (C0 _)).2.2;simp only[uL,h7]at this;exact this) (aq1 M l (k+1) _ fun i hi=>by
  have:=h (i+1) (WD hi)
  rw[show o+1+1+1+i*3=o+(i+1)*3 by omega,show k+1+i=k+(i+1) by omega]
  exact this)))
theorem aqZ{w:World}{b:Nat}:∀(l:List Nat) (o:Nat),(∀i (hi:i<l.length),w.cell? ⟨b,o+i,none⟩=some (.int .i64 l[i]))->BM w b o (sB l)
 |[],o,_=>fun j u a=>by simp[sB]at a
 |c::l,o,h=>.cons (by have:=h 0 (C0 _);simp only[h7]at this;exact this) (aqZ l _ fun i hi=>by
  have:=h (i+1) (WD hi)
  rw[show o+1+i=o+(i+1) by omega]
  exact this)
variable{w:World}{e:TypeId}{n:Nat}{v:Value}{aP:List Value}
theorem RL{base:Nat}{size:Nat}(h:w.ownsRow base e size v n aP)(ae:v≠ .slice none 0 0):∃g cap ck,v=.slice (some ⟨g,0,none⟩) n cap/\base<=g/\w.heap[g]? =some (.cells ck e (0,0))/\n<=cap/\ck.size=cap*size/\∀i,i<n*size->ck[i]? =aP[i]? :=by
 exact anJ
def vb(w:World)(b t:Nat):Prop:=∃(arr:Array Value) (bb:Nat×Nat),w.heap[b]? =some (Obj.cells arr t bb)
def BP(w:World)(a:Option Addr)(ss:List (ByteArray×Nat))(M:Nat->Nat):Prop:=∃b o,a=some ⟨b,o,none⟩/\vb w b 61/\∀i (hi:i<ss.length),w.cell? ⟨b,o+i*3,none⟩=some (.string ss[i].1)/\w.cell? ⟨b,o+i*3+1,none⟩=some (.int .i64 ss[i].2)/\w.cell? ⟨b,o+i*3+2,none⟩=some (.int .i64 (M i))
def L0(w:World)(b:Option Addr)(l:List Nat):Prop:=0<l.length->∃a c,b=some ⟨a,c,none⟩/\vb w a 3
def BN(w:World)(ra:Option Addr)(rs:List bA):Prop:=∃b o,ra=some ⟨b,o,none⟩/\vb w b 96/\∀i (hi:i<rs.length),∃a ac,Jf w b (o+i*4) rs[i] a ac/\L0 w a rs[i].args/\rs[i].args.length<=ac
def x5(S:cU)(M:Nat->Nat)(rs:List bA)(w:World)(F:Array Value):Prop:=
 ∃ca cc b a ra rc,F=#[.string S.nm,.int .i64 S.db,.slice ca S.bw.length cc,.slice b S.aD.length a,.slice ra rs.length rc,.int .i64 S.al]/\jd w ca S.bw/\BP w b S.aD M/\BN w ra rs/\S.bw.length<=cc/\S.aD.length<=a/\rs.length<=rc
def zz(w:World)(e:uY):Prop:=e.1.args.length<=e.2.2.2/\∃arr bb,w.heap[e.2.1]? =some (.cells arr 3 bb)/\∀i (hi:i<e.1.args.length),arr[e.2.2.1+i]? =some (.int .i64 e.1.args[i])
structure sg (S:cU) (M:Nat->Nat) (rs:List bA) (base:Nat) (w:World) (gA n2 fH:Value) (bJ:List uY):Prop where
 c:w.ownsRow base 136 2 gA S.bw.length (rU S.bw)
 s:w.ownsRow base 61 3 n2 S.aD.length (rr S.aD M 0)
 r:w.ownsRow base 96 4 fH bJ.length (ut bJ)
 e:bJ.map (·.1)=rs
 a:∀e∈bJ,zz w e
structure uN (w:World) (aI m1:Array Value) (wr:World):Prop where
 b:β w wr
 g:wr.heap[w.heap.size]? =some (.cells aI 29 (0,0))
 q:wr.heap[w.heap.size+1]? =some (.cells #[.string ⟨#[]⟩,.int .i64 0,.slice none 0 0,.slice none 0 0,.slice none 0 0,.int .i64 0] 29 (0,0))
 o:wr.heap[w.heap.size+1+1]? =some (.cells m1 29 (0,0))
variable{wr w':World}
theorem uN.K{a b:Array Value}(h:uN w a b wr)(A:β wr w'):uN w a b w':=
 ⟨cj h.b A,by rw[A.block _ (c8 h.g)];exact h.g,by rw[A.block _ (c8 h.q)];exact h.q,by rw[A.block _ (c8 h.o)];exact h.o⟩
theorem uN.gO{a b:Array Value}(h:uN w a b wr)(i:Nat)(u:Value):uN w a (b.setIfInBounds i u) (wr.setCell ⟨w.heap.size+1+1,i,none⟩ u):=
 ⟨h.b.setCell bz _,by rw[g_ _ _ _ _ (by show w.heap.size≠w.heap.size+1+1;omega)];exact h.g,by rw[g_ _ _ _ _ (by show w.heap.size+1≠w.heap.size+1+1;omega)];exact h.q,hT h.o _⟩
variable{t:TypeId}{b:Nat}{cs:Array Value}
theorem Cz{base:Nat}{size:Nat}(h:w.ownsRow base e size v n aP){fr:Nat×Nat}(A:w.heap[b]? =some (.cells cs t fr))(ai:t≠e)(i:Nat)(u:Value):(w.setCell ⟨b,i,none⟩ u).ownsRow base e size v n aP:=by
 have bT:=U9 h A ai;refine⟨h.1,?_⟩;rcases h.2 with a|⟨g,cap,ck,aj,aF,bq,cI⟩
 exact .inl a;exact aoT
theorem ah_{e:uY}(h:zz w e){t:Nat}{fr:Nat×Nat}(A:w.heap[b]? =some (.cells cs t fr))(ai:t≠3)(i:Nat)(u:Value):zz (w.setCell ⟨b,i,none⟩ u) e:=by
 obtain⟨ae,arr,bb,H,I⟩:=h;refine⟨ae,arr,bb,?_,I⟩;rw[g_ _ _ _ _ (fun aj=>?_)];exact H;rw[aj,A]at H;cases H;exact ai rfl
theorem zz.K{e:uY}(h:zz w e)(A:β w w'):zz w' e:=by
 obtain⟨ae,arr,bb,H,I⟩:=h;exact⟨ae,arr,bb,by rw[A.block _ (c8 H)];exact H,I⟩
variable{M:Nat->Nat}{c d:Value}{a:List uY}
theorem sg.K{S:cU}{rs:List bA}{base:Nat}{b:Value}(h:sg S M rs base w c d b a)(A:β w w'):sg S M rs base w' c d b a:=
 ⟨EB h.c A,EB h.s A,EB h.r A,h.e,fun e aO=>(h.a e aO).K A⟩
theorem xB(w:World)(base:Nat)(e:TypeId)(size:Nat)(A:base<=w.heap.size):(w.alloc (.cells #[] e)).ownsRow base e size (.slice (some ⟨w,0,none⟩) 0 0) 0 []:=
 ⟨ao,.inr ⟨w.heap.size,0,#[],rfl,A,cW _ _,aZ _,dx _,ao,ao⟩⟩
theorem Hu{base:Nat}{size:Nat}(h:w.ownsRow base e size v n aP)(ae:v≠ .slice none 0 0):∃g cap,v=.slice (some ⟨g,0,none⟩) n cap:=by
 rcases h.2 with⟨aj,_⟩|⟨g,cap,a,aj,_⟩
 exact absurd aj ae;exact⟨g,cap,aj⟩
theorem JY(an:(w.alloc (.cells #[] e)).grownBy w' (Value.slice (some ⟨w,0,none⟩) 0 0).ownBlock):β w w':=
 ((br _ _).alloc (aZ _) _).grown an ao (fun g a=>by simp[Value.ownBlock]at a;omega)
theorem apS{base:Nat}{size:Nat}(h:w.ownsRow base e size v n aP):∀b,v.ownBlock=some b->∃cs fr,w.heap[b]? =some (.cells cs e fr)/\base<=b:=by
 intro b A;rcases h.2 with⟨c,_⟩|⟨g,cap,i,aj,a,d,f⟩
 subst c;simp[Value.ownBlock]at A;subst aj;simp[Value.ownBlock]at A;subst A;exact⟨_,_,d,a⟩
variable{o:Obj}{row:Option Nat}
theorem N7(an:(w.alloc o).grownBy w' row)(c:∀b,row=some b->∃cs fr,w.heap[b]? =some (.cells cs 96 fr)){fr:Nat×Nat}(A:w.heap[b]? =some (.cells cs t fr))(ai:t≠96):w'.heap[b]? =some (.cells cs t fr):=by
 rw[an.block b (by have:=c8 A;simp;omega) (fun e=>?_),tT _ _ (c8 A)];exact A;obtain⟨f,d,a⟩:=c b e.symm;rw[A]at a;cases a;exact ai rfl
theorem apQ(an:(w.alloc o).grownBy w' row)(d:∀b,row=some b->∃cs fr,w.heap[b]? =some (.cells cs 96 fr)){base:Nat}{size:Nat}(h:w.ownsRow base e size v n aP)(aO:e≠96):w'.ownsRow base e size v n aP:=by
 refine⟨h.1,?_⟩;rcases h.2 with c|⟨g,cap,j,aj,a,f,i⟩
 exact .inl c;exact .inr ⟨g,cap,j,aj,a,N7 an d f aO,i⟩
theorem uN.grown{a f:World}{d g:Array Value}(h:uN w d g a)(an:(a.alloc o).grownBy f row)(e:∀b,row=some b->∃cs fr,a.heap[b]? =some (.cells cs 96 fr)/\w.heap.size<=b):uN w d g f:=by
 have c:∀b,row=some b->∃cs fr,a.heap[b]? =some (.cells cs 96 fr):=fun b A=>by obtain⟨cs,fr,H,_⟩:=e b A;exact⟨cs,fr,H⟩
 exact⟨(h.b.alloc h.b.size o).grown an (by have:=h.b.size;simp;omega) (fun b A=>by obtain⟨_,_,_,H⟩:=e b A;exact H),N7 an c h.g ak,N7 an c h.q ak,N7 an c h.o ak⟩
variable{f:Value}
theorem sg.next{S:cU}{l:List bA}{base:Nat}{g i:Value}(h:sg S M l base w g i c a)(e:uY)(k:zz w e)(an:(w.alloc o).grownBy w' c.ownBlock)(m:w'.ownsRow base 96 4 f (a.length+1) (ut a++ut [e])):sg S M (l++[e.1]) base w' g i f (a++[e]):=by
 have d:∀b,c.ownBlock=some b->∃cs fr,w.heap[b]? =some (.cells cs 96 fr):=fun b A=>by obtain⟨cs,fr,H,_⟩:=apS h.r b A;exact⟨cs,fr,H⟩
 have aH:∀q,zz w q->zz w' q:=fun q ⟨ae,arr,bb,H,I⟩=>⟨ae,arr,bb,N7 an d H ak,I⟩;refine⟨apQ an d h.c ak,apQ an d h.s ak,?_,by simp[h.e],fun q j=>?_⟩;rw[aq6];simpa using m;rcases lo.1 j with H|H;exact aH q (h.a q H);simp at H;subst H;exact aH _ k
theorem sg.HF{S:cU}{l:List bA}{base:Nat}(h:sg S M l base w d f c a){fr:Nat×Nat}(A:w.heap[b]? =some (.cells cs 29 fr))(i:Nat)(u:Value):sg S M l base (w.setCell ⟨b,i,none⟩ u) d f c a:=
 ⟨Cz h.c A ak i u,Cz h.s A ak i u,Cz h.r A ak i u,h.e,fun e aO=>ah_ (h.a e aO) A ak i u⟩
theorem awy{base g cap:Nat}{r:bA}(h:w.ownsRow base 3 1 (.slice (some ⟨g,0,none⟩) n cap) n (sB r.args))(d:n=r.args.length):zz w (r,g,0,cap):=by
 obtain⟨f,j,b,aj,_,a,e,_,c⟩:=RL h ao;cases aj;refine⟨by simp only;omega,b,_,a,fun i hi=>?_⟩;simp only at hi⊢;rw[gP,c i z];exact Yh r.args i hi
theorem aIL{S:cU}{l:List bA}{base:Nat}{g e:Value}(h:sg S M l base w f g e a){z0 n o z3 z4 z5:Value}(A:w.heap[b]? =some (.cells #[z0,n,o,z3,z4,z5] 29 (0,0)))(a0 bW cD a3 a4 a5:Value): sg S M l base ((((((w.setCell ⟨b,0,none⟩ a0).setCell ⟨b,1,none⟩ bW).setCell ⟨b,2,none⟩ cD).setCell ⟨b,3,none⟩ a3).setCell ⟨b,4,none⟩ a4).setCell ⟨b,5,none⟩ a5) f g e a/\((((((w.setCell ⟨b,0,none⟩ a0).setCell ⟨b,1,none⟩ bW).setCell ⟨b,2,none⟩ cD).setCell ⟨b,3,none⟩ a3).setCell ⟨b,4,none⟩ a4).setCell ⟨b,5,none⟩ a5).heap[b]? =some (.cells #[a0,bW,cD,a3,a4,a5] 29 (0,0)):=by
 have d:=hT (i:=0) A a0;have c:=hT (i:=1) d bW;have cw:=hT (i:=2) c cD;have j:=hT (i:=3) cw a3;have k:=hT (i:=4) j a4;have m:=hT (i:=5) k a5;exact⟨(((((h.HF A 0 a0).HF d 1 bW).HF c 2 cD).HF cw 3 a3).HF j 4 a4).HF k 5 a5,m⟩
theorem Yo{B:Nat}{a:World}(h:Below B a w)(A:B<=b)(a0 bW cD a3 a4 a5:Value):Below B a ((((((w.setCell ⟨b,0,none⟩ a0).setCell ⟨b,1,none⟩ bW).setCell ⟨b,2,none⟩ cD).setCell ⟨b,3,none⟩ a3).setCell ⟨b,4,none⟩ a4).setCell ⟨b,5,none⟩ a5):=
 (((((h.setCell (p:=⟨b,0,none⟩) A a0).setCell (p:=⟨b,1,none⟩) A bW).setCell (p:=⟨b,2,none⟩) A cD).setCell (p:=⟨b,3,none⟩) A a3).setCell (p:=⟨b,4,none⟩) A a4).setCell (p:=⟨b,5,none⟩) A a5
theorem arz:(prog.info? 29).map (·.size)=some 6:=av
def azw(S:cU)(b c a:Value):Array Value:=#[.string S.nm,.int .i64 S.db,b,c,a,.int .i64 S.al]
theorem ND(S:cU)(bm:qZ S)(w:World)(M:Nat->Nat)(rs:List bA)(P:rs.length<=40)(OC:∀r∈rs,r.args.length<=3)(ca bd ra:Option Addr)(cc f rc:Nat)(eA:jd w ca S.bw)(fF:sA w bd S.aD M)(du:wV w ra rs): χ 16 #[.agg #[S.nm,.int .i64 S.db,.slice ca S.bw.length cc,.slice bd S.aD.length f,.slice ra rs.length rc,.int .i64 S.al]] w fun e w'=>(∃gA n2 C a,e=.returned (.agg (azw S gA n2 C))/\sg S M rs w w' gA n2 C a):=by
 obtain⟨ar,an,mf,mH,mI⟩:=im aCO;obtain⟨aw,al,sN,aS,bp⟩:=im aCN;obtain⟨Um,TT,k8,jn,mK⟩:=im amM;obtain⟨kf,TU,TJ,TK,DW⟩:=im aCL;have aA:=bm.bw;have r4:=bm.aD;obtain⟨d,j,ax,ay,rfl,k9,dn⟩:=eA;obtain⟨bL,g,rfl,ke,kF⟩:=fF;obtain⟨rb,aE,rfl,iw,kE⟩:=du;go_enter func16,ntmps16;go_upto_region 2 with fail
 have n:uN w #[S.nm,.int .i64 S.db,.slice (some ⟨d,j,none⟩) S.bw.length cc,.slice (some ⟨bL,g,none⟩) S.aD.length f,.slice (some ⟨rb,aE,none⟩) rs.length rc,.int .i64 S.al] #[S.nm,.int .i64 S.db,.slice (some ⟨d,j,none⟩) S.bw.length cc,.slice (some ⟨bL,g,none⟩) S.aD.length f,.slice (some ⟨rb,aE,none⟩) rs.length rc,.int .i64 S.al] (((w.alloc (.cells #[S.nm,.int .i64 S.db,.slice (some ⟨d,j,none⟩) S.bw.length cc,.slice (some ⟨bL,g,none⟩) S.aD.length f,.slice (some ⟨rb,aE,none⟩) rs.length rc,.int .i64 S.al] 29)).alloc (.cells #[.string ⟨#[]⟩,.int .i64 0,.slice none 0 0,.slice none 0 0,.slice none 0 0,.int .i64 0] 29)).alloc (.cells #[S.nm,.int .i64 S.db,.slice (some ⟨d,j,none⟩) S.bw.length cc,.slice (some ⟨bL,g,none⟩) S.aD.length f,.slice (some ⟨rb,aE,none⟩) rs.length rc,.int .i64 S.al] 29)):=by have cy:=i_ w (.cells #[S.nm,.int .i64 S.db,.slice (some ⟨d,j,none⟩) S.bw.length cc,.slice (some ⟨bL,g,none⟩) S.aD.length f,.slice (some ⟨rb,aE,none⟩) rs.length rc,.int .i64 S.al] 29);have dz:=i_ (w.alloc (.cells #[S.nm,.int .i64 S.db,.slice (some ⟨d,j,none⟩) S.bw.length cc,.slice (some ⟨bL,g,none⟩) S.aD.length f,.slice (some ⟨rb,aE,none⟩) rs.length rc,.int .i64 S.al] 29)) (.cells #[.string ⟨#[]⟩,.int .i64 0,.slice none 0 0,.slice none 0 0,.slice none 0 0,.int .i64 0] 29);exact acw
 generalize (((w.alloc (.cells #[S.nm,.int .i64 S.db,.slice (some ⟨d,j,none⟩) S.bw.length cc,.slice (some ⟨bL,g,none⟩) S.aD.length f,.slice (some ⟨rb,aE,none⟩) rs.length rc,.int .i64 S.al] 29)).alloc (.cells #[.string ⟨#[]⟩,.int .i64 0,.slice none 0 0,.slice none 0 0,.slice none 0 0,.int .i64 0] 29)).alloc (.cells #[S.nm,.int .i64 S.db,.slice (some ⟨d,j,none⟩) S.bw.length cc,.slice (some ⟨bL,g,none⟩) S.aD.length f,.slice (some ⟨rb,aE,none⟩) rs.length rc,.int .i64 S.al] 29))=O at n⊢;have aF:O.cell? ⟨w,2,none⟩=some (.slice (some ⟨d,j,none⟩) S.bw.length cc):=aK 2 n.g;have bZ:=c8 n.g;have ix:=c8 n.o;have Dm:=G (aq0 (w:=O.alloc (.cells #[] 136)) (b:=d) S.bw j fun i hi=>by
  have aa:(O.alloc (.cells #[] 136)).heap[d]? =some (.cells ax 136 ay):=by
   rw[(n.b.alloc n.b.size _).block d (c8 k9)];exact k9
  simp only[World.cell?,aa]
  exact dn i hi)
 go_upto_region 3 with(at_builtin;refine ln _ rfl _ _ 25 rfl w 136 ar _ 2 24 underlying25 an mf mH mI rfl ak (.slice (some ⟨O,0,none⟩) 0 0) 0 [] rfl (xB O _ _ _ n.b.size) ⟨d,j,none⟩ S.bw.length cc (rU S.bw) rfl (aiH _) Dm.out (aiI _) (by unfold maxLen;omega) z (by have:=n.b.size;simp;omega) ?_;intro ek aq Z vz AK;rw[gP,zt]at Z;obtain⟨u,x,rfl⟩:=Hu Z (fun e=>by have:=(AK.1 e).1;cases this);have ey:=JY vz;have Q:=n.K ey;have c2:aq.cell? ⟨w.heap.size+1+1,2,none⟩=some (.slice (some ⟨d,j,none⟩) S.bw.length cc):=aK 2 Q.o;have hx:aq.frozen? ⟨w.heap.size+1+1,2,none⟩=false:=(by simp[World.frozen?,Q.o]))
 have E:=Q.gO 2 (.slice (some ⟨u,0,none⟩) S.bw.length x);have Z5:=Cz Z Q.o ak 2 (.slice (some ⟨u,0,none⟩) S.bw.length x);have q:=E.b;clear Z vz AK c2 hx Q n Dm ey aF bZ ix;generalize (aq.setCell ⟨w.heap.size+1+1,2,none⟩ (.slice (some ⟨u,0,none⟩) S.bw.length x))=Y at E Z5 q⊢;have bq:Y.cell? ⟨w,3,none⟩=some (.slice (some ⟨bL,g,none⟩) S.aD.length f):=aK 3 E.g;have bZ:=c8 E.g;have ix:=c8 E.o;have ae:=G (aq1 (w:=Y.alloc (.cells #[] 61)) (b:=bL) M S.aD 0 g fun i hi=>by
  rw[(q.alloc q.size _).cell ke,(q.alloc q.size _).cell ke,(q.alloc q.size _).cell ke,gP]
  exact kF i hi)
 go_upto_region 4 with(at_builtin;refine ln _ rfl _ _ 26 rfl w 61 aw _ 3 32 underlying26 al sN aS bp rfl ak (.slice (some ⟨Y,0,none⟩) 0 0) 0 [] rfl (xB Y _ _ _ q.size) ⟨bL,g,none⟩ S.aD.length f (rr S.aD M 0) rfl (ar9 _ _ _) ae.out (ar_ _ _ _) (by unfold maxLen;omega) z (by have:=q.size;simp;omega) ?_;intro v4 H X ag af;rw[gP,zt]at X;obtain⟨l,m,rfl⟩:=Hu X (fun e=>by have:=(af.1 e).1;cases this);have jc:=JY ag;have o:=E.K jc;have c4:H.cell? ⟨w.heap.size+1+1,3,none⟩=some (.slice (some ⟨bL,g,none⟩) S.aD.length f):=aK 3 o.o;have xa:H.frozen? ⟨w.heap.size+1+1,3,none⟩=false:=(by simp[World.frozen?,o.o]);have c5:H.cell? ⟨w.heap.size+1+1,4,none⟩=some (.slice (some ⟨rb,aE,none⟩) rs.length rc):=aK 4 o.o;have f5:H.frozen? ⟨w.heap.size+1+1,4,none⟩=false:=(by simp[World.frozen?,o.o]))
 have Ay:=(o.gO 3 (.slice (some ⟨l,0,none⟩) S.aD.length m)).gO 4 (.slice none 0 0);have Z6:=Cz (Cz (EB Z5 jc) o.o ak 3 (.slice (some ⟨l,0,none⟩) S.aD.length m)) (o.gO 3 (.slice (some ⟨l,0,none⟩) S.aD.length m)).o ak 4 (.slice none 0 0);have yw:=Cz (Cz X o.o ak 3 (.slice (some ⟨l,0,none⟩) S.aD.length m)) (o.gO 3 (.slice (some ⟨l,0,none⟩) S.aD.length m)).o ak 4 (.slice none 0 0);have Az:uN w #[S.nm,.int .i64 S.db,.slice (some ⟨d,j,none⟩) S.bw.length cc,.slice (some ⟨bL,g,none⟩) S.aD.length f,.slice (some ⟨rb,aE,none⟩) rs.length rc,.int .i64 S.al] #[S.nm,.int .i64 S.db,(.slice (some ⟨u,0,none⟩) S.bw.length x),(.slice (some ⟨l,0,none⟩) S.aD.length m),.slice none 0 0,.int .i64 S.al] ((H.setCell ⟨w.heap.size+1+1,3,none⟩ (.slice (some ⟨l,0,none⟩) S.aD.length m)).setCell ⟨w.heap.size+1+1,4,none⟩ (.slice none 0 0)):=Ay;clear Ay
 go_wp2;clear X ag af c4 xa c5 f5 o E ae jc bq bZ ix Z5 q;generalize ((H.setCell ⟨w.heap.size+1+1,3,none⟩ (.slice (some ⟨l,0,none⟩) S.aD.length m)).setCell ⟨w.heap.size+1+1,4,none⟩ (.slice none 0 0))=bi at Az Z6 yw⊢;go_loopw [4] (fun i wr=>∃(k:Nat) (C:Value) (a:List uY),k<=rs.length/\i=.int .i64 k/\uN w #[S.nm,.int .i64 S.db,.slice (some ⟨d,j,none⟩) S.bw.length cc,.slice (some ⟨bL,g,none⟩) S.aD.length f,.slice (some ⟨rb,aE,none⟩) rs.length rc,.int .i64 S.al] #[S.nm,.int .i64 S.db,(.slice (some ⟨u,0,none⟩) S.bw.length x),(.slice (some ⟨l,0,none⟩) S.aD.length m),C,.int .i64 S.al] wr/\sg S M (rs.take k) w wr (.slice (some ⟨u,0,none⟩) S.bw.length x) (.slice (some ⟨l,0,none⟩) S.aD.length m) C a) (fun i _=>rs.length-(RowKit.intOf i).toNat);case atStart=>exact⟨0,_,[],dx _,rfl,Az,Z6,yw,mT _ _ _ _,ao,fun e aO=>by cases aO⟩
 case round=>
  clear Az Z6 yw;obtain⟨k,C,a,aa,rfl,c,F⟩:=hrel;have de:a.length=k:=by have:=hU List.length F.e;simpa[WB aa]using this
  subst de;have cI:wr.cell? ⟨w,4,none⟩=some (.slice (some ⟨rb,aE,none⟩) rs.length rc):=aK 4 c.g;have bZ:=c8 c.g;have ix:=c8 c.o;have av:=c.b.size;by_cases au:a.length<rs.length
  ·obtain⟨aR,ac,P⟩:=kE a.length au;have L:=P.K iw c.b;obtain⟨A,B,rfl⟩:=P.cA;have oK:=OC _ (fP au);have k6:=L.bo;have hL:=L.c1;have hx:=L.c2;have f3:=L.c3;have az:rb<wr.heap.size:=z;have mP:(0:Int)<=(a.length:Int):=z;have lF:(a.length:Int)<rs.length:=z;have oS:(a.length:Int)<=1000:=z;have ad:=G (aqZ (w:=(wr.alloc (.cells #[.int .i64 rs[a.length].h,.string rs[a.length].op,.string rs[a.length].aG,.slice (some ⟨A,B,none⟩) rs[a.length].args.length ac] 96)).alloc (.cells #[] 3)) (b:=A) rs[a.length].args B fun i hi=>by
    obtain⟨c6,kH,kU,iX,lD⟩:=P.args z
    cases kU
    rw[((c.b.alloc av _).alloc bz _).cell iX]
    exact lD i hi)
   have N:=G c;have V:=G F;clear c F P L;go_upto_region 10 with(at_builtin;refine ln _ rfl _ _ 22 rfl w 3 kf _ 1 8 oY TU TJ TK DW rfl ak (.slice (some ⟨wr.heap.size+1,0,none⟩) 0 0) 0 [] rfl (by have:=xB (wr.alloc (.cells #[.int .i64 rs[a.length].h,.string rs[a.length].op,.string rs[a.length].aG,.slice (some ⟨A,B,none⟩) rs[a.length].args.length ac] 96)) w 3 1 bz;rw[i_]at this;exact this) ⟨A,B,none⟩ rs[a.length].args.length ac (sB rs[a.length].args) rfl (by rw[ah8];omega) ad.out (ah9 _) (by unfold maxLen;omega) z bz ?_;intro nr w7 qx sV T8;rw[gP,zt]at qx;obtain⟨D,y,rfl⟩:=Hu qx (fun e=>by have:=(T8.1 e).1;cases this);have fx:Below (wr.alloc (.cells #[.int .i64 rs[a.length].h,.string rs[a.length].op,.string rs[a.length].aG,.slice (some ⟨A,B,none⟩) rs[a.length].args.length ac] 96)).heap.size (wr.alloc (.cells #[.int .i64 rs[a.length].h,.string rs[a.length].op,.string rs[a.length].aG,.slice (some ⟨A,B,none⟩) rs[a.length].args.length ac] 96)) w7:=JY (by rw[i_];exact sV);have K:w7.heap[wr.heap.size]? =some (.cells #[.int .i64 rs[a.length].h,.string rs[a.length].op,.string rs[a.length].aG,.slice (some ⟨A,B,none⟩) rs[a.length].args.length ac] 96 (0,0)):=(by rw[fx.block _ ao];exact cW _ _);have nG:w7.cell? ⟨wr,3,none⟩=some (.slice (some ⟨A,B,none⟩) rs[a.length].args.length ac):=aK 3 K;have f7:w7.frozen? ⟨wr,3,none⟩=false:=(by simp[World.frozen?,K]))
   have GM:(w7.setCell ⟨wr,3,none⟩ (.slice (some ⟨D,0,none⟩) rs[a.length].args.length y)).heap[wr.heap.size]? =some (.cells #[.int .i64 rs[a.length].h,.string rs[a.length].op,.string rs[a.length].aG,.slice (some ⟨D,0,none⟩) rs[a.length].args.length y] 96 (0,0)):=hT K _;have U:β wr (w7.setCell ⟨wr,3,none⟩ (.slice (some ⟨D,0,none⟩) rs[a.length].args.length y)):=((((br _ _).alloc (aZ _) _).trans (fx.mono ao)).setCell (aZ _) _);have J3:=ah_ (awy qx rfl) K ak 3 (.slice (some ⟨D,0,none⟩) rs[a.length].args.length y);clear K fx qx sV T8 nG f7 ad k6 hL hx f3 cI;generalize (w7.setCell ⟨wr,3,none⟩ (.slice (some ⟨D,0,none⟩) rs[a.length].args.length y))=dc at GM U J3⊢;have T:=N.out.K U;have Z7:=V.out.K U;obtain⟨va,s,rfl⟩:∃va s,C=.slice va a.length s:=by
    rcases Z7.r.2 with⟨aM,b3⟩|⟨pL,cap,ck,aj,aF,_⟩
    ·rw[b3];exact⟨_,_,aM⟩
    ·exact⟨_,_,aj⟩
   have gt:dc.cell? ⟨w.heap.size+1+1,4,none⟩=some (.slice va a.length s):=aK 4 T.o;obtain⟨fo,b8,cr,ej⟩:=Gf GM;have yO:=T.b.size;have n8:=G T;have W:=G Z7;have FK:=G J3;clear N V T Z7 J3 GM U
   go_wp2_with (at_builtin;refine ln _ rfl _ _ 27 rfl w 96 Um _ 4 64 aeY TT k8 jn mK rfl ak (.slice va a.length s) a.length (ut a) rfl (W.out.r.alloc _) ⟨dc,0,none⟩ 1 1 [.int .i64 rs[a.length].h,.string rs[a.length].op,.string rs[a.length].aG,.slice (some ⟨D,0,none⟩) rs[a.length].args.length y] rfl rfl (rA (cs:=#[.int .i64 rs[a.length].h,.string rs[a.length].op,.string rs[a.length].aG,.slice (some ⟨D,0,none⟩) rs[a.length].args.length y]) (t:=96) (fr:=(0,0)) (px dc _)) (by simp[Value.oneCell']) (by unfold maxLen;omega) z bz ?_;intro v9 gG yI yD ap;obtain⟨vo,R,rfl⟩:=Hu yI (fun e=>by have:=(ap.1 e).2;omega);have I:=G (n8.out.grown yD (apS W.out.r));have oG:gG.cell? ⟨w.heap.size+1+1,4,none⟩=some (.slice va a.length s):=aK 4 I.out.o;have Gs:gG.frozen? ⟨w.heap.size+1+1,4,none⟩=false:=(by simp[World.frozen?,I.out.o]));have ah:=I.out.gO 4 (.slice (some ⟨vo,0,none⟩) (a.length+1) R);have ab:=(W.out.next (rs[a.length],D,0,y) FK.out yD yI).HF I.out.o 4 (.slice (some ⟨vo,0,none⟩) (a.length+1) R);rw[←p9 au]at ab;have ai:uN w #[S.nm,.int .i64 S.db,.slice (some ⟨d,j,none⟩) S.bw.length cc,.slice (some ⟨bL,g,none⟩) S.aD.length f,.slice (some ⟨rb,aE,none⟩) rs.length rc,.int .i64 S.al] #[S.nm,.int .i64 S.db,(.slice (some ⟨u,0,none⟩) S.bw.length x),(.slice (some ⟨l,0,none⟩) S.aD.length m),.slice (some ⟨vo,0,none⟩) (a.length+1) R,.int .i64 S.al] (gG.setCell ⟨w.heap.size+1+1,4,none⟩ (.slice (some ⟨vo,0,none⟩) (a.length+1) R)):=ah;clear ah oG Gs yI yD I n8 W;go_roundw;case rel=>first|exact⟨a.length+1,_,_,z,bG,ai,ab⟩|((repeat apply Exists.intro);refine⟨?_,rfl⟩;exact⟨a.length+1,_,_,z,bG,ai,ab⟩)
   case measure=>simp[RowKit.intOf];omega
  ·have q6:a.length=rs.length:=z;rw[q6,tk]at F;obtain⟨va,s,rfl⟩:∃va s,C=.slice va rs.length s:=by
    rw[←q6];rcases F.r.2 with⟨aM,b3⟩|⟨pL,cap,ck,aj,aF,_⟩
    ·rw[b3];exact⟨_,_,aM⟩
    ·exact⟨_,_,aj⟩
   obtain⟨g3,di,dL,fN,gt,g4⟩:=f_ c.o;obtain⟨eN,dv,dy,gj,hF,hQ⟩:=f_ c.q;have z0:wr.frozen? ⟨w.heap.size+1,0,none⟩=false:=by simp[World.frozen?,c.q]
   have cy:wr.frozen? ⟨w.heap.size+1,1,none⟩=false:=by simp[World.frozen?,c.q]
   have dz:wr.frozen? ⟨w.heap.size+1,2,none⟩=false:=by simp[World.frozen?,c.q]
   have z3:wr.frozen? ⟨w.heap.size+1,3,none⟩=false:=by simp[World.frozen?,c.q]
   have z4:wr.frozen? ⟨w.heap.size+1,4,none⟩=false:=by simp[World.frozen?,c.q]
   have z5:wr.frozen? ⟨w.heap.size+1,5,none⟩=false:=by simp[World.frozen?,c.q]
   have N:=G c;have V:=G F;clear c F;have fM:=aIL V.out N.out.q (.string S.nm) (.int .i64 S.db) (.slice (some ⟨u,0,none⟩) S.bw.length x) (.slice (some ⟨l,0,none⟩) S.aD.length m) (.slice va rs.length s) (.int .i64 S.al);have dm:=Yo N.out.b (b:=w.heap.size+1) z (.string S.nm) (.int .i64 S.db) (.slice (some ⟨u,0,none⟩) S.bw.length x) (.slice (some ⟨l,0,none⟩) S.aD.length m) (.slice va rs.length s) (.int .i64 S.al);have Mi:=G fM;have fy:=G dm;clear fM dm
   go_wp2;refine jT (ae7 (fn:=f16) rfl _ _ (w.heap.size+1) 29 _ (0,0) _ rfl Mi.out.2 underlying29 rfl arz) rfl ?_;exact⟨⟨_,_,_,a,rfl,Mi.out.1⟩,fy.out⟩
end Go.bh.N
namespace Go.bS
open Go Go.Proofs.Tryz Go.Proofs Go.RowKit Go.Lib Go.aJ
theorem Ps:(prog.info? 36).map (fun i=>(i.zero,i.size,i.bytes))=some (some (.slice none 0 0),1,24):=av
theorem amN:(prog.info? 9).map (fun i=>(i.zero,i.size,i.bytes))=some (some (.string ⟨#[]⟩),1,16):=av
variable{n cap:Nat}{w w':World}{o:Obj}{v:Value}
theorem apR{base g:Nat}(an:(w.alloc o).grownBy w' v.ownBlock)(a:v.ownBlock=some g∨g=w.heap.size+1): eQ (jh base v) w w'/\∀b,jh base v b/\b<w.heap.size->jh base (.slice (some ⟨g,0,none⟩) n cap) b:=by
 refine⟨⟨by have:=an.size;simp at this;omega,fun b A au=>by
   rw[an.block b bz A.2]
   exact CU w _ b au⟩,?_⟩
 rintro b ⟨⟨d,c⟩,cw⟩;refine⟨d,fun e=>?_⟩;simp[Value.ownBlock]at e;subst e;rcases a with a|a
 exact c a.symm;omega
variable{d:Nat}{a:Option Addr}
theorem cz.push{base g:Nat}(an:(w.alloc o).grownBy w' v.ownBlock)(i:v.ownBlock=some g∨g=w.heap.size+1){l:List bC}(h:cz (jh base v) (aU (jh base v) d) w a l):cz (jh base (.slice (some ⟨g,0,none⟩) n cap)) (aU (jh base (.slice (some ⟨g,0,none⟩) n cap)) d) w' a l:=by
 obtain⟨e,c⟩:=apR (base:=base) (n:=n) (cap:=cap) an i;have H:=h.lt (P':=aU (fun b=>jh base v b/\b<w.heap.size) d) (fun F v f=>f.lt);have I:=H.ex (w':=w') (fun _ _ _ _ ag A=>ag.ex A) (e.zq fun b A=>A.1);exact I.low c (fun _ _ _ ag=>ag.low c)
structure je (base d:Nat) (w:World) (v:Value) (l:List (List bC)):Prop where
 o:∃ss:List Value,ss.length=l.length/\w.ownsRow base 36 1 v l.length ss/\∀j (H:j<ss.length) (I:j<l.length),∃a c,ss[j]=.slice a l[j].length c/\cz (jh base v) (aU (jh base v) d) w a l[j]
theorem je.nil(base d:Nat)(w:World):je base d w (.slice none 0 0) []:=⟨[],rfl,mT _ _ _ _,fun j H=>by cases H⟩
theorem je.gX{base:Nat}{l:List (List bC)}(h:je base d w v l):∃a c,v=.slice a l c:=by
 exact UI
theorem je.lt{base:Nat}{l:List (List bC)}(h:je base d w v l):∀g,v.ownBlock=some g->base<=g/\g<w.heap.size:=by
 exact anI
theorem je.ex{base:Nat}{l:List (List bC)}(h:je base d w v l)(f:eQ (fa base) w w'):je base d w' v l:=by
 obtain⟨k,H,I,i⟩:=h.o;refine⟨k,H,xA I f,fun j a b=>?_⟩;obtain⟨p,c,e,g⟩:=i j a b;exact⟨p,c,e,g.ex (fun _ _ _ _ ag A=>ag.ex A) (f.zq fun b A=>A.1)⟩
theorem je.K{base:Nat}{l:List (List bC)}(h:je base d w v l)(A:β w w'):je base d w' v l:=h.ex (.hP A)
variable{c:Nat}
theorem je.p1{base:Nat}{l:List (List bC)}(h:je base d w v l){u:List bC}(i:w.heap.size<=n)(A:base<=n)(J:cz (fa n) (aU (fa n) c) w' a u):cz (jh base v) (aU (jh base v) c) w' a u:=by
 have f:∀b,fa n b->jh base v b:=fun b g=>⟨cO A g,fun e=>by have:=(h.lt b e.symm).2;have:n<=b:=g;omega⟩;exact J.low f fun _ _ _ ag=>ag.low f
theorem je.push{base d:Nat}{w w':World}{v:Value}{l:List (List bC)}(h:je base d w v l){a:Option Addr}{u:List bC}{c:Nat}(n:cz (jh base v) (aU (jh base v) d) w a u){o:Obj}{g cap:Nat}(an:(w.alloc o).grownBy w' v.ownBlock)(i:v.ownBlock=some g∨g=w.heap.size+1){ss:List Value}(k:ss.length=l.length)(m:∀j (H:j<ss.length) (I:j<l.length),∃a c,ss[j]=.slice a l[j].length c/\cz (jh base v) (aU (jh base v) d) w a l[j]) (r:w'.ownsRow base 36 1 (.slice (some ⟨g,0,none⟩) (l.length+1) cap) (l.length+1) (ss++[.slice a u.length c])):je base d w' (.slice (some ⟨g,0,none⟩) (l.length+1) cap) (l++[u]):=by
 refine⟨ss++[.slice a u.length c],by simp[k],by simpa using r,fun j a' s=>?_⟩;by_cases f:j<ss.length
 ·have b:j<l.length:=z;rw[xW f,xW b];obtain⟨p,q,e,ag⟩:=m j f b;exact⟨p,q,e,ag.push an i⟩
 ·have b:¬j<l.length:=z;rw[xX z,xX z];simp only[LP];exact⟨a,c,rfl,n.push an i⟩
theorem je.aQ{base:Nat}{l:List (List bC)}(h:je base d w v l)(o:l.length<=100):∃a c,v=.slice a l c/\hK (fa base) (aU (fa base) d) w a l:=by
 obtain⟨ss,H,I,k⟩:=h.o;obtain⟨a,c,rfl⟩:=h.gX;refine⟨a,c,rfl,o,fun ae=>?_⟩;have qr:=I;rcases I.2 with⟨r,m⟩|⟨g,cap,t,aj,f,n,s,u,x,y⟩
 exact absurd m z
 ·injection aj with lU _ _
  refine⟨g,0,lU,f,bF n,fun j i=>?_⟩;obtain⟨p,q,e,ag⟩:=k j z i;refine⟨p,q,?_,ag.low (fun b A=>A.1) fun _ _ _ J=>J.low fun b A=>A.1⟩;exact aoy
section
variable {P:Program} {w:World}
theorem aeE{ops:Array Oper}{rest:List Oper}{o:Oper}{a:Act}{dY:Exit->Act->World->Prop}(y:o.guard=none)(s x:Operand)(t:TypeId)
  (n:o.op=.call {callee:=.builtin .append,args:=#[s,x],argTypes:=#[t,t]})
  (e:TypeId)(i:TypeInfo)(ai:P.underlying t=some (.slice e))(hi:P.info? e=some i)(b off m cap:Nat)(l:m<=cap)(ca:Option Addr)(c:Nat)
  (g:a.eval s=.slice (some ⟨b,off,none⟩) m cap)(f:a.eval x=.slice ca 0 c)(h:wpList P ops dY rest (a.put o.dst (.slice (some ⟨b,off,none⟩) m cap)) w):wpList P ops dY (o::rest) a w:=
 ae9 y fun _ r=>by
  have q:Src P i.size t (.slice ca 0 c) 0 [] w:=by
   cases ca with
   |none=>exact Src.ofNil w ai c
   |some ad=>exact Src.ofSlice w ai ad 0 c [] ao (fun j u hu=>by simp at hu) (fun u hu=>by cases hu)
  have k:=run_append_room_src (P:=P) w t t o.type e i ai hi b off m cap (.slice ca 0 c) 0 [] q l (fun j d=>by cases d) (fun j d=>by cases d)
  unfold Oper.wp execOp
  simp only[n,resolve,invoke,builtin,eZ,fJ,eW,Wv,qO,ID,g,f,k]
  exact r _ _ h
end
abbrev fh:Array Value:=#[.int .i64 0,.string ⟨#[]⟩,.int .i64 0,.int .i64 0,.int .i64 0,.slice none 0 0,.slice none 0 0]
structure rD (w:World) (F m1:Array Value) (wr:World):Prop where
 b:β w wr
 g:wr.heap[w.heap.size]? =some (.cells F 42 (0,0))
 q:wr.heap[w.heap.size+1]? =some (.cells fh 42 (0,0))
 o:wr.heap[w.heap.size+1+1]? =some (.cells m1 42 (0,0))
variable{wr:World}{F:Array Value}
theorem rD.K{a:Array Value}(h:rD w F a wr)(A:β wr w'):rD w F a w':=
 ⟨cj h.b A,by rw[A.block _ (bF h.g)];exact h.g,by rw[A.block _ (bF h.q)];exact h.q,by rw[A.block _ (bF h.o)];exact h.o⟩
theorem rD.gO{a:Array Value}(h:rD w F a wr)(i:Nat)(u:Value):rD w F (a.setIfInBounds i u) (wr.setCell ⟨w.heap.size+1+1,i,none⟩ u):=
 ⟨h.b.setCell bz _,by rw[g_ _ _ _ _ (by show w.heap.size≠w.heap.size+1+1;omega)];exact h.g,by rw[g_ _ _ _ _ (by show w.heap.size+1≠w.heap.size+1+1;omega)];exact h.q,hT h.o _⟩
theorem rD.grown{a w7:World}{f:Array Value}(h:rD w F f a){row:Option Nat}(an:(a.alloc o).grownBy w7 row)(d:∀b,row=some b->w.heap.size+3<=b):rD w F f w7:=by
 have c:∀b,b<w.heap.size+3->b<a.heap.size->w7.heap[b]? =a.heap[b]? :=fun b A au=>by rw[an.block b bz (fun e=>by have:=d b e.symm;omega)];exact CU a _ b au
 exact⟨(h.b.alloc h.b.size o).grown an (by have:=h.b.size;simp;omega) (fun b A=>by have:=d b A;omega),by rw[c _ z (bF h.g)];exact h.g,by rw[c _ z (bF h.q)];exact h.q,by rw[c _ z (bF h.o)];exact h.o⟩
theorem rD.start(w:World)(F:Array Value):rD w F F (((w.alloc (.cells F 42)).alloc (.cells fh 42)).alloc (.cells F 42)):=by
 have cy:=i_ w (.cells F 42);have dz:=i_ (w.alloc (.cells F 42)) (.cells fh 42);exact acw
def A'(l:List ByteArray):List Value:=l.map Value.string
theorem arZ{w:World}{ad:Addr}{l:List ByteArray}{b o:Nat}(e:ad=⟨b,o,none⟩)(c:∀i (hi:i<l.length),w.cell? ⟨b,o+i,none⟩=some (.string l[i])):∀j u,(A' l)[j]? =some u->w.cell? (ad.add j)=some u:=fun j u hu=>by
 subst e
 rw[Fl]
 rw[A',n4]at hu
 by_cases a:j<l.length
 ·rw[jU a]at hu
  simp at hu
  rw[c j a,hu]
 ·rw[uI z]at hu
  cases hu
theorem arY{base:Nat}{g:Nat}{l:List ByteArray}(f:l.length<=40)(h:w.ownsRow base 9 1 (.slice (some ⟨g,0,none⟩) n cap) n (A' l)):hc (fa base) w (some ⟨g,0,none⟩) l:=
 ⟨f,fun ae=>by
  have d:=h
  rcases h.2 with⟨c,j⟩|⟨m,o,k,aj,b,e,_⟩
  ·cases c
  ·injection aj with a _ _
   injection a with a
   injection a with a
   subst a
   refine⟨g,0,rfl,b,bF e,fun i hi=>?_⟩
   have:=d.cells (g:=g) rfl i (.string l[i]) (by simp[A',hi])
   rw[Fl]at this
   exact this⟩
theorem YZ(d:Nat)(k:Int)(s:ByteArray)(N S n:Int)(cs:List ByteArray)(aQ:List (List bC))(V:0<aQ.length->∀(w:World) (a:Option Addr) (c:Nat) (l:List bC),cz aV (aU aV d) w a l->χ 513 #[.slice a l.length c] w (XW d w l)) (w:World)(F:Array Value)(h:aU aV (d+1) w F (.mk k s N S n cs aQ)):χ 466 #[.agg F] w (uZ (d+1) w (.mk k s N S n cs aQ)):=by
 obtain⟨ca,cc,ra,rc,rfl,M,Q⟩:=h;have fR:=G (rD.start w (bM k s N S n ca cs.length cc ra aQ.length rc));obtain⟨Eh,D4,hs,O,iH⟩:=im amN;obtain⟨Pn,OT,ng,ii,oO⟩:=im Ps;go_enter func466,ntmps466;go_upto_region 2 with fail
 generalize (((w.alloc (.cells (bM k s N S n ca cs.length cc ra aQ.length rc) 42)).alloc (.cells fh 42)).alloc (.cells (bM k s N S n ca cs.length cc ra aQ.length rc) 42))=y at fR⊢;go_cut [] (fun cY=>∃(c1:Option Addr) (c2:Nat),rD w (bM k s N S n ca cs.length cc ra aQ.length rc) (bM k s N S n c1 cs.length c2 ra aQ.length rc) cY/\hc (fa (w.heap.size+3)) cY c1 cs);case first=>
  have f:=fR.out;have hr:y.cell? ⟨w,5,none⟩=some (.slice ca cs.length cc):=aK 5 f.g;have bZ:=bF f.g;have ix:=bF f.o;have jS:y.cell? ⟨w.heap.size+1+1,5,none⟩=some (.slice ca cs.length cc):=aK 5 f.o;have z5:y.frozen? ⟨w.heap.size+1+1,5,none⟩=false:=kg 5 f.o;have dT:=f.b.size;have P:=G f;by_cases ae:cs=[]
  ·subst ae;clear f Q V M;simp only[uJ]at hr jS
   go_wp2_with (at_builtin;refine aeE rfl _ _ 39 rfl 9 Eh It D4 y 0 0 0 (aZ _) ca cc rfl rfl ?_);go_meet;refine⟨_,_,(P.out.gO 5 _).K ((br _ _).alloc (aZ _) _),⟨ao,fun ae=>absurd ae ao⟩⟩
  ·have N_:0<cs.length:=by
    rcases cs with _|⟨x,l⟩
    ·exact absurd rfl ae
    ·simp
   have DM:=M.1;obtain⟨dr,fL,rfl,_,k9,dn⟩:=M.2 N_;have Dm:=G (arZ (w:=y.alloc (.cells #[] 9)) (ad:=⟨dr,fL,none⟩) (l:=cs) rfl fun i hi=>((f.b.alloc dT _).cell k9).trans (dn i hi));have cK:=Go.bh.N.xB y (w.heap.size+3) 9 1 z;clear f Q V M dn
   go_wp2_with (at_builtin;refine ln _ rfl _ _ 39 rfl (w.heap.size+3) 9 Eh _ 1 16 It D4 hs O iH rfl ak (.slice (some ⟨y,0,none⟩) 0 0) 0 [] rfl cK ⟨dr,fL,none⟩ cs.length cc (A' cs) rfl (by simp[A']) Dm.out (by simp[A',Value.oneCell']) (by unfold maxLen;omega) z bz ?_;intro ek C nP vz AK;rw[gP,zt]at nP;obtain⟨ba,rR,rfl⟩:=Go.bh.N.Hu nP (fun e=>by have:=(AK.1 e).1;cases this);have ey:=G (Go.bh.N.JY vz);have E:=P.out.K ey.out;have c2:C.cell? ⟨w.heap.size+1+1,5,none⟩=_:=aK 5 E.o;have hx:=kg 5 E.o);go_meet;exact⟨_,_,E.gO 5 _,arY DM (Go.bh.N.Cz nP E.o ak 5 _)⟩
 case rest=>
  obtain⟨c1,c2,f,ah⟩:=hcut;have lK:wc.cell? ⟨w.heap.size+1+1,6,none⟩=some (.slice ra aQ.length rc):=aK 6 f.o;have eO:wc.frozen? ⟨w.heap.size+1+1,6,none⟩=false:=kg 6 f.o;have E:rD w (bM k s N S n ca cs.length cc ra aQ.length rc) (bM k s N S n c1 cs.length c2 none 0 0) (wc.setCell ⟨w.heap.size+1+1,6,none⟩ (.slice none 0 0)):=f.gO 6 (.slice none 0 0);have TH:hc (fa (w.heap.size+3)) (wc.setCell ⟨w.heap.size+1+1,6,none⟩ (.slice none 0 0)) c1 cs:=ah.ex ((eQ.refl _ wc).set (by show ¬(w.heap.size+3<=w.heap.size+1+1);omega) 6 _);have eS:=G E;have uS:=G TH;have nN:=bF f.o;clear f ah M fR E TH
  go_wp2;clear lK eO;generalize wc.setCell ⟨w.heap.size+1+1,6,none⟩ (.slice none 0 0)=C at*;have iN:=G (fun W (ar:β w W)=>(hK.K (aU.mono aV d) Q ar).2);have JZ:=Q.1;have jH:=G V;clear Q V;have Xy:=G uS.out.lt;have al:w.heap.size+3<=C.heap.size:=bF eS.out.o;have an:C.heap.size<=C.heap.size:=aZ _;clear uS;obtain⟨B,Oc⟩:∃B,B=C.heap.size:=⟨_,rfl⟩;rw[←Oc]at Xy al;have af:B<=C.heap.size:=z;clear Oc an;go_loopw [4] (fun i wr=>∃(j:Nat) (c3:Option Addr) (c4:Nat),j<=aQ.length/\i=.int .i64 j/\rD w (bM k s N S n ca cs.length cc ra aQ.length rc) (bM k s N S n c1 cs.length c2 c3 j c4) wr/\hc (fun b=>fa (w.heap.size+3) b/\b<B) wr c1 cs/\je B d wr (.slice c3 j c4) (aQ.take j)/\B<=wr.heap.size) (fun i _=>aQ.length-(RowKit.intOf i).toNat);case atStart=>exact⟨0,none,0,dx _,rfl,eS.out,Xy.out,je.nil _ _ _,af⟩
  case round=>
   clear eS Xy af;obtain⟨j,c3,c4,aa,rfl,m,T,D,Od⟩:=hrel;have iV:wr.cell? ⟨w,6,none⟩=some (.slice ra aQ.length rc):=aK 6 m.g;have A:=m.b;by_cases au:j<aQ.length
   ·obtain⟨dR,eM,rfl,_,jl,jw⟩:=iN.out _ m.b z;obtain⟨dD,ep,aC,ab⟩:=jw j au;obtain⟨ss,Y,yL,G6⟩:=D.o;have R:(aQ.take j).length=j:=by rw[nu];omega
    rw[R]at Y yL;have oW:wr.cell? ⟨w.heap.size+1+1,6,none⟩=some (.slice c3 j c4):=aK 6 m.o;have hf:wr.frozen? ⟨w.heap.size+1+1,6,none⟩=false:=kg 6 m.o;have O:=bF m.o;have hs:=bF m.g;have gz:=G (fun W (ar:β wr W)=>jH.out z W dD ep _ (cz.K (aU.mono aV d) ab ar));have iC:=G yL;have L:=G D;have f:=G m;have P:=G T;have uT:=G G6;have X:Hid (some (w.heap.size+1+1)≠(Value.slice c3 j c4).ownBlock):=G fun e=>by have:=(D.lt _ e.symm).1;omega
    have eH:Hid (aQ.take (j+1)=aQ.take j++[aQ[j]]):=G (p9 au);have hA:(0:Int)<=(j:Int):=z;have gU:(j:Int)<aQ.length:=z;have ph:=A.size;clear jw ab D m T yL G6 A;generalize aQ[j]=row at*
    go_wp2
    go_region_law (first
     |(have OR:=Z;refine LJ _ (by rfl) _ _ _ (by rfl) B 36 Pn _ 1 24 Rb OT ng ii oO rfl ak (.slice c3 j c4) j ss (by rfl) ((xA iC.out (.hP K)).alloc _) ⟨o,0,none⟩ 1 1 [.slice eT row.length pJ] (by rfl) (by rfl) (rA (cs:=#[.slice eT row.length pJ]) (t:=36) (fr:=(0,0)) (px o _)) (by simp[Value.oneCell']) ak (by unfold maxLen;omega) z bz (o.heap.size+1) ao ?_;intro g cap w7 cX q fv T2;have Hc:w7.cell? ⟨w.heap.size+1+1,6,none⟩=some (.slice c3 j c4):=(by rw[q.cell_far _ bz X.out,(e4 o _).cell Z];exact ai);have f7:w7.frozen? ⟨w.heap.size+1+1,6,none⟩=false:=(by rw[q.frozen_far _ bz X.out,(e4 o _).frozen Z];exact B5))
     |(go_simp;go_at_call 513;refine(gz.out _ ((br _ _).drew)).mono ?_;rintro e o ⟨⟨eT,pJ,rfl,xd⟩,U⟩;have ai:o.cell? ⟨w.heap.size+1+1,6,none⟩=some (.slice c3 j c4):=(by rw[U.cell (by simpa using O)];exact oW);have B5:o.frozen? ⟨w.heap.size+1+1,6,none⟩=false:=(by rw[U.frozen (by simpa using O)];exact hf);have Z:w.heap.size+1+1<o.heap.size:=cS U O;have K:β wr o:=(lh wr).trans U;have AP:=K.size))
    all_goals(
     have Tq:=L.out.K K
     have pi:je B d w7 (.slice (some ⟨g,0,none⟩) (j+1) cap) (aQ.take j++[row]):=by
      have:=Tq.push (a:=eT) (u:=row) (c:=pJ) (L.out.p1 (aZ _) Od xd) q fv (Y.trans R.symm) (fun p H I=>by
       obtain⟨b8,cr,e,ag⟩:=uT.out p H I
       exact⟨b8,cr,e,ag.ex (fun _ _ _ _ ag A=>ag.ex A) (.hP K)⟩) (by rw[R];exact cX)
      rw[R]at this
      exact this
     rw[←eH.out]at pi
     have xq:B<=w7.heap.size:=by have:=q.size;simp at this;omega
     have OA:=(f.out.K K).grown q (fun b A=>by have:=(L.out.lt b A).1;omega)
     have Ov:=(P.out.K K).ex (w':=w7) ⟨by have:=q.size;simp at this;omega,fun b A au=>by
      rw[q.block b bz (fun e=>by have:=(L.out.lt b e.symm).1;have:=A.2;omega)]
      exact CU o _ b au⟩
     clear gz iC L f P uT X eH iV oW hf aC xd cX q fv Tq Y R
     go_wp2
     have DR:rD w (bM k s N S n ca cs.length cc (some ⟨dR,eM,none⟩) aQ.length rc) (bM k s N S n c1 cs.length c2 (some ⟨g,0,none⟩) (j+1) cap) (w7.setCell ⟨w.heap.size+1+1,6,none⟩ (.slice (some ⟨g,0,none⟩) (j+1) cap)):=OA.gO 6 (.slice (some ⟨g,0,none⟩) (j+1) cap)
     have Cc:=Ov.ex ((eQ.refl _ w7).set (r:=w.heap.size+1+1) (fun A=>by have:=A.1;have:w.heap.size+3<=w.heap.size+1+1:=this;omega) 6 (.slice (some ⟨g,0,none⟩) (j+1) cap))
     have ap:=pi.ex ((eQ.refl _ w7).set (r:=w.heap.size+1+1) (fun(A:B<=w.heap.size+1+1)=>z) 6 (.slice (some ⟨g,0,none⟩) (j+1) cap))
     have yO:B<=(w7.setCell ⟨w.heap.size+1+1,6,none⟩ (.slice (some ⟨g,0,none⟩) (j+1) cap)).heap.size:=by simpa using xq
     exact⟨⟨j+1,_,cap,z,bG,DR,Cc,ap,yO⟩,by simp[RowKit.intOf];omega⟩)
   ·obtain rfl:j=aQ.length:=z;rw[tk]at D;obtain⟨a',fd,cg,du⟩:=D.aQ JZ;injection cg with aj aF bq
    subst aj;subst bq;obtain⟨g3,di,dL,fN,gt,g4,g9⟩:=eX m.o;obtain⟨eN,dv,dy,gj,hF,hQ,i8⟩:=eX m.q;obtain⟨z0,cy,dz,z3,z4,z5,eO⟩:=he m.q;have f:=G m;have g2:=G (show aU (fa (w.heap.size+3)) (d+1) wr (bM k s N S n c1 cs.length c2 c3 aQ.length c4) (.mk k s N S n cs aQ)from⟨c1,c2,c3,c4,rfl,T.low fun b A=>A.1,du.low (fun b (A:B<=b)=>(show w.heap.size+3<=b by omega)) fun _ _ _ J=>J.low fun b (A:B<=b)=>(show w.heap.size+3<=b by omega)⟩);have nd:=bF m.q;clear m T D du jH iN
    go_wp2;refine jT (ae7 (fn:=f466) rfl _ _ (w.heap.size+1) 42 _ (0,0) _ rfl (EE f.out.q _ _ _ _ _ _ _) Wj rfl Qx) rfl ?_;exact⟨⟨_,rfl,(g2.out.ex (K6 (eQ.refl _ wr) (by show ¬(w.heap.size+3<=w.heap.size+1);omega) _ _ _ _ _ _ _)).low fun b A=>by have:w.heap.size+3<=b:=A;show w.heap.size<=b;omega⟩,iJ f.out.b z _ _ _ _ _ _ _⟩
theorem axI:WQ (aU aV 0) 0:=fun w F v h=>by
 obtain⟨k,s,N,S,n,cs,aQ⟩:=v
 obtain⟨rfl,c⟩:=h
 refine(YZ 0 k s N S n cs [] (fun ae=>absurd ae ao) w F (aU.Ib ⟨rfl,c⟩)).mono fun e w' ⟨⟨a,H,I⟩,A⟩=>⟨⟨a,H,?_⟩,A⟩
 obtain⟨ca,cc,ra,rc,e,b,_⟩:=I
 exact⟨rfl,ca,cc,ra,rc,e,b⟩
theorem ND:∀(d:Nat),WQ (aU aV (d+1)) (d+1):=by
 intro d;induction d with
 |zero=>exact fun w F ⟨k,s,N,S,n,cs,aQ⟩ h=>YZ 0 k s N S n cs aQ (fun _ w a c l b=>aiY (aU.mono aV 0) axI w a c l b) w F h
 |succ d e=>exact fun w F ⟨k,s,N,S,n,cs,aQ⟩ h=>YZ (d+1) k s N S n cs aQ (fun _ w a c l b=>aiY (aU.mono aV (d+1)) e w a c l b) w F h
def Mf(e:Ending):Prop:=∃r:Bool,e=.returned (.bool r)
def z'(c:Nat):Int:=if c<32∨126<c then 0 else if 48<=c/\c<=57 then 1 else if 65<=c/\c<=90 then 2 else if 97<=c/\c<=122 then 3 else if c=32 then 5 else 6
theorem axm(c:Nat)(a:c<256)(w:World):Calls prog 462 #[.int .u8 (c:Int)] w fun e w'=>e=.returned (.int .i64 (z' c))/\w'=w:=by
 go_enter func462,ntmps462
 go_wp2;all_goals(go_ret;refine⟨?_,rfl⟩;refine hU (fun x=>Ending.returned (Value.int .i64 x)) ?_;unfold z';(repeat' split)<;>first|rfl|(exfalso;omega)|(exfalso;simp at*;omega))
def F9(c:Nat)(cl:Int):Bool:=if z' c=0 then false else decide (z' c=cl∨cl=7)
theorem axC(k:Int)(cl:Int)(a:cl=1∨cl=2∨cl=7)(w:World):Calls prog 509 #[k,cl] w fun e w'=>e=.returned (.bool (decide (k=cl∨cl=7)))/\w'=w:=by
 by_cases h:k=cl
 ·subst h;go_enter func509,ntmps509
  go_wp2;go_ret;exact⟨ao,rfl⟩
 ·have e:(k==cl)=false:=by simpa using h
  rcases a with rfl|rfl|rfl;exact aoX;exact aoX
  ·go_enter func509,ntmps509
   go_wp2;go_ret;exact⟨ao,rfl⟩
theorem aih(c:Nat)(f:c<256)(cl:Int)(d:cl=1∨cl=2∨cl=7)(w:World):Calls prog 456 #[.int .u8 (c:Int),cl] w fun e w'=>e=.returned (.bool (F9 c cl))/\w'=w:=by
 have b:=G (axm c f w);have i:=G fun k=>axC k cl d w;have ae:0<=z' c:=by unfold z';(repeat' split)<;>decide
 clear d;by_cases a:z' c=0
 ·have A:F9 c cl=false:=by simp[F9,a]
  rw[a]at b;rw[A];go_enter func456,ntmps456
  go_wp2_with (first|(go_at_call 462;(with_reducible refine(b.out).mono ?_);rintro e g ⟨rfl,rfl⟩))
  exact PN
 ·have A:F9 c cl=decide (z' c=cl∨cl=7):=by simp[F9,a]
  have H:0<z' c:=z;rw[A];generalize z' c=k at*;go_enter func456,ntmps456
  go_wp2_with (first|(go_at_call 462;(with_reducible refine(b.out).mono ?_);rintro e g ⟨rfl,rfl⟩)|(go_at_call 509;(with_reducible refine(i.out _).mono ?_);rintro e j ⟨rfl,rfl⟩))
  go_ret;exact⟨ao,rfl⟩
theorem awl(s:ByteArray)(f:s.size<=200)(w:World):Calls prog 394 #[s,.int .i64 7] w fun e w'=>Mf e/\w=w':=by
 have C:=G fun c a w=>aih c a 7 z w;go_enter func394,ntmps394
 go_wp2;go_loop [5] (fun i=>∃k:Nat,k<=s.size/\i=.int .i64 k) (fun i=>s.size-(RowKit.intOf i).toNat);case atStart=>exact⟨0,dx _,rfl⟩
 case round=>
  obtain⟨k,d,rfl⟩:=hrel;by_cases au:k<s.size
  ·have b:(k:Int)<s.size:=z;have l:(k:Int)<=200:=z;have a:=s[k].toNat_lt
   go_wp2_with (go_at_call 456;refine(C.out _ a _).mono ?_;rintro e g ⟨rfl,rfl⟩;generalize F9 _ _=j);all_goals first
    |(
     go_round
     case rel=>exact⟨k+1,z,bG⟩
     case measure=>simp[RowKit.intOf];omega)
    |(go_ret;exact⟨⟨_,rfl⟩,rfl⟩)
  ·have b:¬(k:Int)<s.size:=z
   go_wp2;go_ret;exact⟨⟨_,rfl⟩,rfl⟩
theorem amY(s:ByteArray)(a:s.size<=200)(w:World):Calls prog 273 #[s] w fun e w'=>Mf e/\w=w':=by
 have C:=G (awl s a w);have d:(s.size:Int)<=200:=z;go_enter func273,ntmps273
 go_wp2_with (go_at_call 394;refine(C.out).mono ?_;rintro e b ⟨⟨c,rfl⟩,rfl⟩);go_ret;exact⟨⟨_,rfl⟩,rfl⟩
def pE(w:World)(a:Option Addr)(cl:Int):Prop:=∃b o arr bb,a=some ⟨b,o,none⟩/\w.heap[b]? =some (.cells arr 298 bb)/\arr[o]? =some (.int .i64 cl)/\arr[o+1]? =some (.int .i64 1)/\arr[o+2]? =some (.int .i64 200)/\arr[o+3]? =some (.string ⟨#[]⟩)
variable{cl:Int}
theorem pE.K(h:pE w a cl)(A:β w w'):pE w' a cl:=by
 obtain⟨b,o,arr,bb,e,c,h⟩:=h;exact⟨b,o,arr,bb,e,(A.block _ (g6.1 c).1).trans c,h⟩
theorem pE.cells(h:pE w a cl):∃b o,a=some ⟨b,o,none⟩/\b<w.heap.size/\w.cell? ⟨b,o,none⟩=some (.int .i64 cl)/\w.cell? ⟨b,o+1,none⟩=some (.int .i64 1)/\w.cell? ⟨b,o+2,none⟩=some (.int .i64 200)/\w.cell? ⟨b,o+3,none⟩=some (.string ⟨#[]⟩):=by
 obtain⟨b,o,arr,bb,e,c,ae,H,I,d⟩:=h;exact⟨b,o,e,(g6.1 c).1,by simp[World.cell?,c,ae],by simp[World.cell?,c,H],by simp[World.cell?,c,I],by simp[World.cell?,c,d]⟩
def oy(w:World)(b n:Nat):Prop:=b<w.heap.size/\(∀i,i<n->∃x,w.cell? ⟨b,i,none⟩=some (.bool x))/\∀i,w.frozen? ⟨b,i,none⟩=false
variable{b:Nat}
theorem oy.K(h:oy w b n)(A:β w w'):oy w' b n:=
 ⟨cS A h.1,fun i hi=>by obtain⟨x,e⟩:=h.2.1 i hi;exact⟨x,(A.cell h.1).trans e⟩,fun i=>(A.frozen h.1).trans (h.2.2 i)⟩
theorem oy.set(h:oy w b n)(j:Nat)(f:j<n)(x:Bool):oy (w.setCell ⟨b,j,none⟩ (.bool x)) b n:=by
 refine⟨by simpa using h.1,fun i hi=>?_,fun i=>by simpa using h.2.2 i⟩;by_cases e:i=j;subst e;obtain⟨y,a⟩:=h.2.1 i hi;exact⟨x,ae3 _ _ _ a⟩;rw[Wl _ _ _ _ (fun c=>e (by injection c with _ d;exact d.symm))];exact h.2.1 i hi
theorem oy.aIp(h:oy w b n)(c j:Nat)(a:c≠b)(u:Value):oy (w.setCell ⟨c,j,none⟩ u) b n:=by
 refine⟨by simpa using h.1,fun i hi=>?_,fun i=>by simpa using h.2.2 i⟩;rw[uG _ _ _ _ a];exact h.2.1 i hi
theorem oy.ee(w:World)(n:Nat):oy (w.alloc (.cells (Array.replicate n (.bool false)) 4)) w n:=
 ⟨ao,fun i hi=>⟨false,ly (cW w _) (by simp[hi])⟩,fun i=>cJ (cW w _)⟩
theorem aCQ:(prog.info? 4).map (fun i=>(i.zero,i.size,i.bytes))=some (some (.bool false),1,1):=av
theorem aEM(n:Nat)(H:1<=n)(h:n<=300)(w:World):(Instr.makeSlice 104 (.int .i64 (n:Int)) (.int .i64 (n:Int))).run prog w=.ok (.slice (some ⟨w,0,none⟩) n n) (w.alloc (.cells (Array.replicate n (.bool false)) 4)):=by
 obtain⟨i,hi,c,b,A⟩:=im aCQ;have g:IntKind.i64.wrap (n:Int)=n:=pw _ ⟨z,z⟩;have ai:prog.underlying 104=some (.slice 4):=underlying104;have d:¬(n:Int)<0:=z;have f:¬(281474976710656<(n:Int)):=z;simp[Instr.makeSlice,ae8 ai,typeInfo,hi,A,b,c,g,d,f,asInt,asIntOf,zeroValue,sizeOf];rw[bs z];have e:(Array.map (fun x=>(Value.bool false).cells[x%(Value.bool false).cells.size]!) (Array.range n))=Array.replicate n (Value.bool false):=by
  apply Array.ext;simp;intro j H I;have a:(Value.bool false).cells=#[Value.bool false]:=rfl;simp[a,Nat.mod_one]
 rw[e];simp[newRow]
def XX(e:Ending):Prop:=∃s:ByteArray,e=.returned (.string s)/\kp s
structure IL (w:World) (b:Nat) (l:List UInt8):Prop where
 c:∀i (hi:i<l.length),w.cell? ⟨b,i,none⟩=some (.int .u8 (l[i].toNat:Int))
 f:∀i,i<l.length->w.frozen? ⟨b,i,none⟩=false
variable{l:List UInt8}
theorem IL.set(h:IL w b l)(k:Nat)(a:k<l)(x:UInt8):IL (w.setCell ⟨b,k,none⟩ (.int .u8 (x.toNat:Int))) b (l.set k x):=by
 refine⟨fun i hi=>?_,fun i hi=>by simpa using h.f i (by simpa using hi)⟩;have d:i<l.length:=by simpa using hi
 by_cases e:k=i;subst e;rw[ae3 _ _ _ (h.c k a)];simp;rw[Wl _ _ _ _ (fun c=>e (by injection c)),h.c i d];simp[Rn e]
def rN(l:List UInt8):Prop:=∀c∈l,32<=c.toNat/\c.toNat<=126
theorem rN.hP{s:ByteArray}(h:kp s):rN s.data.toList:=fun c b=>by
 obtain⟨k,a,e⟩:=IF.1 b
 have f:k<s.size:=by simpa using a
 have:=h.2 k f
 have d:s[k]=c:=by rw[←e];rfl
 rw[d]at this
 omega
theorem rN.CJ(h:rN l)(c:l.length<=200):kp ⟨l.toArray⟩:=⟨by simpa[ByteArray.size]using c,fun k a=>by
 have b:k<l.length:=by simpa[ByteArray.size]using a
 have:=h l[k] (fP b)
 show 32<=((l.toArray[k]'(by simpa using b)).toNat:Int)/\_
 have e:(⟨l.toArray⟩:ByteArray)[k]'a=l[k]:=by show l.toArray[k]'_=_;simp
 simp only[List.getElem_toArray]
 rw[e]
 omega⟩
theorem rN.set(h:rN l)(k:Nat)(x:UInt8)(b:32<=x.toNat/\x.toNat<=126):rN (l.set k x):=fun c a=>by
 rcases List.mem_or_eq_of_mem_set a with H|rfl
 ·exact h c H
 ·exact b
theorem awQ(s:ByteArray)(w:World)(a:Nat):IL (w.drew.alloc (.cells (bytesRow s a) 5 ((bytesRow s a).size,(bytesRow s a).size+1))) w s.data.toList:=by
 have c:(w.drew.alloc (.cells (bytesRow s a) 5 ((bytesRow s a).size,(bytesRow s a).size+1))).heap[w.heap.size]? =some (.cells (bytesRow s a) 5 ((bytesRow s a).size,(bytesRow s a).size+1)):=px w.drew _;have d:s.size<=(bytesRow s a).size:=by unfold bytesRow;rw[Array.size_append,Array.size_map];exact IH _ _
 refine⟨fun i hi=>?_,fun i hi=>?_⟩
 ·have b:i<s.data.size:=by simpa using hi
  simp only[World.cell?,c];rw[bytesRow,asL (by simpa using b)];simp only[Array.getElem?_map,Array.getElem?_eq_getElem b,n6];simp
 ·have b:i<s.size:=by simpa using hi
  simp only[World.frozen?,c];simp;omega
theorem aLo(s:ByteArray)(g:kp s)(w:World):χ 514 #[s] w fun e w'=>XX e:=by
 have N:(s.size:Int)<=200:=by have:=g.1;omega
 have F:=run_bytes_of_string (P:=prog) w 9 126 5 s LH se xV;have a:=G (rN.hP g);have D:s.data.toList.length=s.size:=jC;have m:β w ((w.alloc (.cells (bytesRow s (grownCap w s.size 0 5)) 5 ((bytesRow s (grownCap w s.size 0 5)).size,(bytesRow s (grownCap w s.size 0 5)).size+1))).drew):=(e4 w _).drew;have r:IL ((w.alloc (.cells (bytesRow s (grownCap w s.size 0 5)) 5 ((bytesRow s (grownCap w s.size 0 5)).size,(bytesRow s (grownCap w s.size 0 5)).size+1))).drew) w s.data.toList:=awQ s w _;have u:w.heap.size<((w.alloc (.cells (bytesRow s (grownCap w s.size 0 5)) 5 ((bytesRow s (grownCap w s.size 0 5)).size,(bytesRow s (grownCap w s.size 0 5)).size+1))).drew).heap.size:=ao;have t:=G r;have A:=G m;clear r m;go_enter func514,ntmps514
 go_wp2;clear F;generalize ((w.alloc (.cells (bytesRow s (grownCap w s.size 0 5)) 5 ((bytesRow s (grownCap w s.size 0 5)).size,(bytesRow s (grownCap w s.size 0 5)).size+1))).drew)=Q at*;generalize grownCap w s.size 0 5=I at*;go_loopw [4] (fun i wr=>∃(k:Nat) (l:List UInt8),k<=s.size/\i=.int .i64 k/\l.length=s.size/\rN l/\IL wr w l/\β w wr/\w.heap.size<wr.heap.size) (fun i _=>s.size-(RowKit.intOf i).toNat);case atStart=>exact⟨0,s.data.toList,dx _,rfl,D,a.out,t.out,A.out,u⟩
 case round=>
  clear t A a u g;obtain⟨k,l,K,rfl,U,a,b,d,aA⟩:=hrel;by_cases au:k<s.size
  ·have V:(0:Int)<=(k:Int):=z;have E:(k:Int)<s.size:=z;have f:k<l.length:=z;have bo:=b.c k f;have J:=b.f k f;have eH:=G a;have jG:=G b;have dh:=G d;obtain⟨S,R⟩:=a l[k] (fP f);by_cases L:97<=l[k].toNat/\l[k].toNat<=122
   ·have x:(97:Int)<=(l[k].toNat:Int):=z;have H:(l[k].toNat:Int)<=122:=z;have O:UInt8.size=256:=rfl;have T:IntKind.u8.wrap ((l[k].toNat:Int)-32)=(((UInt8.ofNat (l[k].toNat-32)).toNat:Nat):Int):=by rw[aeP (z:l[k].toNat-32<UInt8.size),show(l[k].toNat:Int)-32=((l[k].toNat-32:Nat):Int) by omega,QM,Bs z]
    have o:=G (b.set k f (UInt8.ofNat (l[k].toNat-32)));have q:=G (a.set k (UInt8.ofNat (l[k].toNat-32)) (by rw[aeP (z:l[k].toNat-32<UInt8.size)];omega));have n:=G (d.setCell (p:=⟨w,k,none⟩) (aZ _) (.int .u8 ((UInt8.ofNat (l[k].toNat-32)).toNat:Int)));generalize M:((UInt8.ofNat (l[k].toNat-32)).toNat:Int)=y at*;clear a b d
    go_wp2;go_roundw;case rel=>first|exact⟨k+1,_,z,bG,by simpa using U,q.out,o.out,n.out,by simpa using aA⟩|((repeat apply Exists.intro);refine⟨?_,rfl⟩;exact⟨k+1,_,z,bG,by simpa using U,q.out,o.out,n.out,by simpa using aA⟩)
    case measure=>simp[RowKit.intOf];omega
   clear a b d J;generalize l[k]=c at*;by_cases W:97<=c.toNat;have x:(97:Int)<=(c.toNat:Int):=z;have H:¬(c.toNat:Int)<=122:=z;exact aos;have x:¬(97:Int)<=(c.toNat:Int):=z;exact aos
  ·have E:¬(k:Int)<s.size:=z;have B:=run_convert_bytes_back (P:=prog) wr 126 9 5 ⟨w,0,none⟩ I l se xV LH (fun j C=>by rw[Fl,gP];exact b.c j C);rw[U]at B;have eH:=G (a.CJ (by rw[U];omega));clear a b
   go_wp2;go_ret;exact⟨⟨_,rfl,eH.out⟩,d⟩
end Go.bS
namespace Go.aJ
open Go Go.Proofs.Tryz Go.Proofs Go.RowKit Go.Lib
structure ha (W:World) (b:Nat) (x y af:Value):Prop where
 h:W.heap[b]? =some (.cells #[x,y,af] 337 (0,0))
variable{W:World}{b:Nat}{x y:Value}
theorem ha.lt{af:Value}(h:ha W b x y af):b<W.heap.size:=(g6.1 h.h).1
variable{W':World}
theorem ha.K{af:Value}(h:ha W b x y af)(A:β W W'):ha W' b x y af:=⟨(A.block b h.lt).trans h.h⟩
theorem ha.alloc{af:Value}(h:ha W b x y af)(o:Obj):ha (W.alloc o) b x y af:=h.K ((br _ _).alloc (aZ _) o)
theorem ha.drew{af:Value}(h:ha W b x y af):ha W.drew b x y af:=h.K ((br _ _).drew)
theorem ha.ee(W:World)(x y af:Value):ha (W.alloc (.cells #[x,y,af] 337 (0,0))) W x y af:=⟨cW W _⟩
theorem ha.bo{af:Value}(h:ha W b x y af):W.cell? ⟨b,0,none⟩=some x:=aK 0 h.h
theorem ha.c1{af:Value}(h:ha W b x y af):W.cell? ⟨b,1,none⟩=some y:=aK 1 h.h
theorem ha.c2{af:Value}(h:ha W b x y af):W.cell? ⟨b,2,none⟩=some af:=aK 2 h.h
theorem ha.af{i:Nat}{af:Value}(h:ha W b x y af):W.frozen? ⟨b,i,none⟩=false:=cJ h.h
structure zS (w W:World) (bt bQ cw:Nat) (dN dl cy dk dE dz dp cH z3:Value):Prop where
 p:ha W bt dN dl cy
 q:ha W bQ dk dE dz
 r:ha W cw dp cH z3
 h:β w W
 g:w.heap.size<=bt/\bt<bQ/\bQ<cw/\cw<W.heap.size
theorem QK(w:World)(b c a e d f i g z3:Value):zS w (((w.alloc (.cells #[b,c,a] 337 (0,0))).alloc (.cells #[e,d,f] 337 (0,0))).alloc (.cells #[i,g,z3] 337 (0,0))) w (w.heap.size+1) (w.heap.size+1+1) b c a e d f i g z3:=by
 have j:=i_ w (.cells #[b,c,a] 337 (0,0));have k:=i_ (w.alloc (.cells #[b,c,a] 337 (0,0))) (.cells #[e,d,f] 337 (0,0));have l:=i_ ((w.alloc (.cells #[b,c,a] 337 (0,0))).alloc (.cells #[e,d,f] 337 (0,0))) (.cells #[i,g,z3] 337 (0,0));refine⟨((ha.ee w b c a).alloc _).alloc _,?_,?_,(((br _ w).alloc (aZ _) _).alloc z _).alloc z _,z⟩;have:=(ha.ee (w.alloc (.cells #[b,c,a] 337 (0,0))) e d f).alloc (.cells #[i,g,z3] 337 (0,0));rw[j]at this;exact this;have:=ha.ee ((w.alloc (.cells #[b,c,a] 337 (0,0))).alloc (.cells #[e,d,f] 337 (0,0))) i g z3;rw[k,j]at this;exact this
variable{w:World}{a:Nat}{f i d e j c z3:Value}
theorem zS.K{cw:Nat}{g k:Value}(T:zS w W b a cw f i d g e k j c z3)(h:β W W'):zS w W' b a cw f i d g e k j c z3:=
 ⟨T.p.K h,T.q.K h,T.r.K h,cj T.h h,T.g.1,T.g.2.1,T.g.2.2.1,cS h T.g.2.2.2⟩
variable{h:Value}
theorem zS.alloc{cw:Nat}{g:Value}(T:zS w W b a cw f h d g e j i c z3)(o:Obj):zS w (W.alloc o) b a cw f h d g e j i c z3:=T.K ((br _ _).alloc (aZ _) o)
theorem zS.drew{cw:Nat}{g:Value}(T:zS w W b a cw f h d g e j i c z3):zS w W.drew b a cw f h d g e j i c z3:=T.K ((br _ _).drew)
theorem adb(p:Bool)(a b:ByteArray)(m n s u M:Nat)(w:World)(aH:dA a m)(A:dA b n)(Y:m<=1000000000000000)(ax:n<=1000000000000000)(fl:M=max s u)(U:M<=3)(X j:Nat)(J:X=m*10^(M-s))(Q:j=n*10^(M-u))(mF:X<=1000000000000000000)(mG:j<=1000000000000000000):χ 560 #[.agg #[.bool p,a,s],.agg #[.bool p,b,u]] w fun e w'=>nC p (X+j) M e:=by
 have AG:max (s:Int) (u:Int)=M:=z;have L:Hid (∀w,χ 567 #[.agg #[.bool p,a,s],M] w fun e w'=>nC p X M e):=fun w=>by rw[J];exact Bi p a m s M w aH Y z U
 have K:Hid (∀w,χ 567 #[.agg #[.bool p,b,u],M] w fun e w'=>nC p j M e):=fun w=>by rw[Q];exact Bi p b n u M w A ax z U
 have T:=G (QK w (.bool p) (.string a) s (.bool p) (.string b) u (.bool false) (.string ⟨#[]⟩) (.int .i64 0));clear aH A J Q fl;go_enter Q',Ra
 go_wp2_with (first|(have _:=R;go_at_call 567;(with_reducible refine(K.out _).mono ?_);rintro e l ⟨⟨f,rfl,fU⟩,y⟩;have g:=P.K y;have pG:=G ((c.out.alloc _).K y);have fo:=g.bo;have b8:=g.c1;have cr:=g.c2;have ix:=g.lt;have o:=G (g.alloc (.cells #[.bool p,f,M] 337 (0,0)));have N:=G (ha.ee l (.bool p) (.string f) M);have S:=G (pG.out.alloc (.cells #[.bool p,f,M] 337 (0,0))))|(go_at_call 567;(with_reducible refine(L.out _).mono ?_);rintro e k ⟨⟨D,rfl,R⟩,F⟩;have c:=G (T.out.K F);have P:=ha.ee k (.bool p) (.string D) M;have bZ:=c.out.q.lt;have cp:=c.out.p.lt;have dC:=c.out.q.bo;have aj:=c.out.q.c1;have V:=c.out.q.c2;have bq:=c.out.p.c2))
 have hV:=G fun w=>F5 D f X j w R fU z z;generalize l.alloc (.cells #[.bool p,f,M] 337 (0,0))=bX at*;have hZ:=G o.out.drew;have Z:=G N.out.drew;have H:=G S.out.drew;have bT:Hid (k.heap.size<l.heap.size):=ix;have E:Hid (w.heap.size+1+1<k.heap.size):=c.out.r.lt;generalize k.heap.size=q at*;generalize l.heap.size=O at*;obtain⟨cw,x⟩:∃cw,Hid (cw=w.heap.size+1+1):=⟨_,rfl⟩;rw[←x.out]at S H E;rw[←x.out];have bo:=o.out.bo;have c1:=o.out.c1;have c2:=o.out.c2;have eD:=N.out.c1;clear P g fo b8 cr dC aj V bq bZ cp ix L K F y
 go_region_held3 (fun W=>W.cell? ⟨q,0,none⟩=some (.bool p)/\W.cell? ⟨q,1,none⟩=some (.string D)/\W.cell? ⟨q,2,none⟩=some (.int .i64 M)/\W.cell? ⟨O,1,none⟩=some (.string f)) (first|exact⟨bo,c1,c2,eD⟩|exact⟨en,b4,dF,gL⟩|go_keep) (first|(go_at_call 43;(with_reducible refine(hV.out _).mono ?_);rintro e bn ⟨⟨t,rfl,ai⟩,B⟩;have d:=G (H.out.K B);have r:=hZ.out.K B;have I:=Z.out.K B;have en:=r.bo;have b4:=r.c1;have dF:=r.c2;have gL:=I.c1;have fX:=d.out.r.bo;have cn:=d.out.r.c1;have dw:=d.out.r.c2;have z0:=d.out.r.af (i:=0);have cy:=d.out.r.af (i:=1);have dz:=d.out.r.af (i:=2);have b5:cw≠q:=wK E.out;have eK:cw≠O:=(by have:=E.out;have:=bT.out;have:=I.lt;have:=r.lt;omega)))
 go_wp2;refine jT (v:=.agg #[.bool p,t,M]) (by simp[results,aeX,go_sem,fX,cn,dw]) rfl ?_;have C:w.heap.size<=cw:=by have:=x.out;omega
 exact⟨⟨t,rfl,ai⟩,((d.out.h.setCell (p:=⟨cw,0,none⟩) C _).setCell (p:=⟨cw,1,none⟩) C _).setCell (p:=⟨cw,2,none⟩) C _⟩
theorem aqQ{X:Nat}{e:Ending}(h:FV X a e)(b:X<a):e=.returned (.int .i64 (-1)):=by
 unfold FV Aa at h;simpa[b]using h
theorem aqP{X:Nat}{e:Ending}(h:FV X a e)(b:a<=X):∃c:Int,e=.returned c/\0<=c/\c<=1:=by
 unfold FV Aa at h;refine⟨_,h,?_⟩;have:¬X<a:=z;rw[bs this];split<;>omega
variable{t:ByteArray}{n:Nat}
theorem amU(h:dA t n)(b:Bool)(A:decide (0<n)=b):decide (0<t.size)=b:=by
 rw[←A,WF];have:=h.zero;omega
theorem KG(h:dA t n)(a:0<n):0<t.size:=by
 have:¬t.size=0:=fun e=>by have:=h.zero.1 e;omega
 omega
theorem aqf(a b:ByteArray)(m n s u M:Nat)(w:World)(aH:dA a m)(A:dA b n)(P:m<=1000000000000000)(Q:n<=1000000000000000)(fl:M=max s u)(K:M<=3)(X o:Nat)(R:X=m*10^(M-s))(W:o=n*10^(M-u))(mF:X<=1000000000000000000)(mG:o<=1000000000000000000)(au:X<o):χ 560 #[.agg #[.bool true,a,s],.agg #[.bool false,b,u]] w fun e w'=>nC false (o-X) M e:=by
 have AG:max (s:Int) (u:Int)=M:=z;have U:Hid (∀w,χ 567 #[.agg #[.bool true,a,s],M] w fun e w'=>nC true X M e):=fun w=>by rw[R];exact Bi true a m s M w aH P z K
 have S:Hid (∀w,χ 567 #[.agg #[.bool false,b,u],M] w fun e w'=>nC false o M e):=fun w=>by rw[W];exact Bi false b n u M w A Q z K
 have T:=G (QK w (.bool true) (.string a) s (.bool false) (.string b) u (.bool false) (.string ⟨#[]⟩) (.int .i64 0));have N:Hid (X<256^16/\o<256^16):=⟨pq (Fu mF) ak,pq (Fu mG) ak⟩;have H:=G au;clear aH A R W fl au P Q mF mG K;go_enter Q',Ra
 go_wp2_with (first|(have _:=bo;go_at_call 569;(with_reducible refine(VJ r C o X _ Y J N.out.2 (Br H.out)).mono ?_);rintro e f ⟨⟨t,rfl,ai⟩,g⟩;have k6:f.cell? ⟨c,0,none⟩=some (.bool false):=((g.cell bz).trans (by simp[go_sem, *]));have hx:f.cell? ⟨c,2,none⟩=some (.int .i64 M):=((g.cell bz).trans (by simp[go_sem, *]));have fX:f.cell? ⟨cw,0,none⟩=some (.bool false):=((g.cell bz).trans (by simp[go_sem, *]));have cn:f.cell? ⟨cw,1,none⟩=some (.string ⟨#[]⟩):=((g.cell bz).trans (by simp[go_sem, *]));have dw:f.cell? ⟨cw,2,none⟩=some (.int .i64 0):=((g.cell bz).trans (by simp[go_sem, *]));have z0:f.frozen? ⟨cw,0,none⟩=false:=((g.frozen bz).trans (by simp[go_sem, *]));have cy:f.frozen? ⟨cw,1,none⟩=false:=((g.frozen bz).trans (by simp[go_sem, *]));have dz:f.frozen? ⟨cw,2,none⟩=false:=((g.frozen bz).trans (by simp[go_sem, *]));have L:w.heap.size<=c:=(by have:=bx.out;omega);have I:w.heap.size<=j:=z;have hB:Hid (β w f):=((((((((d.out.h.setCell (p:=⟨c,0,none⟩) L _).setCell (p:=⟨c,1,none⟩) L _).setCell (p:=⟨c,2,none⟩) L _).setCell (p:=⟨j,0,none⟩) I _).setCell (p:=⟨j,1,none⟩) I _).setCell (p:=⟨j,2,none⟩) I _).alloc bz _).trans (g.mono bz));have qy:0<(t.size:Int):=(by have:=KG ai (by have:=H.out;omega);omega))|(have _:=J;go_at_call 567;(with_reducible refine(S.out _).mono ?_);rintro e D ⟨⟨r,rfl,Y⟩,F⟩;have x:=V.K F;have pG:=G ((k.out.alloc _).K F);have fo:=x.bo;have b8:=x.c1;have cr:=x.c2;have ix:=x.lt;have q:=G (x.alloc (.cells #[.bool false,r,M] 337 (0,0)));have l:=G (ha.ee D (.bool false) (.string r) M);have d:=G (pG.out.alloc (.cells #[.bool false,r,M] 337 (0,0)));have lq:Hid (∀w,Calls prog 568 #[C,r] w fun e w'=>e=.returned (.int .i64 (-1))/\w=w'):=(fun w=>(Nz C r X o w J Y N.out.1 N.out.2).mono fun e w' h=>⟨aqQ h.1 H.out,h.2⟩))|(go_at_call 567;(with_reducible refine(U.out _).mono ?_);rintro e y ⟨⟨C,rfl,J⟩,O⟩;have k:=G (T.out.K O);have V:=ha.ee y (.bool true) (.string C) M;have bZ:=k.out.q.lt;have cp:=k.out.p.lt;have dC:=k.out.q.bo;have aj:=k.out.q.c1;have aF:=k.out.q.c2;have bq:=k.out.p.c2)|(go_at_call 568;(with_reducible refine(lq.out _).mono ?_);rintro e E ⟨rfl,vH⟩;rw[vH]at q l d;have nf:y.heap.size<D.heap.size:=ix;have Z:w.heap.size+1+1<y.heap.size:=k.out.r.lt;clear V x fo b8 cr dC aj aF bq bZ cp ix U S O F vH k pG T;generalize y.heap.size=c at*;generalize D.heap.size=j at*;obtain⟨cw,B⟩:∃cw,cw=w.heap.size+1+1:=⟨_,rfl⟩;have bx:Hid (w.heap.size<=cw):=(by rw[B];show w.heap.size<=_;omega);rw[←B]at d Z;rw[←B];clear B;have bo:=q.out.bo;have c1:=q.out.c1;have c2:=q.out.c2;have hv:=l.out.bo;have eD:=l.out.c1;have e':=l.out.c2;have v0:=d.out.r.bo;have dW:=d.out.r.c1;have ek:=d.out.r.c2;have dX:=q.out.af (i:=0);have dl:=q.out.af (i:=1);have dE:=q.out.af (i:=2);have u0:=l.out.af (i:=0);have u1:=l.out.af (i:=1);have u2:=l.out.af (i:=2);have bP:=d.out.r.af (i:=0);have bV:=d.out.r.af (i:=1);have gN:=d.out.r.af (i:=2);have b5:c≠j:=wK nf;have eK:j≠c:=h8 b5;have g0:cw≠c:=wK Z;have lj:c≠cw:=h8 g0;have n5:cw≠j:=z;have rm:j≠cw:=h8 n5;have gp:c<E.heap.size:=q.out.lt;have iI:j<E.heap.size:=l.out.lt;have nU:cw<E.heap.size:=d.out.r.lt))
 exact ao0
theorem aqe(a b:ByteArray)(m n s u M:Nat)(w:World)(aH:dA a m)(A:dA b n)(Q:m<=1000000000000000)(R:n<=1000000000000000)(fl:M=max s u)(L:M<=3)(X o:Nat)(S:X=m*10^(M-s))(Y:o=n*10^(M-u))(mF:X<=1000000000000000000)(mG:o<=1000000000000000000)(au:X<o):χ 560 #[.agg #[.bool false,a,s],.agg #[.bool true,b,u]] w fun e w'=>nC true (o-X) M e:=by
 have AG:max (s:Int) (u:Int)=M:=z;have V:Hid (∀w,χ 567 #[.agg #[.bool false,a,s],M] w fun e w'=>nC false X M e):=fun w=>by rw[S];exact Bi false a m s M w aH Q z L
 have U:Hid (∀w,χ 567 #[.agg #[.bool true,b,u],M] w fun e w'=>nC true o M e):=fun w=>by rw[Y];exact Bi true b n u M w A R z L
 have T:=G (QK w (.bool false) (.string a) s (.bool true) (.string b) u (.bool false) (.string ⟨#[]⟩) (.int .i64 0));have O:Hid (X<256^16/\o<256^16):=⟨pq (Fu mF) ak,pq (Fu mG) ak⟩;have E:=G au;clear aH A S Y fl au Q R mF mG L;go_enter Q',Ra
 go_wp2_with (first|(have _:=bo;go_at_call 569;(with_reducible refine(VJ r D o X _ Z K O.out.2 (Br E.out)).mono ?_);rintro e f ⟨⟨t,rfl,ai⟩,g⟩;have k6:f.cell? ⟨c,0,none⟩=some (.bool true):=((g.cell bz).trans (by simp[go_sem, *]));have hx:f.cell? ⟨c,2,none⟩=some (.int .i64 M):=((g.cell bz).trans (by simp[go_sem, *]));have fX:f.cell? ⟨cw,0,none⟩=some (.bool false):=((g.cell bz).trans (by simp[go_sem, *]));have cn:f.cell? ⟨cw,1,none⟩=some (.string ⟨#[]⟩):=((g.cell bz).trans (by simp[go_sem, *]));have dw:f.cell? ⟨cw,2,none⟩=some (.int .i64 0):=((g.cell bz).trans (by simp[go_sem, *]));have z0:f.frozen? ⟨cw,0,none⟩=false:=((g.frozen bz).trans (by simp[go_sem, *]));have cy:f.frozen? ⟨cw,1,none⟩=false:=((g.frozen bz).trans (by simp[go_sem, *]));have dz:f.frozen? ⟨cw,2,none⟩=false:=((g.frozen bz).trans (by simp[go_sem, *]));have N:w.heap.size<=c:=(by have:=C.out;omega);have J:w.heap.size<=j:=z;have hB:Hid (β w f):=((((((((d.out.h.setCell (p:=⟨c,0,none⟩) N _).setCell (p:=⟨c,1,none⟩) N _).setCell (p:=⟨c,2,none⟩) N _).setCell (p:=⟨j,0,none⟩) J _).setCell (p:=⟨j,1,none⟩) J _).setCell (p:=⟨j,2,none⟩) J _).alloc bz _).trans (g.mono bz));have qy:0<(t.size:Int):=(by have:=KG ai (by have:=E.out;omega);omega))|(have _:=K;go_at_call 567;(with_reducible refine(U.out _).mono ?_);rintro e F ⟨⟨r,rfl,Z⟩,I⟩;have x:=W.K I;have pG:=G ((k.out.alloc _).K I);have fo:=x.bo;have b8:=x.c1;have cr:=x.c2;have ix:=x.lt;have q:=G (x.alloc (.cells #[.bool true,r,M] 337 (0,0)));have l:=G (ha.ee F (.bool true) (.string r) M);have d:=G (pG.out.alloc (.cells #[.bool true,r,M] 337 (0,0)));have lq:Hid (∀w,Calls prog 568 #[D,r] w fun e w'=>e=.returned (.int .i64 (-1))/\w=w'):=(fun w=>(Nz D r X o w K Z O.out.1 O.out.2).mono fun e w' h=>⟨aqQ h.1 E.out,h.2⟩))|(go_at_call 567;(with_reducible refine(V.out _).mono ?_);rintro e y ⟨⟨D,rfl,K⟩,P⟩;have k:=G (T.out.K P);have W:=ha.ee y (.bool false) (.string D) M;have bZ:=k.out.q.lt;have cp:=k.out.p.lt;have dC:=k.out.q.bo;have aj:=k.out.q.c1;have aF:=k.out.q.c2;have bq:=k.out.p.c2)|(go_at_call 568;(with_reducible refine(lq.out _).mono ?_);rintro e H ⟨rfl,vH⟩;rw[vH]at q l d;have nf:y.heap.size<F.heap.size:=ix;have jK:w.heap.size+1+1<y.heap.size:=k.out.r.lt;clear W x fo b8 cr dC aj aF bq bZ cp ix V U P I vH k pG T;generalize y.heap.size=c at*;generalize F.heap.size=j at*;obtain⟨cw,B⟩:∃cw,cw=w.heap.size+1+1:=⟨_,rfl⟩;have C:Hid (w.heap.size<=cw):=(by rw[B];show w.heap.size<=_;omega);rw[←B]at d jK;rw[←B];clear B;have bo:=q.out.bo;have c1:=q.out.c1;have c2:=q.out.c2;have hv:=l.out.bo;have eD:=l.out.c1;have e':=l.out.c2;have v0:=d.out.r.bo;have dW:=d.out.r.c1;have ek:=d.out.r.c2;have dX:=q.out.af (i:=0);have dl:=q.out.af (i:=1);have dE:=q.out.af (i:=2);have u0:=l.out.af (i:=0);have u1:=l.out.af (i:=1);have u2:=l.out.af (i:=2);have bP:=d.out.r.af (i:=0);have bV:=d.out.r.af (i:=1);have gN:=d.out.r.af (i:=2);have b5:c≠j:=wK nf;have eK:j≠c:=h8 b5;have g0:cw≠c:=wK jK;have lj:c≠cw:=h8 g0;have n5:cw≠j:=z;have rm:j≠cw:=h8 n5;have gp:c<H.heap.size:=q.out.lt;have iI:j<H.heap.size:=l.out.lt;have nU:cw<H.heap.size:=d.out.r.lt))
 refine jT (by simp[results,aeX,go_sem,fX,cn,dw];rfl) rfl ?_;exact⟨⟨t,by rw[amU ai true (by have:=E.out;simp;omega)],ai⟩,((hB.out.setCell (p:=⟨cw,0,none⟩) C.out _).setCell (p:=⟨cw,1,none⟩) C.out _).setCell (p:=⟨cw,2,none⟩) C.out _⟩
theorem aqh(a b:ByteArray)(m n s u M:Nat)(w:World)(aH:dA a m)(A:dA b n)(O:m<=1000000000000000)(P:n<=1000000000000000)(fl:M=max s u)(K:M<=3)(X d:Nat)(Q:X=m*10^(M-s))(W:d=n*10^(M-u))(mF:X<=1000000000000000000)(mG:d<=1000000000000000000)(au:d<=X):χ 560 #[.agg #[.bool true,a,s],.agg #[.bool false,b,u]] w fun e w'=>nC (decide (d<X)) (X-d) M e:=by
 have AG:max (s:Int) (u:Int)=M:=z;have S:Hid (∀w,χ 567 #[.agg #[.bool true,a,s],M] w fun e w'=>nC true X M e):=fun w=>by rw[Q];exact Bi true a m s M w aH O z K
 have R:Hid (∀w,χ 567 #[.agg #[.bool false,b,u],M] w fun e w'=>nC false d M e):=fun w=>by rw[W];exact Bi false b n u M w A P z K
 have T:=G (QK w (.bool true) (.string a) s (.bool false) (.string b) u (.bool false) (.string ⟨#[]⟩) (.int .i64 0));have L:Hid (X<256^16/\d<256^16):=⟨pq (Fu mF) ak,pq (Fu mG) ak⟩;have V:=G au;clear aH A Q W fl au O P mF mG K;go_enter Q',Ra
 go_wp2_with (first|(have _:=bo;go_at_call 569;(with_reducible refine(VJ E r X d _ J Y L.out.1 V.out).mono ?_);rintro e g ⟨⟨t,rfl,ai⟩,j⟩;have k6:g.cell? ⟨q,0,none⟩=some (.bool true):=((j.cell z).trans (by assumption));have hx:g.cell? ⟨q,2,none⟩=some (.int .i64 M):=((j.cell z).trans (by assumption));have fX:g.cell? ⟨cw,0,none⟩=some (.bool false):=((j.cell z).trans (by assumption));have cn:g.cell? ⟨cw,1,none⟩=some (.string ⟨#[]⟩):=((j.cell z).trans (by assumption));have dw:g.cell? ⟨cw,2,none⟩=some (.int .i64 0):=((j.cell z).trans (by assumption));have z0:g.frozen? ⟨cw,0,none⟩=false:=((j.frozen z).trans (by assumption));have cy:g.frozen? ⟨cw,1,none⟩=false:=((j.frozen z).trans (by assumption));have dz:g.frozen? ⟨cw,2,none⟩=false:=((j.frozen z).trans (by assumption));have lY:w.heap.size<=q:=(by have:=D.out;omega);have gs:w.heap.size<=x:=z;have hB:Hid (β w g):=(cj f.out.h j);have qy:True:=g')|(have _:=J;go_at_call 567;(with_reducible refine(R.out _).mono ?_);rintro e F ⟨⟨r,rfl,Y⟩,I⟩;have y:=U.K I;have pG:=G ((k.out.alloc _).K I);have fo:=y.bo;have b8:=y.c1;have cr:=y.c2;have ix:=y.lt;have o:=G (y.alloc (.cells #[.bool false,r,M] 337 (0,0)));have l:=G (ha.ee F (.bool false) (.string r) M);have f:=G (pG.out.alloc (.cells #[.bool false,r,M] 337 (0,0)));have lq:Hid (∀w,Calls prog 568 #[E,r] w fun e w'=>(∃c:Int,e=.returned c/\0<=c/\c<=1)/\w=w'):=(fun w=>(Nz E r X d w J Y L.out.1 L.out.2).mono fun e w' h=>⟨aqP h.1 V.out,h.2⟩))|(go_at_call 567;(with_reducible refine(S.out _).mono ?_);rintro e B ⟨⟨E,rfl,J⟩,N⟩;have k:=G (T.out.K N);have U:=ha.ee B (.bool true) (.string E) M;have bZ:=k.out.q.lt;have cp:=k.out.p.lt;have dC:=k.out.q.bo;have aj:=k.out.q.c1;have aF:=k.out.q.c2;have bq:=k.out.p.c2)|(go_at_call 568;(with_reducible refine(lq.out _).mono ?_);rintro e H ⟨⟨c,rfl,k8,jn⟩,vH⟩;have mK:¬(c<0):=z;rw[vH]at o l f;have nf:B.heap.size<F.heap.size:=ix;have Z:w.heap.size+1+1<B.heap.size:=k.out.r.lt;clear U y fo b8 cr dC aj aF bq bZ cp ix S R N I vH k pG T;generalize B.heap.size=q at*;generalize F.heap.size=x at*;obtain⟨cw,C⟩:∃cw,cw=w.heap.size+1+1:=⟨_,rfl⟩;have D:Hid (w.heap.size<=cw):=(by rw[C];show w.heap.size<=_;omega);rw[←C]at f Z;rw[←C];clear C;have bo:=o.out.bo;have c1:=o.out.c1;have c2:=o.out.c2;have hv:=l.out.bo;have eD:=l.out.c1;have e':=l.out.c2;have v0:=f.out.r.bo;have dW:=f.out.r.c1;have ek:=f.out.r.c2;have dX:=o.out.af (i:=0);have dl:=o.out.af (i:=1);have dE:=o.out.af (i:=2);have u0:=l.out.af (i:=0);have u1:=l.out.af (i:=1);have u2:=l.out.af (i:=2);have bP:=f.out.r.af (i:=0);have bV:=f.out.r.af (i:=1);have gN:=f.out.r.af (i:=2);have b5:q≠x:=wK nf;have eK:x≠q:=h8 b5;have g0:cw≠q:=wK Z;have lj:q≠cw:=h8 g0;have n5:cw≠x:=z;have rm:x≠cw:=h8 n5;have gp:q<H.heap.size:=o.out.lt;have iI:x<H.heap.size:=l.out.lt;have nU:cw<H.heap.size:=f.out.r.lt))
 refine jT (by simp[results,aeX,go_sem,fX,cn,dw];rfl) rfl ?_;exact⟨⟨t,by rw[amU ai (decide (d<X)) (by rw[WF];omega)],ai⟩,((hB.out.setCell (p:=⟨cw,0,none⟩) D.out _).setCell (p:=⟨cw,1,none⟩) D.out _).setCell (p:=⟨cw,2,none⟩) D.out _⟩
theorem aqg(a b:ByteArray)(m n s u M:Nat)(w:World)(aH:dA a m)(A:dA b n)(N:m<=1000000000000000)(O:n<=1000000000000000)(fl:M=max s u)(J:M<=3)(X l:Nat)(P:X=m*10^(M-s))(V:l=n*10^(M-u))(Z:X<=1000000000000000000)(mG:l<=1000000000000000000)(au:l<=X):χ 560 #[.agg #[.bool false,a,s],.agg #[.bool true,b,u]] w fun e w'=>nC false (X-l) M e:=by
 have AG:max (s:Int) (u:Int)=M:=z;have R:Hid (∀w,χ 567 #[.agg #[.bool false,a,s],M] w fun e w'=>nC false X M e):=fun w=>by rw[P];exact Bi false a m s M w aH N z J
 have Q:Hid (∀w,χ 567 #[.agg #[.bool true,b,u],M] w fun e w'=>nC true l M e):=fun w=>by rw[V];exact Bi true b n u M w A O z J
 have T:=G (QK w (.bool false) (.string a) s (.bool true) (.string b) u (.bool false) (.string ⟨#[]⟩) (.int .i64 0));have K:Hid (X<256^16/\l<256^16):=⟨pq (Fu Z) ak,pq (Fu mG) ak⟩;have U:=G au;clear aH A P V fl au N O Z mG J;go_enter Q',Ra
 go_wp2_with (first|(have _:=bo;go_at_call 569;(with_reducible refine(VJ D r X l _ I W K.out.1 U.out).mono ?_);rintro e f ⟨⟨t,rfl,ai⟩,g⟩;have k6:f.cell? ⟨q,0,none⟩=some (.bool false):=((g.cell z).trans (by assumption));have hx:f.cell? ⟨q,2,none⟩=some (.int .i64 M):=((g.cell z).trans (by assumption));have fX:f.cell? ⟨cw,0,none⟩=some (.bool false):=((g.cell z).trans (by assumption));have cn:f.cell? ⟨cw,1,none⟩=some (.string ⟨#[]⟩):=((g.cell z).trans (by assumption));have dw:f.cell? ⟨cw,2,none⟩=some (.int .i64 0):=((g.cell z).trans (by assumption));have z0:f.frozen? ⟨cw,0,none⟩=false:=((g.frozen z).trans (by assumption));have cy:f.frozen? ⟨cw,1,none⟩=false:=((g.frozen z).trans (by assumption));have dz:f.frozen? ⟨cw,2,none⟩=false:=((g.frozen z).trans (by assumption));have lY:w.heap.size<=q:=(by have:=bx.out;omega);have gs:w.heap.size<=x:=z;have hB:Hid (β w f):=(cj d.out.h g);have qy:True:=g')|(have _:=I;go_at_call 567;(with_reducible refine(Q.out _).mono ?_);rintro e E ⟨⟨r,rfl,W⟩,H⟩;have y:=S.K H;have pG:=G ((j.out.alloc _).K H);have fo:=y.bo;have b8:=y.c1;have cr:=y.c2;have ix:=y.lt;have o:=G (y.alloc (.cells #[.bool true,r,M] 337 (0,0)));have k:=G (ha.ee E (.bool true) (.string r) M);have d:=G (pG.out.alloc (.cells #[.bool true,r,M] 337 (0,0)));have lq:Hid (∀w,Calls prog 568 #[D,r] w fun e w'=>(∃c:Int,e=.returned c/\0<=c/\c<=1)/\w=w'):=(fun w=>(Nz D r X l w I W K.out.1 K.out.2).mono fun e w' h=>⟨aqP h.1 U.out,h.2⟩))|(go_at_call 567;(with_reducible refine(R.out _).mono ?_);rintro e B ⟨⟨D,rfl,I⟩,L⟩;have j:=G (T.out.K L);have S:=ha.ee B (.bool false) (.string D) M;have bZ:=j.out.q.lt;have cp:=j.out.p.lt;have dC:=j.out.q.bo;have aj:=j.out.q.c1;have aF:=j.out.q.c2;have bq:=j.out.p.c2)|(go_at_call 568;(with_reducible refine(lq.out _).mono ?_);rintro e F ⟨⟨c,rfl,k8,jn⟩,vH⟩;have mK:¬(c<0):=z;rw[vH]at o k d;have nf:B.heap.size<E.heap.size:=ix;have Y:w.heap.size+1+1<B.heap.size:=j.out.r.lt;clear S y fo b8 cr dC aj aF bq bZ cp ix R Q L H vH j pG T;generalize B.heap.size=q at*;generalize E.heap.size=x at*;obtain⟨cw,C⟩:∃cw,cw=w.heap.size+1+1:=⟨_,rfl⟩;have bx:Hid (w.heap.size<=cw):=(by rw[C];show w.heap.size<=_;omega);rw[←C]at d Y;rw[←C];clear C;have bo:=o.out.bo;have c1:=o.out.c1;have c2:=o.out.c2;have hv:=k.out.bo;have eD:=k.out.c1;have e':=k.out.c2;have v0:=d.out.r.bo;have dW:=d.out.r.c1;have ek:=d.out.r.c2;have dX:=o.out.af (i:=0);have dl:=o.out.af (i:=1);have dE:=o.out.af (i:=2);have u0:=k.out.af (i:=0);have u1:=k.out.af (i:=1);have u2:=k.out.af (i:=2);have bP:=d.out.r.af (i:=0);have bV:=d.out.r.af (i:=1);have gN:=d.out.r.af (i:=2);have b5:q≠x:=wK nf;have eK:x≠q:=h8 b5;have g0:cw≠q:=wK Y;have lj:q≠cw:=h8 g0;have n5:cw≠x:=z;have rm:x≠cw:=h8 n5;have gp:q<F.heap.size:=o.out.lt;have iI:x<F.heap.size:=k.out.lt;have nU:cw<F.heap.size:=d.out.r.lt))
 exact ao0
def ahy(D:Int)(M:Nat)(e:Ending):Prop:=∃(neg:Bool) (n:Nat),nC neg n M e/\(n=0↔D=0)/\(n≠0->neg=decide (D<0))
def ew(p:Bool)(X:Nat):Int:=if p=true then-(X:Int)else X
theorem aGR(p q:Bool)(a b:ByteArray)(m n s u M:Nat)(w:World)(aH:dA a m)(A:dA b n)(d:m<=1000000000000000)(f:n<=1000000000000000)(j:M=max s u)(k:M<=3)(X c:Nat)(g:X=m*10^(M-s))(i:c=n*10^(M-u)):χ 560 #[.agg #[.bool p,a,s],.agg #[.bool (!q),b,u]] w fun e w'=>ahy (ew p X-ew q c) M e:=by
 have t:10^(M-s)<=10^3:=kO z z;have r:10^(M-u)<=10^3:=kO z z;have l:X<=1000000000000000000:=by rw[g];exact zv d t
 have o:c<=1000000000000000000:=by rw[i];exact zv f r
 cases p<;>cases q;by_cases h:X<c;exact(aqe a b m n s u M w aH A d f j k X c g i l o h).mono fun e w' ⟨H,I⟩=>⟨⟨_,_,H,by simp[ew];omega,fun _=>by simp[ew];omega⟩,I⟩;exact(aqg a b m n s u M w aH A d f j k X c g i l o z).mono fun e w' ⟨H,I⟩=>⟨⟨_,_,H,by simp[ew];omega,fun _=>by simp[ew];omega⟩,I⟩;exact(adb false a b m n s u M w aH A d f j k X c g i l o).mono fun e w' ⟨H,I⟩=>⟨⟨_,_,H,by simp[ew];omega,fun _=>by simp[ew];omega⟩,I⟩;exact(adb true a b m n s u M w aH A d f j k X c g i l o).mono fun e w' ⟨H,I⟩=>⟨⟨_,_,H,by simp[ew];omega,fun h=>by simp[ew];omega⟩,I⟩;by_cases h:X<c;exact(aqf a b m n s u M w aH A d f j k X c g i l o h).mono fun e w' ⟨H,I⟩=>⟨⟨_,_,H,by simp[ew];omega,fun _=>by simp[ew];omega⟩,I⟩;exact(aqh a b m n s u M w aH A d f j k X c g i l o z).mono fun e w' ⟨H,I⟩=>⟨⟨_,_,H,by simp[ew];omega,fun x=>by rw[WF];simp[ew];omega⟩,I⟩
def EI(D:Int):Int:=if D=0 then 0 else if D<0 then-1 else 1
def FW(n:Int)(e:Ending):Prop:=e=.returned (.int .i64 n)
theorem aIv{D:Int}(ai:dA t n)(a:n=0↔D=0)(h:((t.size:Int)==0)=true):EI D=0:=by
 have h:(t.size:Int)=0:=by simpa using h
 have:=ai.zero.1 z;unfold EI;rw[co (a.1 this)]
theorem aru{D:Int}(ai:dA t n)(a:n=0↔D=0)(h:((t.size:Int)==0)=false):n≠0/\D≠0:=by
 have h:¬(t.size:Int)=0:=by rw[lp]at h;exact h
 have I:n≠0:=fun e=>h (by have:=ai.zero.2 e;omega);exact⟨I,fun e=>I (a.2 e)⟩
variable{neg:Bool}
theorem aIw{D:Int}(ai:dA t n)(c:n=0↔D=0)(h:((t.size:Int)==0)=false)(d:n≠0->neg=decide (D<0))(b:neg=true):EI D= -1:=by
 obtain⟨H,I⟩:=aru ai c h;have a:=d H;rw[b]at a;have a:D<0:=by simpa using a.symm
 unfold EI;rw[bs I,co a]
theorem aIx{D:Int}(ai:dA t n)(c:n=0↔D=0)(h:((t.size:Int)==0)=false)(d:n≠0->neg=decide (D<0))(b:neg=false):EI D=1:=by
 obtain⟨H,I⟩:=aru ai c h;have a:=d H;rw[b]at a;have a:¬D<0:=by simpa using a.symm
 unfold EI;rw[bs I,bs a]
theorem aiD(b c:Int)(a f M:Nat)(w:World)(H:hn b a)(I:hn c f)(y:M=max a f)(z:M<=3)(D:Int)(x:D=ew (decide (b<0)) (b.natAbs*10^(M-a))-ew (decide (c<0)) (c.natAbs*10^(M-f))):χ 532 #[.agg #[b,a],.agg #[c,f]] w fun e w'=>FW (EI D) e:=by
 have J:=G fun w=>ym b a w H;have F:=G fun w=>ym c f w I;have L:Hid (∀d g w,dA d b.natAbs->dA g c.natAbs->χ 560 #[.agg #[.bool (decide (b<0)),d,a],.agg #[.bool (!(decide (c<0))),g,f]] w fun e w'=>ahy D M e):=fun d g w k j=>by rw[x];exact aGR _ _ d g _ _ a f M w k j (by have:=H.2.2;omega) (by have:=I.2.2;omega) y z _ _ rfl rfl
 have T:=G (lm w (.cells #[b,a] 38 (0,0)) (.cells #[c,f] 38 (0,0)));clear H I y z x;generalize decide (b<0)=p at*;generalize decide (c<0)=q at*;go_enter func532,ntmps532
 go_wp2_with (first|(have _:=j;go_at_call 560;(with_reducible refine(L.out d g _ k j).mono ?_);rintro e r ⟨⟨neg,n,⟨t,rfl,ai⟩,o,A⟩,s⟩)|(have _:=k;go_at_call 297;(with_reducible refine(F.out _).mono ?_);rintro e N ⟨⟨g,rfl,j⟩,u⟩;have h:=K.K u;have cp:=h.lt;have fo:=h.bo;have O:=h.c1;have P:=h.c2;have i:=G ((l.out.alloc l.out.size (.cells #[.bool p,d,a] 337 (0,0))).trans (u.mono (by have:=l.out.size;simp;omega))))|(go_at_call 297;(with_reducible refine(J.out _).mono ?_);rintro e E ⟨⟨d,rfl,k⟩,B⟩;have m:=T.out.K B;have l:=G m.h;have K:=ha.ee E (.bool p) (.string d) a;obtain⟨bo,c1⟩:=jV m.q;have bZ:=m.lt))
 all_goals
  have C:w.heap.size<=r.heap.size:=by have H:=s.size;rw[i_]at H;have:=i.out.size;omega
  have iL:β w (r.alloc (.cells #[.bool neg,t,M] 337 (0,0))):=((i.out.alloc i.out.size _).trans (s.mono (by have:=i.out.size;simp;omega))).alloc C _;go_ret;first
   |exact⟨by unfold FW;rw[aIv ai o (by assumption)];rfl,iL⟩
   |exact⟨by unfold FW;rw[aIw ai o (by assumption) A (by assumption)];rfl,iL⟩
   |exact⟨by unfold FW;rw[aIx ai o (by assumption) A (by assumption)];rfl,iL⟩
end Go.aJ
