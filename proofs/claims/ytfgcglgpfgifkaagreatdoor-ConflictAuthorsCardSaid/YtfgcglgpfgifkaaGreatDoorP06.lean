/- ConflictAuthors. -/
import Derived.Test.YtfgcglgpfgifkaaGreatDoorP05
set_option linter.all false
set_option maxRecDepth 100000
set_option maxHeartbeats 16000000
namespace Go.bj.N
open Go Go.Proofs.Tryz Go.Proofs Go.RowKit Go.c0
theorem axa:(prog.info? 138).map (fun i=>(i.zero,i.size,i.bytes))=some (some (.agg #[.string ⟨#[]⟩,.int .i64 0]),2,24):=au
theorem aw':(prog.info? 62).map (fun i=>(i.zero,i.size,i.bytes))=some (some (.agg #[.string ⟨#[]⟩,.int .i64 0,.int .i64 0]),3,32):=au
theorem ah3:(prog.info? 86).map (fun i=>(i.zero,i.size,i.bytes))=some (some (.agg #[.int .i64 0,.string ⟨#[]⟩,.string ⟨#[]⟩,.slice none 0 0]),4,64):=au
theorem aw9:(prog.info? 3).map (fun i=>(i.zero,i.size,i.bytes))=some (some (.int .i64 0),1,8):=au
def q2:List (ByteArray×Nat)->List Value
 |[]=>[]
 |c::l=>.string c.1::.int .i64 c.2::q2 l
def qC:List (ByteArray×Nat)->(Nat->Nat)->Nat->List Value
 |[],_,_=>[]
 |c::l,M,k=>.string c.1::.int .i64 c.2::.int .i64 (M k)::qC l M (k+1)
def rV:List Nat->List Value
 |[]=>[]
 |a::l=>.int .i64 a::rV l
abbrev tG:=bA×Nat×Nat×Nat
def ti:List tG->List Value
 |[]=>[]
 |e::l=>.int .i64 e.1.h::.string e.1.op::.string e.1.aF::.slice (some ⟨e.2.1,e.2.2.1,none⟩) e.1.args.length e.2.2.2::ti l
theorem aed:∀l,(q2 l).length=l.length*2
 |[]=>rfl
 |c::l=>by simp[q2,aed l];omega
theorem amM(M:Nat->Nat):∀l k,(qC l M k).length=l.length*3
 |[],_=>rfl
 |c::l,k=>by simp[qC,amM M l];omega
theorem adD:∀l,(rV l).length=l.length
 |[]=>rfl
 |c::l=>by simp[rV,adD l]
theorem alT:∀a b,ti (a++b)=ti a++ti b
 |[],b=>rfl
 |e::a,b=>by simp[ti,alT a b]
theorem aee:∀l,∀u∈q2 l,u.oneCell'=true
 |[],u,h=>by simp[q2]at h
 |c::l,u,h=>by
  simp only[q2,gl]at h
  rcases h with rfl|rfl|h
  ·rfl
  ·rfl
  ·exact aee l u h
theorem amN(M:Nat->Nat):∀l k,∀u∈qC l M k,u.oneCell'=true
 |[],k,u,h=>by simp[qC]at h
 |c::l,k,u,h=>by
  simp only[qC,gl]at h
  rcases h with rfl|rfl|rfl|h
  ·rfl
  ·rfl
  ·rfl
  ·exact amN M l _ u h
theorem adE:∀l,∀u∈rV l,u.oneCell'=true
 |[],u,h=>by simp[rV]at h
 |c::l,u,h=>by
  simp only[rV,gl]at h
  rcases h with rfl|h
  ·rfl
  ·exact adE l u h
theorem TX:∀(l:List (ByteArray×Nat)) (i:Nat) (hi:i<l.length),(q2 l)[i*2]? =some (.string l[i].1)/\(q2 l)[i*2+1]? =some (.int .i64 l[i].2)
 |c::l,0,_=>⟨rfl,rfl⟩
 |c::l,i+1,hi=>by
  have:=TX l i (by simpa using hi)
  rw[show(i+1)*2=i*2+1+1 by omega]
  simpa[q2]using this
theorem Y5(M:Nat->Nat):∀(l:List (ByteArray×Nat)) (k i:Nat) (hi:i<l.length),(qC l M k)[i*3]? =some (.string l[i].1)/\(qC l M k)[i*3+1]? =some (.int .i64 l[i].2)/\(qC l M k)[i*3+2]? =some (.int .i64 (M (k+i)))
 |c::l,k,0,_=>⟨rfl,rfl,rfl⟩
 |c::l,k,i+1,hi=>by
  have:=Y5 M l (k+1) i (by simpa using hi)
  rw[show(i+1)*3=i*3+1+1+1 by omega,show k+(i+1)=k+1+i by omega]
  simpa[qC]using this
theorem Tp:∀(l:List Nat) (i:Nat) (hi:i<l.length),(rV l)[i]? =some (.int .i64 l[i])
 |c::l,0,_=>rfl
 |c::l,i+1,hi=>by simpa[rV]using Tp l i (by simpa using hi)
theorem alU:∀(l:List tG) (i:Nat) (hi:i<l.length),(ti l)[i*4]? =some (.int .i64 l[i].1.h)/\(ti l)[i*4+1]? =some (.string l[i].1.op)/\(ti l)[i*4+2]? =some (.string l[i].1.aF)/\(ti l)[i*4+3]? =some (.slice (some ⟨l[i].2.1,l[i].2.2.1,none⟩) l[i].1.args.length l[i].2.2.2)
 |e::l,0,_=>⟨rfl,rfl,rfl,rfl⟩
 |e::l,i+1,hi=>by
  have:=alU l i (by simpa using hi)
  rw[show(i+1)*4=i*4+1+1+1+1 by omega]
  simpa[ti]using this
def FB(w:World)(b o:Nat)(l:List Value):Prop:=∀j u,l[j]? =some u->w.cell? ((⟨b,o,none⟩:Addr).add j)=some u
theorem Th(b o j:Nat):(⟨b,o,none⟩:Addr).add j=⟨b,o+j,none⟩:=by unfold Addr.add;split<;>simp_all
theorem FB.cons{w:World}{b o:Nat}{v:Value}{l:List Value}(h:w.cell? ⟨b,o,none⟩=some v)(c:FB w b (o+1) l):FB w b o (v::l):=fun j u a=>by
 cases j with
 |zero=>simp at a;subst a;rw[Th];exact h
 |succ j=>
  have:=c j u (by simpa using a)
  rw[Th]at this⊢
  rw[show o+(j+1)=o+1+j by omega]
  exact this
theorem alN{w:World}{b:Nat}:∀(l:List (ByteArray×Nat)) (o:Nat),(∀i (hi:i<l.length),w.cell? ⟨b,o+i*2,none⟩=some (.string l[i].1)/\w.cell? ⟨b,o+i*2+1,none⟩=some (.int .i64 l[i].2))->FB w b o (q2 l)
 |[],o,_=>fun j u a=>by simp[q2]at a
 |c::l,o,h=>.cons (by have:=(h 0 (Ax _)).1;simp only[tw,hG]at this;exact this) (.cons (by have:=(h 0 (Ax _)).2;simp only[tw,hG]at this;exact this) (alN l _ fun i hi=>by
  have:=h (i+1) (RW hi)
  rw[show o+1+1+i*2=o+(i+1)*2 by omega]
  exact this))
theorem alO{w:World}{b:Nat}(M:Nat->Nat):∀(l:List (ByteArray×Nat)) (k o:Nat),(∀i (hi:i<l.length),w.cell? ⟨b,o+i*3,none⟩=some (.string l[i].1)/\w.cell? ⟨b,o+i*3+1,none⟩=some (.int .i64 l[i].2)/\w.cell? ⟨b,o+i*3+2,none⟩=some (.int .i64 (M (k+i))))->FB w b o (qC l M k)
 |[],k,o,_=>fun j u a=>by simp[qC]at a
 |c::l,k,o,h=>.cons (by have:=(h 0 (Ax _)).1;simp only[tw,hG]at this;exact this) (.cons (by have:=(h 0 (Ax _)).2.1;simp only[tw,hG]at this;exact this) (.cons (by have:=(h 0 (Ax _)).2.2;simp only[tw,hG]at this;exact this) (alO M l (k+1) _ fun i hi=>by
  have:=h (i+1) (RW hi)
  rw[show o+1+1+1+i*3=o+(i+1)*3 by omega,show k+1+i=k+(i+1) by omega]
  exact this)))
theorem alM{w:World}{b:Nat}:∀(l:List Nat) (o:Nat),(∀i (hi:i<l.length),w.cell? ⟨b,o+i,none⟩=some (.int .i64 l[i]))->FB w b o (rV l)
 |[],o,_=>fun j u a=>by simp[rV]at a
 |c::l,o,h=>.cons (by have:=h 0 (Ax _);simp only[hG]at this;exact this) (alM l _ fun i hi=>by
  have:=h (i+1) (RW hi)
  rw[show o+1+i=o+(i+1) by omega]
  exact this)
theorem Nj{w:World}{base:Nat}{e:TypeId}{size n:Nat}{v:Value}{aK:List Value}(h:w.ownsRow base e size v n aK)(ab:v≠ .slice none 0 0):∃g cap cj,v=.slice (some ⟨g,0,none⟩) n cap/\base<=g/\w.heap[g]? =some (.cells cj e (0,0))/\n<=cap/\cj.size=cap*size/\∀i,i<n*size->cj[i]? =aK[i]? :=by
 exact aiX
def tK(w:World)(b t:Nat):Prop:=∃(arr:Array Value) (bg:Nat×Nat),w.heap[b]? =some (Obj.cells arr t bg)
def zb(w:World)(a:Option Addr)(ss:List (ByteArray×Nat))(M:Nat->Nat):Prop:=∃b o,a=some ⟨b,o,none⟩/\tK w b 62/\∀i (hi:i<ss.length),w.cell? ⟨b,o+i*3,none⟩=some (.string ss[i].1)/\w.cell? ⟨b,o+i*3+1,none⟩=some (.int .i64 ss[i].2)/\w.cell? ⟨b,o+i*3+2,none⟩=some (.int .i64 (M i))
def H4(w:World)(b:Option Addr)(l:List Nat):Prop:=0<l.length->∃a c,b=some ⟨a,c,none⟩/\tK w a 3
def y'(w:World)(ra:Option Addr)(rs:List bA):Prop:=∃b o,ra=some ⟨b,o,none⟩/\tK w b 86/\∀i (hi:i<rs.length),∃a ac,FA w b (o+i*4) rs[i] a ac/\H4 w a rs[i].args/\rs[i].args.length<=ac
def vN(S:cO)(M:Nat->Nat)(rs:List bA)(w:World)(F:Array Value):Prop:=
 ∃ca cc b a ra rc,F=#[.string S.bo,.int .i64 S.cZ,.slice ca S.bs.length cc,.slice b S.aB.length a,.slice ra rs.length rc,.int .i64 S.aj]/\iM w ca S.bs/\zb w b S.aB M/\y' w ra rs/\S.bs.length<=cc/\S.aB.length<=a/\rs.length<=rc
def w6(w:World)(e:tG):Prop:=e.1.args.length<=e.2.2.2/\∃arr bg,w.heap[e.2.1]? =some (.cells arr 3 bg)/\∀i (hi:i<e.1.args.length),arr[e.2.2.1+i]? =some (.int .i64 e.1.args[i])
structure rA (S:cO) (M:Nat->Nat) (rs:List bA) (base:Nat) (w:World) (gr ne e8:Value) (bB:List tG):Prop where
 c:w.ownsRow base 138 2 gr S.bs.length (q2 S.bs)
 s:w.ownsRow base 62 3 ne S.aB.length (qC S.aB M 0)
 r:w.ownsRow base 86 4 e8 bB.length (ti bB)
 e:bB.map (·.1)=rs
 a:∀e∈bB,w6 w e
structure tx (w:World) (aG mx:Array Value) (wr:World):Prop where
 b:Below w.heap.size w wr
 g:wr.heap[w.heap.size]? =some (.cells aG 29 (0,0))
 q:wr.heap[w.heap.size+1]? =some (.cells #[.string ⟨#[]⟩,.int .i64 0,.slice none 0 0,.slice none 0 0,.slice none 0 0,.int .i64 0] 29 (0,0))
 o:wr.heap[w.heap.size+1+1]? =some (.cells mx 29 (0,0))
theorem tx.U{w wr w':World}{a b:Array Value}(h:tx w a b wr)(A:Below wr.heap.size wr w'):tx w a b w':=
 ⟨b_ h.b A,by rw[A.block _ (cX h.g)];exact h.g,by rw[A.block _ (cX h.q)];exact h.q,by rw[A.block _ (cX h.o)];exact h.o⟩
theorem tx.gj{w wr:World}{a b:Array Value}(h:tx w a b wr)(i:Nat)(u:Value):tx w a (b.setIfInBounds i u) (wr.setCell ⟨w.heap.size+1+1,i,none⟩ u):=
 ⟨h.b.setCell bu _,by rw[hm _ _ _ _ (by show w.heap.size≠w.heap.size+1+1;omega)];exact h.g,by rw[hm _ _ _ _ (by show w.heap.size+1≠w.heap.size+1+1;omega)];exact h.q,hS h.o _⟩
theorem zZ{w:World}{base:Nat}{e t:TypeId}{size:Nat}{v:Value}{n:Nat}{aK:List Value}(h:w.ownsRow base e size v n aK){b:Nat}{cs:Array Value}{fr:Nat×Nat}(A:w.heap[b]? =some (.cells cs t fr))(ah:t≠e)(i:Nat)(u:Value):(w.setCell ⟨b,i,none⟩ u).ownsRow base e size v n aK:=by
 have b5:=Qy h A ah;refine⟨h.1,?_⟩;rcases h.2 with a|⟨g,cap,cj,ak,aJ,bv,cT⟩
 ·exact .inl a
 ·exact ajZ
theorem adF{w:World}{e:tG}(h:w6 w e){b t:Nat}{cs:Array Value}{fr:Nat×Nat}(A:w.heap[b]? =some (.cells cs t fr))(ah:t≠3)(i:Nat)(u:Value):w6 (w.setCell ⟨b,i,none⟩ u) e:=by
 obtain⟨ab,arr,bg,H,I⟩:=h;refine⟨ab,arr,bg,?_,I⟩;rw[hm _ _ _ _ (fun ak=>?_)]
 ·exact H
 ·rw[ak,A]at H;cases H;exact ah rfl
theorem w6.U{w w':World}{e:tG}(h:w6 w e)(A:Below w.heap.size w w'):w6 w' e:=by
 obtain⟨ab,arr,bg,H,I⟩:=h;exact⟨ab,arr,bg,by rw[A.block _ (cX H)];exact H,I⟩
theorem rA.U{S:cO}{M:Nat->Nat}{rs:List bA}{base:Nat}{w w':World}{c d b:Value}{a:List tG}(h:rA S M rs base w c d b a)(A:Below w.heap.size w w'):rA S M rs base w' c d b a:=
 ⟨Hf h.c A,Hf h.s A,Hf h.r A,h.e,fun e f=>(h.a e f).U A⟩
theorem yd(w:World)(base:Nat)(e:TypeId)(size:Nat)(A:base<=w.heap.size):(w.alloc (.cells #[] e)).ownsRow base e size (.slice (some ⟨w.heap.size,0,none⟩) 0 0) 0 []:=
 ⟨am,.inr ⟨w.heap.size,0,#[],rfl,A,da _ _,aZ _,dq _,am,am⟩⟩
theorem LU{w:World}{base:Nat}{e:TypeId}{size:Nat}{v:Value}{n:Nat}{aK:List Value}(h:w.ownsRow base e size v n aK)(ab:v≠ .slice none 0 0):∃g cap,v=.slice (some ⟨g,0,none⟩) n cap:=by
 rcases h.2 with⟨ak,_⟩|⟨g,cap,a,ak,_⟩
 ·exact absurd ak ab
 ·exact⟨g,cap,ak⟩
theorem OL{w w':World}{e:TypeId}(a:(w.alloc (.cells #[] e)).grownBy w' (Value.slice (some ⟨w.heap.size,0,none⟩) 0 0).ownBlock):Below w.heap.size w w':=
 ((bi _ _).alloc (aZ _) _).grown a am (fun g b=>by simp[Value.ownBlock]at b;omega)
theorem akV{w:World}{base:Nat}{e:TypeId}{size:Nat}{v:Value}{n:Nat}{aK:List Value}(h:w.ownsRow base e size v n aK):∀b,v.ownBlock=some b->∃cs fr,w.heap[b]? =some (.cells cs e fr)/\base<=b:=by
 intro b A;rcases h.2 with⟨c,_⟩|⟨g,cap,i,ak,a,d,f⟩
 ·subst c;simp[Value.ownBlock]at A
 ·subst ak;simp[Value.ownBlock]at A;subst A;exact⟨_,_,d,a⟩
theorem Kc{w w':World}{o:Obj}{e2:Option Nat}{t:TypeId}(d:(w.alloc o).grownBy w' e2)(c:∀b,e2=some b->∃cs fr,w.heap[b]? =some (.cells cs 86 fr)){b:Nat}{cs:Array Value}{fr:Nat×Nat}(A:w.heap[b]? =some (.cells cs t fr))(ah:t≠86):w'.heap[b]? =some (.cells cs t fr):=by
 rw[d.block b (by have:=cX A;simp;omega) (fun e=>?_),wB _ _ (cX A)]
 ·exact A
 ·obtain⟨g,f,a⟩:=c b e.symm;rw[A]at a;cases a;exact ah rfl
theorem akT{w w':World}{o:Obj}{e2:Option Nat}(i:(w.alloc o).grownBy w' e2)(a:∀b,e2=some b->∃cs fr,w.heap[b]? =some (.cells cs 86 fr)){base:Nat}{e:TypeId}{size:Nat}{v:Value}{n:Nat}{aK:List Value}(h:w.ownsRow base e size v n aK)(d:e≠86):w'.ownsRow base e size v n aK:=by
 refine⟨h.1,?_⟩;rcases h.2 with f|⟨g,cap,l,ak,c,j,k⟩
 ·exact .inl f
 ·exact .inr ⟨g,cap,l,ak,c,Kc i a j d,k⟩
theorem tx.grown{w c g:World}{f i:Array Value}{o:Obj}{e2:Option Nat}(h:tx w f i c)(a:(c.alloc o).grownBy g e2)(e:∀b,e2=some b->∃cs fr,c.heap[b]? =some (.cells cs 86 fr)/\w.heap.size<=b):tx w f i g:=by
 have d:∀b,e2=some b->∃cs fr,c.heap[b]? =some (.cells cs 86 fr):=fun b A=>by obtain⟨cs,fr,H,_⟩:=e b A;exact⟨cs,fr,H⟩
 exact⟨(h.b.alloc h.b.size o).grown a (by have:=h.b.size;simp;omega) (fun b A=>by obtain⟨_,_,_,H⟩:=e b A;exact H),Kc a d h.g ai,Kc a d h.q ai,Kc a d h.o ai⟩
theorem rA.next{S:cO}{M:Nat->Nat}{l:List bA}{base:Nat}{w w':World}{j k d i:Value}{a:List tG}{o:Obj}(h:rA S M l base w j k d a)(e:tG)(r:w6 w e)(c:(w.alloc o).grownBy w' d.ownBlock)(n:w'.ownsRow base 86 4 i (a.length+1) (ti a++ti [e])):rA S M (l++[e.1]) base w' j k i (a++[e]):=by
 have f:∀b,d.ownBlock=some b->∃cs fr,w.heap[b]? =some (.cells cs 86 fr):=fun b A=>by obtain⟨cs,fr,H,_⟩:=akV h.r b A;exact⟨cs,fr,H⟩
 have g:∀q,w6 w q->w6 w' q:=fun q ⟨ab,arr,bg,H,I⟩=>⟨ab,arr,bg,Kc c f H ai,I⟩;refine⟨akT c f h.c ai,akT c f h.s ai,?_,by simp[h.e],fun q m=>?_⟩
 ·rw[alT];simpa using n
 ·rcases nJ.1 m with H|H
  ·exact g q (h.a q H)
  ·simp at H;subst H;exact g _ r
theorem rA.EF{S:cO}{M:Nat->Nat}{l:List bA}{base:Nat}{w:World}{d f c:Value}{a:List tG}(h:rA S M l base w d f c a){b:Nat}{cs:Array Value}{fr:Nat×Nat}(A:w.heap[b]? =some (.cells cs 29 fr))(i:Nat)(u:Value):rA S M l base (w.setCell ⟨b,i,none⟩ u) d f c a:=
 ⟨zZ h.c A ai i u,zZ h.s A ai i u,zZ h.r A ai i u,h.e,fun e g=>adF (h.a e g) A ai i u⟩
theorem aq0{w:World}{base g n cap:Nat}{r:bA}(h:w.ownsRow base 3 1 (.slice (some ⟨g,0,none⟩) n cap) n (rV r.args))(d:n=r.args.length):w6 w (r,g,0,cap):=by
 obtain⟨f,j,b,ak,_,a,e,_,c⟩:=Nj h am;cases ak;refine⟨by simp only;omega,b,_,a,fun i hi=>?_⟩;simp only at hi⊢;rw[gm,c i z];exact Tp r.args i hi
theorem aCi{S:cO}{M:Nat->Nat}{l:List bA}{base:Nat}{w:World}{f j e:Value}{a:List tG}(h:rA S M l base w f j e a){b:Nat}{z0 n o z3 z4 z5:Value}(A:w.heap[b]? =some (.cells #[z0,n,o,z3,z4,z5] 29 (0,0)))(a0 bO cu a3 a4 a5:Value): rA S M l base ((((((w.setCell ⟨b,0,none⟩ a0).setCell ⟨b,1,none⟩ bO).setCell ⟨b,2,none⟩ cu).setCell ⟨b,3,none⟩ a3).setCell ⟨b,4,none⟩ a4).setCell ⟨b,5,none⟩ a5) f j e a/\((((((w.setCell ⟨b,0,none⟩ a0).setCell ⟨b,1,none⟩ bO).setCell ⟨b,2,none⟩ cu).setCell ⟨b,3,none⟩ a3).setCell ⟨b,4,none⟩ a4).setCell ⟨b,5,none⟩ a5).heap[b]? =some (.cells #[a0,bO,cu,a3,a4,a5] 29 (0,0)):=by
 have d:=hS (i:=0) A a0;have c:=hS (i:=1) d bO;have co:=hS (i:=2) c cu;have g:=hS (i:=3) co a3;have k:=hS (i:=4) g a4;have m:=hS (i:=5) k a5;exact⟨(((((h.EF A 0 a0).EF d 1 bO).EF c 2 cu).EF co 3 a3).EF g 4 a4).EF k 5 a5,m⟩
theorem Tv{B:Nat}{a w:World}(h:Below B a w){b:Nat}(A:B<=b)(a0 bO cu a3 a4 a5:Value):Below B a ((((((w.setCell ⟨b,0,none⟩ a0).setCell ⟨b,1,none⟩ bO).setCell ⟨b,2,none⟩ cu).setCell ⟨b,3,none⟩ a3).setCell ⟨b,4,none⟩ a4).setCell ⟨b,5,none⟩ a5):=
 (((((h.setCell (p:=⟨b,0,none⟩) A a0).setCell (p:=⟨b,1,none⟩) A bO).setCell (p:=⟨b,2,none⟩) A cu).setCell (p:=⟨b,3,none⟩) A a3).setCell (p:=⟨b,4,none⟩) A a4).setCell (p:=⟨b,5,none⟩) A a5
theorem ame:(prog.info? 29).map (·.size)=some 6:=au
def atP(S:cO)(b c a:Value):Array Value:=#[.string S.bo,.int .i64 S.cZ,b,c,a,.int .i64 S.aj]
theorem JK(S:cO)(bx:qb S)(w:World)(M:Nat->Nat)(rs:List bA)(P:rs.length<=40)(Kv:∀r∈rs,r.args.length<=3)(ca bd ra:Option Addr)(cc f rc:Nat)(eu:iM w ca S.bs)(fF:rT w bd S.aB M)(dV:uK w ra rs): Calls prog 17 #[.agg #[.string S.bo,.int .i64 S.cZ,.slice ca S.bs.length cc,.slice bd S.aB.length f,.slice ra rs.length rc,.int .i64 S.aj]] w fun e w'=>(∃gr ne A a,e=.returned (.agg (atP S gr ne A))/\rA S M rs w.heap.size w' gr ne A a)/\Below w.heap.size w w':=by
 obtain⟨aw,au,i',iF,iX⟩:=jt axa;obtain⟨av,ar,r4,aO,bm⟩:=jt aw';obtain⟨PJ,Pd,kK,jP,nv⟩:=jt ah3;obtain⟨i3,Pe,O7,O8,Bo⟩:=jt aw9;have VQ:=bx.bs;have rf:=bx.aB;obtain⟨d,j,al,aj,rfl,l1,de⟩:=eu;obtain⟨bJ,g,rfl,jV,kk⟩:=fF;obtain⟨rb,aC,rfl,h0,kj⟩:=dV;go_enter func17,ntmps17;go_upto_region 2 with fail
 have q:tx w #[.string S.bo,.int .i64 S.cZ,.slice (some ⟨d,j,none⟩) S.bs.length cc,.slice (some ⟨bJ,g,none⟩) S.aB.length f,.slice (some ⟨rb,aC,none⟩) rs.length rc,.int .i64 S.aj] #[.string S.bo,.int .i64 S.cZ,.slice (some ⟨d,j,none⟩) S.bs.length cc,.slice (some ⟨bJ,g,none⟩) S.aB.length f,.slice (some ⟨rb,aC,none⟩) rs.length rc,.int .i64 S.aj] (((w.alloc (.cells #[.string S.bo,.int .i64 S.cZ,.slice (some ⟨d,j,none⟩) S.bs.length cc,.slice (some ⟨bJ,g,none⟩) S.aB.length f,.slice (some ⟨rb,aC,none⟩) rs.length rc,.int .i64 S.aj] 29)).alloc (.cells #[.string ⟨#[]⟩,.int .i64 0,.slice none 0 0,.slice none 0 0,.slice none 0 0,.int .i64 0] 29)).alloc (.cells #[.string S.bo,.int .i64 S.cZ,.slice (some ⟨d,j,none⟩) S.bs.length cc,.slice (some ⟨bJ,g,none⟩) S.aB.length f,.slice (some ⟨rb,aC,none⟩) rs.length rc,.int .i64 S.aj] 29)):=by have cy:=jC w (.cells #[.string S.bo,.int .i64 S.cZ,.slice (some ⟨d,j,none⟩) S.bs.length cc,.slice (some ⟨bJ,g,none⟩) S.aB.length f,.slice (some ⟨rb,aC,none⟩) rs.length rc,.int .i64 S.aj] 29);have dv:=jC (w.alloc (.cells #[.string S.bo,.int .i64 S.cZ,.slice (some ⟨d,j,none⟩) S.bs.length cc,.slice (some ⟨bJ,g,none⟩) S.aB.length f,.slice (some ⟨rb,aC,none⟩) rs.length rc,.int .i64 S.aj] 29)) (.cells #[.string ⟨#[]⟩,.int .i64 0,.slice none 0 0,.slice none 0 0,.slice none 0 0,.int .i64 0] 29);exact Xx
 generalize (((w.alloc (.cells #[.string S.bo,.int .i64 S.cZ,.slice (some ⟨d,j,none⟩) S.bs.length cc,.slice (some ⟨bJ,g,none⟩) S.aB.length f,.slice (some ⟨rb,aC,none⟩) rs.length rc,.int .i64 S.aj] 29)).alloc (.cells #[.string ⟨#[]⟩,.int .i64 0,.slice none 0 0,.slice none 0 0,.slice none 0 0,.int .i64 0] 29)).alloc (.cells #[.string S.bo,.int .i64 S.cZ,.slice (some ⟨d,j,none⟩) S.bs.length cc,.slice (some ⟨bJ,g,none⟩) S.aB.length f,.slice (some ⟨rb,aC,none⟩) rs.length rc,.int .i64 S.aj] 29))=O at q⊢;have aJ:O.cell? ⟨w.heap.size,2,none⟩=some (.slice (some ⟨d,j,none⟩) S.bs.length cc):=aS 2 q.g;have b2:=cX q.g;have hp:=cX q.o;have NN:=G (alN (w:=O.alloc (.cells #[] 138)) (b:=d) S.bs j fun i hi=>by
  have aa:(O.alloc (.cells #[] 138)).heap[d]? =some (.cells al 138 aj):=by
   rw[(q.b.alloc q.b.size _).block d (cX l1)];exact l1
  simp only[World.cell?,aa]
  exact de i hi)
 go_upto_region 3 with(at_builtin;refine lP _ rfl _ _ 25 rfl w.heap.size 138 aw _ 2 24 underlying25 au i' iF iX rfl ai (.slice (some ⟨O.heap.size,0,none⟩) 0 0) 0 [] rfl (yd O _ _ _ q.b.size) ⟨d,j,none⟩ S.bs.length cc (q2 S.bs) rfl (aed _) NN.out (aee _) (by unfold maxLen;omega) z (by have:=q.b.size;simp;omega) ?_;intro eO ao Z DT Pq;rw[gm,vF]at Z;obtain⟨u,x,rfl⟩:=LU Z (fun e=>by have:=(Pq.1 e).1;cases this);have eT:=OL DT;have Q:=q.U eT;have c2:ao.cell? ⟨w.heap.size+1+1,2,none⟩=some (.slice (some ⟨d,j,none⟩) S.bs.length cc):=aS 2 Q.o;have hg:ao.frozen? ⟨w.heap.size+1+1,2,none⟩=false:=(by simp[World.frozen?,Q.o]))
 have E:=Q.gj 2 (.slice (some ⟨u,0,none⟩) S.bs.length x);have Vb:=zZ Z Q.o ai 2 (.slice (some ⟨u,0,none⟩) S.bs.length x);have n:=E.b;clear Z DT Pq c2 hg Q q NN eT aJ b2 hp;generalize (ao.setCell ⟨w.heap.size+1+1,2,none⟩ (.slice (some ⟨u,0,none⟩) S.bs.length x))=X at E Vb n⊢;have bv:X.cell? ⟨w.heap.size,3,none⟩=some (.slice (some ⟨bJ,g,none⟩) S.aB.length f):=aS 3 E.g;have b2:=cX E.g;have hp:=cX E.o;have ad:=G (alO (w:=X.alloc (.cells #[] 62)) (b:=bJ) M S.aB 0 g fun i hi=>by
  rw[(n.alloc n.size _).cell jV,(n.alloc n.size _).cell jV,(n.alloc n.size _).cell jV,gm]
  exact kk i hi)
 go_upto_region 4 with(at_builtin;refine lP _ rfl _ _ 26 rfl w.heap.size 62 av _ 3 32 underlying26 ar r4 aO bm rfl ai (.slice (some ⟨X.heap.size,0,none⟩) 0 0) 0 [] rfl (yd X _ _ _ n.size) ⟨bJ,g,none⟩ S.aB.length f (qC S.aB M 0) rfl (amM _ _ _) ad.out (amN _ _ _) (by unfold maxLen;omega) z (by have:=n.size;simp;omega) ?_;intro v4 H W ae ah;rw[gm,vF]at W;obtain⟨l,m,rfl⟩:=LU W (fun e=>by have:=(ah.1 e).1;cases this);have iL:=OL ae;have s:=E.U iL;have c4:H.cell? ⟨w.heap.size+1+1,3,none⟩=some (.slice (some ⟨bJ,g,none⟩) S.aB.length f):=aS 3 s.o;have u':H.frozen? ⟨w.heap.size+1+1,3,none⟩=false:=(by simp[World.frozen?,s.o]);have c5:H.cell? ⟨w.heap.size+1+1,4,none⟩=some (.slice (some ⟨rb,aC,none⟩) rs.length rc):=aS 4 s.o;have f5:H.frozen? ⟨w.heap.size+1+1,4,none⟩=false:=(by simp[World.frozen?,s.o]))
 have xN:=(s.gj 3 (.slice (some ⟨l,0,none⟩) S.aB.length m)).gj 4 (.slice none 0 0);have Vc:=zZ (zZ (Hf Vb iL) s.o ai 3 (.slice (some ⟨l,0,none⟩) S.aB.length m)) (s.gj 3 (.slice (some ⟨l,0,none⟩) S.aB.length m)).o ai 4 (.slice none 0 0);have wu:=zZ (zZ W s.o ai 3 (.slice (some ⟨l,0,none⟩) S.aB.length m)) (s.gj 3 (.slice (some ⟨l,0,none⟩) S.aB.length m)).o ai 4 (.slice none 0 0);have xO:tx w #[.string S.bo,.int .i64 S.cZ,.slice (some ⟨d,j,none⟩) S.bs.length cc,.slice (some ⟨bJ,g,none⟩) S.aB.length f,.slice (some ⟨rb,aC,none⟩) rs.length rc,.int .i64 S.aj] #[.string S.bo,.int .i64 S.cZ,(.slice (some ⟨u,0,none⟩) S.bs.length x),(.slice (some ⟨l,0,none⟩) S.aB.length m),.slice none 0 0,.int .i64 S.aj] ((H.setCell ⟨w.heap.size+1+1,3,none⟩ (.slice (some ⟨l,0,none⟩) S.aB.length m)).setCell ⟨w.heap.size+1+1,4,none⟩ (.slice none 0 0)):=xN;clear xN
 go_wp2;clear W ae ah c4 u' c5 f5 s E ad iL bv b2 hp Vb n;generalize ((H.setCell ⟨w.heap.size+1+1,3,none⟩ (.slice (some ⟨l,0,none⟩) S.aB.length m)).setCell ⟨w.heap.size+1+1,4,none⟩ (.slice none 0 0))=bq at xO Vc wu⊢;go_loopw [4] (fun i wr=>∃(k:Nat) (A:Value) (a:List tG),k<=rs.length/\i=.int .i64 k/\tx w #[.string S.bo,.int .i64 S.cZ,.slice (some ⟨d,j,none⟩) S.bs.length cc,.slice (some ⟨bJ,g,none⟩) S.aB.length f,.slice (some ⟨rb,aC,none⟩) rs.length rc,.int .i64 S.aj] #[.string S.bo,.int .i64 S.cZ,(.slice (some ⟨u,0,none⟩) S.bs.length x),(.slice (some ⟨l,0,none⟩) S.aB.length m),A,.int .i64 S.aj] wr/\rA S M (rs.take k) w.heap.size wr (.slice (some ⟨u,0,none⟩) S.bs.length x) (.slice (some ⟨l,0,none⟩) S.aB.length m) A a) (fun i _=>rs.length-(RowKit.intOf i).toNat);case atStart=>exact⟨0,_,[],dq _,rfl,xO,Vc,wu,mo _ _ _ _,am,fun e aL=>by cases aL⟩
 case round=>
  clear xO Vc wu;obtain⟨k,A,a,aa,rfl,c,F⟩:=hrel;have dh:a.length=k:=by have:=ih List.length F.e;simpa[M1 aa]using this
  subst dh;have cT:wr.cell? ⟨w.heap.size,4,none⟩=some (.slice (some ⟨rb,aC,none⟩) rs.length rc):=aS 4 c.g;have b2:=cX c.g;have hp:=cX c.o;have WI:=c.b.size;by_cases aq:a.length<rs.length
  ·obtain⟨aP,ac,P⟩:=kj a.length aq;have K:=P.U h0 c.b;obtain⟨y,B,rfl⟩:=P.cn;have nT:=Kv _ (fM aq);have lE:=K.br;have g2:=K.c1;have hg:=K.c2;have q6:=K.c3;have ax:rb<wr.heap.size:=z;have mj:(0:Int)<=(a.length:Int):=z;have lj:(a.length:Int)<rs.length:=z;have n0:(a.length:Int)<=1000:=z;have ab:=G (alM (w:=(wr.alloc (.cells #[.int .i64 rs[a.length].h,.string rs[a.length].op,.string rs[a.length].aF,.slice (some ⟨y,B,none⟩) rs[a.length].args.length ac] 86)).alloc (.cells #[] 3)) (b:=y) rs[a.length].args B fun i hi=>by
    obtain⟨df,kW,j8,iq,lc⟩:=P.args z
    cases j8
    rw[((c.b.alloc WI _).alloc bu _).cell iq]
    exact lc i hi)
   have N:=G c;have U:=G F;clear c F P K;go_upto_region 10 with(at_builtin;refine lP _ rfl _ _ 22 rfl w.heap.size 3 i3 _ 1 8 underlying22 Pe O7 O8 Bo rfl ai (.slice (some ⟨wr.heap.size+1,0,none⟩) 0 0) 0 [] rfl (by have:=yd (wr.alloc (.cells #[.int .i64 rs[a.length].h,.string rs[a.length].op,.string rs[a.length].aF,.slice (some ⟨y,B,none⟩) rs[a.length].args.length ac] 86)) w.heap.size 3 1 bu;rw[jC]at this;exact this) ⟨y,B,none⟩ rs[a.length].args.length ac (rV rs[a.length].args) rfl (by rw[adD];omega) ab.out (adE _) (by unfold maxLen;omega) z bu ?_;intro tl w7 Y nW GD;rw[gm,vF]at Y;obtain⟨C,D,rfl⟩:=LU Y (fun e=>by have:=(GD.1 e).1;cases this);have gb:Below (wr.alloc (.cells #[.int .i64 rs[a.length].h,.string rs[a.length].op,.string rs[a.length].aF,.slice (some ⟨y,B,none⟩) rs[a.length].args.length ac] 86)).heap.size (wr.alloc (.cells #[.int .i64 rs[a.length].h,.string rs[a.length].op,.string rs[a.length].aF,.slice (some ⟨y,B,none⟩) rs[a.length].args.length ac] 86)) w7:=OL (by rw[jC];exact nW);have L:w7.heap[wr.heap.size]? =some (.cells #[.int .i64 rs[a.length].h,.string rs[a.length].op,.string rs[a.length].aF,.slice (some ⟨y,B,none⟩) rs[a.length].args.length ac] 86 (0,0)):=(by rw[gb.block _ am];exact da _ _);have oq:w7.cell? ⟨wr.heap.size,3,none⟩=some (.slice (some ⟨y,B,none⟩) rs[a.length].args.length ac):=aS 3 L;have f7:w7.frozen? ⟨wr.heap.size,3,none⟩=false:=(by simp[World.frozen?,L]))
   have DO:(w7.setCell ⟨wr.heap.size,3,none⟩ (.slice (some ⟨C,0,none⟩) rs[a.length].args.length D)).heap[wr.heap.size]? =some (.cells #[.int .i64 rs[a.length].h,.string rs[a.length].op,.string rs[a.length].aF,.slice (some ⟨C,0,none⟩) rs[a.length].args.length D] 86 (0,0)):=hS L _;have T:Below wr.heap.size wr (w7.setCell ⟨wr.heap.size,3,none⟩ (.slice (some ⟨C,0,none⟩) rs[a.length].args.length D)):=((((bi _ _).alloc (aZ _) _).trans (gb.mono am)).setCell (aZ _) _);have Gj:=adF (aq0 Y rfl) L ai 3 (.slice (some ⟨C,0,none⟩) rs[a.length].args.length D);clear L gb Y nW GD oq f7 ab lE g2 hg q6 cT;generalize (w7.setCell ⟨wr.heap.size,3,none⟩ (.slice (some ⟨C,0,none⟩) rs[a.length].args.length D))=di at DO T Gj⊢;have R:=N.out.U T;have Vd:=U.out.U T;obtain⟨va,o,rfl⟩:∃va o,A=.slice va a.length o:=by
    rcases Vd.r.2 with⟨aM,bZ⟩|⟨o4,cap,cj,ak,aJ,_⟩
    ·rw[bZ];exact⟨_,_,aM⟩
    ·exact⟨_,_,ak⟩
   have gE:di.cell? ⟨w.heap.size+1+1,4,none⟩=some (.slice va a.length o):=aS 4 R.o;obtain⟨fV,b6,cf,ep⟩:=T' DO;have PI:=R.b.size;have ni:=G R;have V:=G Vd;have Nn:=G Gj;clear N U R Vd Gj DO T
   go_wp2_with (at_builtin;refine lP _ rfl _ _ 27 rfl w.heap.size 86 PJ _ 4 64 underlying27 Pd kK jP nv rfl ai (.slice va a.length o) a.length (ti a) rfl (V.out.r.alloc _) ⟨di.heap.size,0,none⟩ 1 1 [.int .i64 rs[a.length].h,.string rs[a.length].op,.string rs[a.length].aF,.slice (some ⟨C,0,none⟩) rs[a.length].args.length D] rfl rfl (sy (cs:=#[.int .i64 rs[a.length].h,.string rs[a.length].op,.string rs[a.length].aF,.slice (some ⟨C,0,none⟩) rs[a.length].args.length D]) (t:=86) (fr:=(0,0)) (p1 di _)) (by simp[Value.oneCell']) (by unfold maxLen;omega) z bu ?_;intro v9 gD o_ o9 an;obtain⟨zq,zi,rfl⟩:=LU o_ (fun e=>by have:=(an.1 e).2;omega);have I:=G (ni.out.grown o9 (akV V.out.r));have pB:gD.cell? ⟨w.heap.size+1+1,4,none⟩=some (.slice va a.length o):=aS 4 I.out.o;have J8:gD.frozen? ⟨w.heap.size+1+1,4,none⟩=false:=(by simp[World.frozen?,I.out.o]));have af:=I.out.gj 4 (.slice (some ⟨zq,0,none⟩) (a.length+1) zi);have VX:=(V.out.next (rs[a.length],C,0,D) Nn.out o9 o_).EF I.out.o 4 (.slice (some ⟨zq,0,none⟩) (a.length+1) zi);rw[←tu aq]at VX;have ag:tx w #[.string S.bo,.int .i64 S.cZ,.slice (some ⟨d,j,none⟩) S.bs.length cc,.slice (some ⟨bJ,g,none⟩) S.aB.length f,.slice (some ⟨rb,aC,none⟩) rs.length rc,.int .i64 S.aj] #[.string S.bo,.int .i64 S.cZ,(.slice (some ⟨u,0,none⟩) S.bs.length x),(.slice (some ⟨l,0,none⟩) S.aB.length m),.slice (some ⟨zq,0,none⟩) (a.length+1) zi,.int .i64 S.aj] (gD.setCell ⟨w.heap.size+1+1,4,none⟩ (.slice (some ⟨zq,0,none⟩) (a.length+1) zi)):=af;clear af pB J8 o_ o9 I ni V;go_roundw;case rel=>first|exact⟨a.length+1,_,_,z,bM,ag,VX⟩|((repeat apply Exists.intro);refine⟨?_,rfl⟩;exact⟨a.length+1,_,_,z,bM,ag,VX⟩)
   case measure=>simp[RowKit.intOf];omega
  ·have qj:a.length=rs.length:=z;rw[qj,vG]at F;obtain⟨va,o,rfl⟩:∃va o,A=.slice va rs.length o:=by
    rw[←qj];rcases F.r.2 with⟨aM,bZ⟩|⟨o4,cap,cj,ak,aJ,_⟩
    ·rw[bZ];exact⟨_,_,aM⟩
    ·exact⟨_,_,ak⟩
   obtain⟨gC,c_,dL,fU,gE,gM⟩:=fZ c.o;obtain⟨ft,dS,eo,hj,jW,kb⟩:=fZ c.q;have z0:wr.frozen? ⟨w.heap.size+1,0,none⟩=false:=by simp[World.frozen?,c.q]
   have cy:wr.frozen? ⟨w.heap.size+1,1,none⟩=false:=by simp[World.frozen?,c.q]
   have dv:wr.frozen? ⟨w.heap.size+1,2,none⟩=false:=by simp[World.frozen?,c.q]
   have z3:wr.frozen? ⟨w.heap.size+1,3,none⟩=false:=by simp[World.frozen?,c.q]
   have z4:wr.frozen? ⟨w.heap.size+1,4,none⟩=false:=by simp[World.frozen?,c.q]
   have z5:wr.frozen? ⟨w.heap.size+1,5,none⟩=false:=by simp[World.frozen?,c.q]
   have N:=G c;have U:=G F;clear c F;have fo:=aCi U.out N.out.q (.string S.bo) (.int .i64 S.cZ) (.slice (some ⟨u,0,none⟩) S.bs.length x) (.slice (some ⟨l,0,none⟩) S.aB.length m) (.slice va rs.length o) (.int .i64 S.aj);have dl:=Tv N.out.b (b:=w.heap.size+1) z (.string S.bo) (.int .i64 S.cZ) (.slice (some ⟨u,0,none⟩) S.bs.length x) (.slice (some ⟨l,0,none⟩) S.aB.length m) (.slice va rs.length o) (.int .i64 S.aj);have Il:=G fo;have fO:=G dl;clear fo dl
   go_wp2;refine fL (aa2 (fn:=f17) rfl _ _ (w.heap.size+1) 29 _ (0,0) _ rfl Il.out.2 underlying29 rfl ame) rfl ?_;exact⟨⟨_,_,_,a,rfl,Il.out.1⟩,fO.out⟩
end Go.bj.N
namespace Go.b3
open Go Go.Proofs.Tryz Go.Proofs Go.RowKit Go.Lib Go.aI
theorem WU:(prog.info? 45).map (fun i=>(i.zero,i.size,i.bytes))=some (some (.slice none 0 0),1,24):=au
theorem axe:(prog.info? 9).map (fun i=>(i.zero,i.size,i.bytes))=some (some (.string ⟨#[]⟩),1,16):=au
theorem akU{base g n cap:Nat}{w w':World}{o:Obj}{v:Value}(c:(w.alloc o).grownBy w' v.ownBlock)(a:v.ownBlock=some g∨g=w.heap.size+1): fw (iQ base v) w w'/\∀b,iQ base v b/\b<w.heap.size->iQ base (.slice (some ⟨g,0,none⟩) n cap) b:=by
 refine⟨⟨by have:=c.size;simp at this;omega,fun b A aq=>by
   rw[c.block b bu A.2]
   exact Ck w _ b aq⟩,?_⟩
 rintro b ⟨⟨f,d⟩,co⟩;refine⟨f,fun e=>?_⟩;simp[Value.ownBlock]at e;subst e;rcases a with a|a
 ·exact d a.symm
 ·omega
theorem cU.push{base d g n cap:Nat}{w w':World}{o:Obj}{v:Value}(f:(w.alloc o).grownBy w' v.ownBlock)(j:v.ownBlock=some g∨g=w.heap.size+1){a:Option Addr}{l:List bH}(h:cU (iQ base v) (aY (iQ base v) d) w a l):cU (iQ base (.slice (some ⟨g,0,none⟩) n cap)) (aY (iQ base (.slice (some ⟨g,0,none⟩) n cap)) d) w' a l:=by
 obtain⟨e,c⟩:=akU (base:=base) (n:=n) (cap:=cap) f j;have H:=h.lt (P':=aY (fun b=>iQ base v b/\b<w.heap.size) d) (fun F v i=>i.lt);have I:=H.gf (w':=w') (fun _ _ _ _ ag A=>ag.gf A) (e.wY fun b A=>A.1);exact I.low c (fun _ _ _ ag=>ag.low c)
structure j3 (base d:Nat) (w:World) (v:Value) (l:List (List bH)):Prop where
 o:∃ss:List Value,ss.length=l.length/\w.ownsRow base 45 1 v l.length ss/\∀j (H:j<ss.length) (I:j<l.length),∃a c,ss[j]=.slice a l[j].length c/\cU (iQ base v) (aY (iQ base v) d) w a l[j]
theorem j3.nil(base d:Nat)(w:World):j3 base d w (.slice none 0 0) []:=⟨[],rfl,mo _ _ _ _,fun j H=>by cases H⟩
theorem j3.hz{base d:Nat}{w:World}{v:Value}{l:List (List bH)}(h:j3 base d w v l):∃a c,v=.slice a l.length c:=by
 obtain⟨e,H,I,b⟩:=h.o;exact P2
theorem j3.lt{base d:Nat}{w:World}{v:Value}{l:List (List bH)}(h:j3 base d w v l):∀g,v.ownBlock=some g->base<=g/\g<w.heap.size:=by
 exact aiT
theorem j3.gf{base d:Nat}{w w':World}{v:Value}{l:List (List bH)}(h:j3 base d w v l)(f:fw (gR base) w w'):j3 base d w' v l:=by
 obtain⟨k,H,I,i⟩:=h.o;refine⟨k,H,n2 I f,fun j a b=>?_⟩;obtain⟨p,c,e,g⟩:=i j a b;exact⟨p,c,e,g.gf (fun _ _ _ _ ag A=>ag.gf A) (f.wY fun b A=>A.1)⟩
theorem j3.U{base d:Nat}{w w':World}{v:Value}{l:List (List bH)}(h:j3 base d w v l)(A:Below w.heap.size w w'):j3 base d w' v l:=h.gf (.g0 A)
theorem j3.st{base d c:Nat}{w w':World}{v:Value}{l:List (List bH)}(h:j3 base d w v l){a:Option Addr}{u:List bH}{n:Nat}(i:w.heap.size<=n)(A:base<=n)(J:cU (gR n) (aY (gR n) c) w' a u):cU (iQ base v) (aY (iQ base v) c) w' a u:=by
 have f:∀b,gR n b->iQ base v b:=fun b g=>⟨db A g,fun e=>by have:=(h.lt b e.symm).2;have:n<=b:=g;omega⟩;exact J.low f fun _ _ _ ag=>ag.low f
theorem j3.push{base d:Nat}{w w':World}{v:Value}{l:List (List bH)}(h:j3 base d w v l){a:Option Addr}{u:List bH}{c:Nat}(n:cU (iQ base v) (aY (iQ base v) d) w a u){o:Obj}{g cap:Nat}(i:(w.alloc o).grownBy w' v.ownBlock)(k:v.ownBlock=some g∨g=w.heap.size+1){ss:List Value}(s:ss.length=l.length)(m:∀j (H:j<ss.length) (I:j<l.length),∃a c,ss[j]=.slice a l[j].length c/\cU (iQ base v) (aY (iQ base v) d) w a l[j]) (r:w'.ownsRow base 45 1 (.slice (some ⟨g,0,none⟩) (l.length+1) cap) (l.length+1) (ss++[.slice a u.length c])):j3 base d w' (.slice (some ⟨g,0,none⟩) (l.length+1) cap) (l++[u]):=by
 refine⟨ss++[.slice a u.length c],by simp[s],by simpa using r,fun j t x=>?_⟩;by_cases f:j<ss.length
 ·have b:j<l.length:=z;rw[Au f,Au b];obtain⟨p,q,e,ag⟩:=m j f b;exact⟨p,q,e,ag.push i k⟩
 ·have b:¬j<l.length:=z;rw[Av z,Av z];simp only[RN];exact⟨a,c,rfl,n.push i k⟩
theorem j3.a_{base d:Nat}{w:World}{v:Value}{l:List (List bH)}(h:j3 base d w v l)(o:l.length<=100):∃a c,v=.slice a l.length c/\hW (gR base) (aY (gR base) d) w a l:=by
 obtain⟨ss,H,I,k⟩:=h.o;obtain⟨a,c,rfl⟩:=h.hz;refine⟨a,c,rfl,o,fun ab=>?_⟩;have qh:=I;rcases I.2 with⟨r,m⟩|⟨g,cap,t,ak,f,n,s,u,x,y⟩
 ·exact absurd m z
 ·injection ak with mf _ _
  refine⟨g,0,mf,f,b1 n,fun j i=>?_⟩;obtain⟨p,q,e,ag⟩:=k j z i;refine⟨p,q,?_,ag.low (fun b A=>A.1) fun _ _ _ J=>J.low fun b A=>A.1⟩;exact ajD
section
variable {P:Program} {w:World}
theorem aEW{ops:Array Oper}{rest:List Oper}{o:Oper}{a:Act}{ea:Exit->Act->World->Prop}(y:o.guard=none)(s x:Operand)(t:TypeId)
  (n:o.op=.call {callee:=.builtin .append,args:=#[s,x],argTypes:=#[t,t]})
  (e:TypeId)(i:TypeInfo)(ah:P.underlying t=some (.slice e))(hi:P.info? e=some i)(b off m cap:Nat)(l:m<=cap)(ca:Option Addr)(c:Nat)
  (f:a.eval s=.slice (some ⟨b,off,none⟩) m cap)(g:a.eval x=.slice ca 0 c)(h:wpList P ops ea rest (a.put o.dst (.slice (some ⟨b,off,none⟩) m cap)) w):wpList P ops ea (o::rest) a w:=
 RI y fun _ r=>by
  have q:Src P i.size t (.slice ca 0 c) 0 [] w:=by
   cases ca with
   |none=>exact Src.ofNil w ah c
   |some ad=>exact Src.ofSlice w ah ad 0 c [] am (fun j u hu=>by simp at hu) (fun u hu=>by cases hu)
  have k:=run_append_room_src (P:=P) w t t o.type e i ah hi b off m cap (.slice ca 0 c) 0 [] q l (fun j d=>by cases d) (fun j d=>by cases d)
  unfold Oper.wp execOp
  simp only[n,resolve,invoke,builtin,d',eQ,dX,MU,oa,Cq,f,g,k]
  exact r _ _ h
end
abbrev fi:Array Value:=#[.int .i64 0,.string ⟨#[]⟩,.int .i64 0,.int .i64 0,.int .i64 0,.slice none 0 0,.slice none 0 0]
structure qM (w:World) (F mx:Array Value) (wr:World):Prop where
 b:Below w.heap.size w wr
 g:wr.heap[w.heap.size]? =some (.cells F 44 (0,0))
 q:wr.heap[w.heap.size+1]? =some (.cells fi 44 (0,0))
 o:wr.heap[w.heap.size+1+1]? =some (.cells mx 44 (0,0))
theorem qM.U{w wr w':World}{F a:Array Value}(h:qM w F a wr)(A:Below wr.heap.size wr w'):qM w F a w':=
 ⟨b_ h.b A,by rw[A.block _ (b1 h.g)];exact h.g,by rw[A.block _ (b1 h.q)];exact h.q,by rw[A.block _ (b1 h.o)];exact h.o⟩
theorem qM.gj{w wr:World}{F a:Array Value}(h:qM w F a wr)(i:Nat)(u:Value):qM w F (a.setIfInBounds i u) (wr.setCell ⟨w.heap.size+1+1,i,none⟩ u):=
 ⟨h.b.setCell bu _,by rw[hm _ _ _ _ (by show w.heap.size≠w.heap.size+1+1;omega)];exact h.g,by rw[hm _ _ _ _ (by show w.heap.size+1≠w.heap.size+1+1;omega)];exact h.q,hS h.o _⟩
theorem qM.grown{w a w7:World}{F g:Array Value}(h:qM w F g a){o:Obj}{e2:Option Nat}(f:(a.alloc o).grownBy w7 e2)(d:∀b,e2=some b->w.heap.size+3<=b):qM w F g w7:=by
 have c:∀b,b<w.heap.size+3->b<a.heap.size->w7.heap[b]? =a.heap[b]? :=fun b A aq=>by rw[f.block b bu (fun e=>by have:=d b e.symm;omega)];exact Ck a _ b aq
 exact⟨(h.b.alloc h.b.size o).grown f (by have:=h.b.size;simp;omega) (fun b A=>by have:=d b A;omega),by rw[c _ z (b1 h.g)];exact h.g,by rw[c _ z (b1 h.q)];exact h.q,by rw[c _ z (b1 h.o)];exact h.o⟩
theorem qM.g7(w:World)(F:Array Value):qM w F F (((w.alloc (.cells F 44)).alloc (.cells fi 44)).alloc (.cells F 44)):=by
 have cy:=jC w (.cells F 44);have dv:=jC (w.alloc (.cells F 44)) (.cells fi 44);exact Xx
def EJ(l:List ByteArray):List Value:=l.map Value.string
theorem aDg{w:World}{ad:Addr}{l:List ByteArray}{b o:Nat}(e:ad=⟨b,o,none⟩)(c:∀i (hi:i<l.length),w.cell? ⟨b,o+i,none⟩=some (.string l[i])):∀j u,(EJ l)[j]? =some u->w.cell? (ad.add j)=some u:=fun j u hu=>by
 subst e
 rw[Aq]
 rw[EJ,pn]at hu
 by_cases a:j<l.length
 ·rw[ln a]at hu
  simp at hu
  rw[c j a,hu]
 ·rw[E0 z]at hu
  cases hu
theorem aDf{base:Nat}{w:World}{g n cap:Nat}{l:List ByteArray}(f:l.length<=40)(h:w.ownsRow base 9 1 (.slice (some ⟨g,0,none⟩) n cap) n (EJ l)):he (gR base) w (some ⟨g,0,none⟩) l:=
 ⟨f,fun ab=>by
  have d:=h
  rcases h.2 with⟨c,j⟩|⟨m,o,k,ak,b,e,_⟩
  ·cases c
  ·injection ak with a _ _
   injection a with a
   injection a with a
   subst a
   refine⟨g,0,rfl,b,b1 e,fun i hi=>?_⟩
   have:=d.cells (g:=g) rfl i (.string l[i]) (by simp[EJ,hi])
   rw[Aq]at this
   exact this⟩
theorem T8(d:Nat)(k:Int)(s:ByteArray)(N S n:Int)(cs:List ByteArray)(a_:List (List bH))(T:0<a_.length->∀(w:World) (a:Option Addr) (c:Nat) (l:List bH),cU be (aY be d) w a l->Calls prog 488 #[.slice a l.length c] w fun e w'=>ac2 d w.heap.size l e w'/\Below w.heap.size w w') (w:World)(F:Array Value)(h:aY be (d+1) w F (.mk k s N S n cs a_)):Calls prog 365 #[.agg F] w fun e w'=>y_ (d+1) w.heap.size (.mk k s N S n cs a_) e w'/\Below w.heap.size w w':=by
 obtain⟨ca,cc,ra,rc,rfl,P,R⟩:=h;have gu:=G (qM.g7 w (bY k s N S n ca cs.length cc ra a_.length rc));obtain⟨av,al,iu,Q,lI⟩:=jt axe;obtain⟨WO,V2,nB,j_,pa⟩:=jt WU;go_enter func365,ntmps365;go_upto_region 2 with fail
 generalize (((w.alloc (.cells (bY k s N S n ca cs.length cc ra a_.length rc) 44)).alloc (.cells fi 44)).alloc (.cells (bY k s N S n ca cs.length cc ra a_.length rc) 44))=C at gu⊢;go_cut [] (fun c9=>∃(c1:Option Addr) (c2:Nat),qM w (bY k s N S n ca cs.length cc ra a_.length rc) (bY k s N S n c1 cs.length c2 ra a_.length rc) c9/\he (gR (w.heap.size+3)) c9 c1 cs);case first=>
  have f:=gu.out;have jw:C.cell? ⟨w.heap.size,5,none⟩=some (.slice ca cs.length cc):=aS 5 f.g;have b2:=b1 f.g;have hp:=b1 f.o;have kp:C.cell? ⟨w.heap.size+1+1,5,none⟩=some (.slice ca cs.length cc):=aS 5 f.o;have z5:C.frozen? ⟨w.heap.size+1+1,5,none⟩=false:=Ln 5 f.o;have dN:=f.b.size;have O:=G f;by_cases ab:cs=[]
  ·subst ab;clear f R T P;simp only[yO]at jw kp
   go_wp2_with (at_builtin;refine aEW rfl _ _ 41 rfl 9 av underlying41 al C.heap.size 0 0 0 (aZ _) ca cc rfl rfl ?_);go_meet;refine⟨_,_,(O.out.gj 5 _).U ((bi _ _).alloc (aZ _) _),⟨am,fun ab=>absurd ab am⟩⟩
  ·have ax:0<cs.length:=by
    rcases cs with _|⟨x,l⟩
    ·exact absurd rfl ab
    ·simp
   have U9:=P.1;obtain⟨ed,fY,rfl,_,l1,de⟩:=P.2 ax;have NN:=G (aDg (w:=C.alloc (.cells #[] 9)) (ad:=⟨ed,fY,none⟩) (l:=cs) rfl fun i hi=>((f.b.alloc dN _).cell l1).trans (de i hi));have cP:=Go.bj.N.yd C (w.heap.size+3) 9 1 z;clear f R T P de
   go_wp2_with (at_builtin;refine lP _ rfl _ _ 41 rfl (w.heap.size+3) 9 av _ 1 16 underlying41 al iu Q lI rfl ai (.slice (some ⟨C.heap.size,0,none⟩) 0 0) 0 [] rfl cP ⟨ed,fY,none⟩ cs.length cc (EJ cs) rfl (by simp[EJ]) NN.out (by simp[EJ,Value.oneCell']) (by unfold maxLen;omega) z bu ?_;intro eO y ud DT Pq;rw[gm,vF]at ud;obtain⟨bb,sR,rfl⟩:=Go.bj.N.LU ud (fun e=>by have:=(Pq.1 e).1;cases this);have eT:=G (Go.bj.N.OL DT);have E:=O.out.U eT.out;have c2:y.cell? ⟨w.heap.size+1+1,5,none⟩=_:=aS 5 E.o;have hg:=Ln 5 E.o);go_meet;exact⟨_,_,E.gj 5 _,aDf U9 (Go.bj.N.zZ ud E.o ai 5 _)⟩
 case rest=>
  obtain⟨c1,c2,f,an⟩:=hcut;have nI:wc.cell? ⟨w.heap.size+1+1,6,none⟩=some (.slice ra a_.length rc):=aS 6 f.o;have eP:wc.frozen? ⟨w.heap.size+1+1,6,none⟩=false:=Ln 6 f.o;have E:qM w (bY k s N S n ca cs.length cc ra a_.length rc) (bY k s N S n c1 cs.length c2 none 0 0) (wc.setCell ⟨w.heap.size+1+1,6,none⟩ (.slice none 0 0)):=f.gj 6 (.slice none 0 0);have au:he (gR (w.heap.size+3)) (wc.setCell ⟨w.heap.size+1+1,6,none⟩ (.slice none 0 0)) c1 cs:=an.gf ((fw.refl _ wc).set (by show ¬(w.heap.size+3<=w.heap.size+1+1);omega) 6 _);have eK:=G E;have AO:=G au;have mE:=b1 f.o;clear f an P gu E au
  go_wp2;clear nI eP;generalize wc.setCell ⟨w.heap.size+1+1,6,none⟩ (.slice none 0 0)=y at*;have iO:=G (fun W (ar:Below w.heap.size w W)=>(hW.U (aY.mono be d) R ar).2);have aw:=R.1;have hn:=G T;clear R T;have SH:=G AO.out.lt;have ay:w.heap.size+3<=y.heap.size:=b1 eK.out.o;have aA:y.heap.size<=y.heap.size:=aZ _;clear AO;obtain⟨B,aj⟩:∃B,B=y.heap.size:=⟨_,rfl⟩;rw[←aj]at SH ay;have ah:B<=y.heap.size:=z;clear aj aA;go_loopw [4] (fun i wr=>∃(j:Nat) (c3:Option Addr) (c4:Nat),j<=a_.length/\i=.int .i64 j/\qM w (bY k s N S n ca cs.length cc ra a_.length rc) (bY k s N S n c1 cs.length c2 c3 j c4) wr/\he (fun b=>gR (w.heap.size+3) b/\b<B) wr c1 cs/\j3 B d wr (.slice c3 j c4) (a_.take j)/\B<=wr.heap.size) (fun i _=>a_.length-(RowKit.intOf i).toNat);case atStart=>exact⟨0,none,0,dq _,rfl,eK.out,SH.out,j3.nil _ _ _,ah⟩
  case round=>
   clear eK SH ah;obtain⟨j,c3,c4,aa,rfl,m,U,D,aB⟩:=hrel;have ly:wr.cell? ⟨w.heap.size,6,none⟩=some (.slice ra a_.length rc):=aS 6 m.g;have A:=m.b;by_cases aq:j<a_.length
   ·obtain⟨dJ,eH,rfl,_,ja,jO⟩:=iO.out _ m.b z;obtain⟨dp,ei,az,ae⟩:=jO j aq;obtain⟨ss,Z,X,PA⟩:=D.o;have L:(a_.take j).length=j:=by rw[n_];omega
    rw[L]at Z X;have uy:wr.cell? ⟨w.heap.size+1+1,6,none⟩=some (.slice c3 j c4):=aS 6 m.o;have ho:wr.frozen? ⟨w.heap.size+1+1,6,none⟩=false:=Ln 6 m.o;have Q:=b1 m.o;have iu:=b1 m.g;have ha:=G (fun W (ar:Below wr.heap.size wr W)=>hn.out z W dp ei _ (cU.U (aY.mono be d) ae ar));have fX:=G X;have M:=G D;have f:=G m;have O:=G U;have vO:=G PA;have y0:Hid (some (w.heap.size+1+1)≠(Value.slice c3 j c4).ownBlock):=G fun e=>by have:=(D.lt _ e.symm).1;omega
    have ez:Hid (a_.take (j+1)=a_.take j++[a_[j]]):=G (tu aq);have g4:(0:Int)<=(j:Int):=z;have gx:(j:Int)<a_.length:=z;have m4:=A.size;clear jO ae D m U X PA A;generalize a_[j]=e2 at*
    go_wp2
    go_region_law (first
     |(have KK:=Y;refine HL _ (by rfl) _ _ _ (by rfl) B 45 WO _ 1 24 underlying42 V2 nB j_ pa rfl ai (.slice c3 j c4) j ss (by rfl) ((n2 fX.out (.g0 K)).alloc _) ⟨o.heap.size,0,none⟩ 1 1 [.slice eL e2.length q4] (by rfl) (by rfl) (sy (cs:=#[.slice eL e2.length q4]) (t:=45) (fr:=(0,0)) (p1 o _)) (by simp[Value.oneCell']) ai (by unfold maxLen;omega) z bu (o.heap.size+1) am ?_;intro g cap w7 cQ q fB V_;have Ed:w7.cell? ⟨w.heap.size+1+1,6,none⟩=some (.slice c3 j c4):=(by rw[q.cell_far _ bu y0.out,(fH o _).cell Y];exact zS);have f7:w7.frozen? ⟨w.heap.size+1+1,6,none⟩=false:=(by rw[q.frozen_far _ bu y0.out,(fH o _).frozen Y];exact Dt))
     |(go_simp;go_at_call 488;refine(ha.out _ ((bi _ _).drew)).mono ?_;rintro e o ⟨⟨eL,q4,rfl,ve⟩,V⟩;have zS:o.cell? ⟨w.heap.size+1+1,6,none⟩=some (.slice c3 j c4):=(by rw[V.cell (by simpa using Q)];exact uy);have Dt:o.frozen? ⟨w.heap.size+1+1,6,none⟩=false:=(by rw[V.frozen (by simpa using Q)];exact ho);have Y:w.heap.size+1+1<o.heap.size:=cE V Q;have K:Below wr.heap.size wr o:=(lK wr).trans V;have BC:=K.size))
    all_goals(
     have af:=M.out.U K
     have qk:j3 B d w7 (.slice (some ⟨g,0,none⟩) (j+1) cap) (a_.take j++[e2]):=by
      have:=af.push (a:=eL) (u:=e2) (c:=q4) (M.out.st (aZ _) aB ve) q fB (Z.trans L.symm) (fun p H I=>by
       obtain⟨b6,cf,e,ag⟩:=vO.out p H I
       exact⟨b6,cf,e,ag.gf (fun _ _ _ _ ag A=>ag.gf A) (.g0 K)⟩) (by rw[L];exact cQ)
      rw[L]at this
      exact this
     rw[←ez.out]at qk
     have WL:B<=w7.heap.size:=by have:=q.size;simp at this;omega
     have Vz:=(f.out.U K).grown q (fun b A=>by have:=(M.out.lt b A).1;omega)
     have Vt:=(O.out.U K).gf (w':=w7) ⟨by have:=q.size;simp at this;omega,fun b A aq=>by
      rw[q.block b bu (fun e=>by have:=(M.out.lt b e.symm).1;have:=A.2;omega)]
      exact Ck o _ b aq⟩
     clear ha fX M f O vO y0 ez ly uy ho az ve cQ q fB af Z L
     go_wp2
     have Bj:qM w (bY k s N S n ca cs.length cc (some ⟨dJ,eH,none⟩) a_.length rc) (bY k s N S n c1 cs.length c2 (some ⟨g,0,none⟩) (j+1) cap) (w7.setCell ⟨w.heap.size+1+1,6,none⟩ (.slice (some ⟨g,0,none⟩) (j+1) cap)):=Vz.gj 6 (.slice (some ⟨g,0,none⟩) (j+1) cap)
     have zv:=Vt.gf ((fw.refl _ w7).set (r:=w.heap.size+1+1) (fun A=>by have:=A.1;have:w.heap.size+3<=w.heap.size+1+1:=this;omega) 6 (.slice (some ⟨g,0,none⟩) (j+1) cap))
     have aC:=qk.gf ((fw.refl _ w7).set (r:=w.heap.size+1+1) (fun(A:B<=w.heap.size+1+1)=>z) 6 (.slice (some ⟨g,0,none⟩) (j+1) cap))
     have PI:B<=(w7.setCell ⟨w.heap.size+1+1,6,none⟩ (.slice (some ⟨g,0,none⟩) (j+1) cap)).heap.size:=by simpa using WL
     exact⟨⟨j+1,_,cap,z,bM,Bj,zv,aC,PI⟩,by simp[RowKit.intOf];omega⟩)
   ·obtain rfl:j=a_.length:=z;rw[vG]at D;obtain⟨dI,gq,cw,dV⟩:=D.a_ aw;injection cw with ak aJ bv
    subst ak;subst bv;obtain⟨gC,c_,dL,fU,gE,gM,gT⟩:=eU m.o;obtain⟨ft,dS,eo,hj,jW,kb,ll⟩:=eU m.q;obtain⟨z0,cy,dv,z3,z4,z5,eP⟩:=gI m.q;have f:=G m;have hJ:=G (show aY (gR (w.heap.size+3)) (d+1) wr (bY k s N S n c1 cs.length c2 c3 a_.length c4) (.mk k s N S n cs a_)from⟨c1,c2,c3,c4,rfl,U.low fun b A=>A.1,dV.low (fun b (A:B<=b)=>(show w.heap.size+3<=b by omega)) fun _ _ _ J=>J.low fun b (A:B<=b)=>(show w.heap.size+3<=b by omega)⟩);have re:=b1 m.q;clear m U D dV hn iO
    go_wp2;refine fL (aa2 (fn:=f365) rfl _ _ (w.heap.size+1) 44 _ (0,0) _ rfl (h3 f.out.q _ _ _ _ _ _ _) underlying44 rfl iJ) rfl ?_;exact⟨⟨_,rfl,(hJ.out.gf (QG (fw.refl _ wr) (by show ¬(w.heap.size+3<=w.heap.size+1);omega) _ _ _ _ _ _ _)).low fun b A=>by have:w.heap.size+3<=b:=A;show w.heap.size<=b;omega⟩,ib f.out.b z _ _ _ _ _ _ _⟩
theorem ar4:R_ (aY be 0) 0:=fun w F v h=>by
 obtain⟨k,s,N,S,n,cs,a_⟩:=v
 obtain⟨rfl,c⟩:=h
 refine(T8 0 k s N S n cs [] (fun ab=>absurd ab am) w F (aY.HC ⟨rfl,c⟩)).mono fun e w' ⟨⟨a,H,I⟩,A⟩=>⟨⟨a,H,?_⟩,A⟩
 obtain⟨ca,cc,ra,rc,e,b,_⟩:=I
 exact⟨rfl,ca,cc,ra,rc,e,b⟩
theorem JK:∀(d:Nat),R_ (aY be (d+1)) (d+1):=by
 intro d;induction d with
 |zero=>exact fun w F ⟨k,s,N,S,n,cs,a_⟩ h=>T8 0 k s N S n cs a_ (fun _ w a c l b=>aev (aY.mono be 0) ar4 w a c l b) w F h
 |succ d e=>exact fun w F ⟨k,s,N,S,n,cs,a_⟩ h=>T8 (d+1) k s N S n cs a_ (fun _ w a c l b=>aev (aY.mono be (d+1)) e w a c l b) w F h
def Ij(e:Ending):Prop:=∃r:Bool,e=.returned (.bool r)
def xw(c:Nat):Int:=if c<32∨126<c then 0 else if 48<=c/\c<=57 then 1 else if 65<=c/\c<=90 then 2 else if 97<=c/\c<=122 then 3 else if c=32 then 5 else 6
theorem arI(c:Nat)(a:c<256)(w:World):Calls prog 485 #[.int .u8 (c:Int)] w fun e w'=>e=.returned (.int .i64 (xw c))/\w'=w:=by
 go_enter func485,ntmps485
 go_wp2;all_goals(go_ret;refine⟨?_,rfl⟩;refine ih (fun x=>Ending.returned (Value.int .i64 x)) ?_;unfold xw;(repeat' split)<;>first|rfl|(exfalso;omega)|(exfalso;simp at*;omega))
def C_(c:Nat)(cl:Int):Bool:=if xw c=0 then false else decide (xw c=cl∨cl=7)
theorem arZ(k:Int)(cl:Int)(a:cl=1∨cl=2∨cl=7)(w:World):Calls prog 567 #[.int .i64 k,.int .i64 cl] w fun e w'=>e=.returned (.bool (decide (k=cl∨cl=7)))/\w'=w:=by
 by_cases h:k=cl
 ·subst h;go_enter func567,ntmps567
  go_wp2;go_ret;exact⟨am,rfl⟩
 ·have e:(k==cl)=false:=by simpa using h
  rcases a with rfl|rfl|rfl
  ·exact aj3
  ·exact aj3
  ·go_enter func567,ntmps567
   go_wp2;go_ret;exact⟨am,rfl⟩
theorem adN(c:Nat)(f:c<256)(cl:Int)(d:cl=1∨cl=2∨cl=7)(w:World):Calls prog 479 #[.int .u8 (c:Int),.int .i64 cl] w fun e w'=>e=.returned (.bool (C_ c cl))/\w'=w:=by
 have b:=G (arI c f w);have i:=G fun k=>arZ k cl d w;have ab:0<=xw c:=by unfold xw;(repeat' split)<;>decide
 clear d;by_cases a:xw c=0
 ·have A:C_ c cl=false:=by simp[C_,a]
  rw[a]at b;rw[A];go_enter func479,ntmps479
  go_wp2_with (first
   |(go_at_call 485;(with_reducible refine(b.out).mono ?_);rintro e g ⟨rfl,rfl⟩))
  exact LD
 ·have A:C_ c cl=decide (xw c=cl∨cl=7):=by simp[C_,a]
  have H:0<xw c:=z;rw[A];generalize xw c=k at*;go_enter func479,ntmps479
  go_wp2_with (first
   |(go_at_call 485;(with_reducible refine(b.out).mono ?_);rintro e g ⟨rfl,rfl⟩)
   |(go_at_call 567;(with_reducible refine(i.out _).mono ?_);rintro e j ⟨rfl,rfl⟩))
  go_ret;exact⟨am,rfl⟩
theorem aqM(s:ByteArray)(f:s.size<=200)(w:World):Calls prog 353 #[.string s,.int .i64 7] w fun e w'=>Ij e/\w=w':=by
 have C:=G fun c a w=>adN c a 7 z w;go_enter func353,ntmps353
 go_wp2;go_loop [5] (fun i=>∃k:Nat,k<=s.size/\i=.int .i64 k) (fun i=>s.size-(RowKit.intOf i).toNat);case atStart=>exact⟨0,dq _,rfl⟩
 case round=>
  obtain⟨k,d,rfl⟩:=hrel;by_cases aq:k<s.size
  ·have b:(k:Int)<s.size:=z;have l:(k:Int)<=200:=z;have a:=s[k].toNat_lt
   go_wp2_with (go_at_call 479;refine(C.out _ a _).mono ?_;rintro e g ⟨rfl,rfl⟩;generalize C_ _ _=j);all_goals first
    |(
     go_round
     case rel=>exact⟨k+1,z,bM⟩
     case measure=>simp[RowKit.intOf];omega)
    |(go_ret;exact⟨⟨_,rfl⟩,rfl⟩)
  ·have b:¬(k:Int)<s.size:=z
   go_wp2;go_ret;exact⟨⟨_,rfl⟩,rfl⟩
theorem aic(s:ByteArray)(a:s.size<=200)(w:World):Calls prog 270 #[.string s] w fun e w'=>Ij e/\w=w':=by
 have C:=G (aqM s a w);have d:(s.size:Int)<=200:=z;go_enter func270,ntmps270
 go_wp2_with (go_at_call 353;refine(C.out).mono ?_;rintro e b ⟨⟨c,rfl⟩,rfl⟩);go_ret;exact⟨⟨_,rfl⟩,rfl⟩
def rP(w:World)(a:Option Addr)(cl:Int):Prop:=∃b o arr bg,a=some ⟨b,o,none⟩/\w.heap[b]? =some (.cells arr 403 bg)/\arr[o]? =some (.int .i64 cl)/\arr[o+1]? =some (.int .i64 1)/\arr[o+2]? =some (.int .i64 200)/\arr[o+3]? =some (.string ⟨#[]⟩)
theorem rP.U{w w':World}{a:Option Addr}{cl:Int}(h:rP w a cl)(A:Below w.heap.size w w'):rP w' a cl:=by
 obtain⟨b,o,arr,bg,e,c,h⟩:=h;exact⟨b,o,arr,bg,e,(A.block _ (hl.1 c).1).trans c,h⟩
theorem rP.cells{w:World}{a:Option Addr}{cl:Int}(h:rP w a cl):∃b o,a=some ⟨b,o,none⟩/\b<w.heap.size/\w.cell? ⟨b,o,none⟩=some (.int .i64 cl)/\w.cell? ⟨b,o+1,none⟩=some (.int .i64 1)/\w.cell? ⟨b,o+2,none⟩=some (.int .i64 200)/\w.cell? ⟨b,o+3,none⟩=some (.string ⟨#[]⟩):=by
 obtain⟨b,o,arr,bg,e,c,ab,H,I,d⟩:=h;exact⟨b,o,e,(hl.1 c).1,by simp[World.cell?,c,ab],by simp[World.cell?,c,H],by simp[World.cell?,c,I],by simp[World.cell?,c,d]⟩
def nK(w:World)(b n:Nat):Prop:=b<w.heap.size/\(∀i,i<n->∃x,w.cell? ⟨b,i,none⟩=some (.bool x))/\∀i,w.frozen? ⟨b,i,none⟩=false
theorem nK.U{w w':World}{b n:Nat}(h:nK w b n)(A:Below w.heap.size w w'):nK w' b n:=
 ⟨cE A h.1,fun i hi=>by obtain⟨x,e⟩:=h.2.1 i hi;exact⟨x,(A.cell h.1).trans e⟩,fun i=>(A.frozen h.1).trans (h.2.2 i)⟩
theorem nK.set{w:World}{b n:Nat}(h:nK w b n)(j:Nat)(f:j<n)(x:Bool):nK (w.setCell ⟨b,j,none⟩ (.bool x)) b n:=by
 refine⟨by simpa using h.1,fun i hi=>?_,fun i=>by simpa using h.2.2 i⟩;by_cases e:i=j
 ·subst e;obtain⟨y,c⟩:=h.2.1 i hi;exact⟨x,ans _ _ _ c⟩
 ·rw[anr _ _ _ _ (fun a=>e (by injection a with _ d;exact d.symm))];exact h.2.1 i hi
theorem nK.aBZ{w:World}{b n:Nat}(h:nK w b n)(c j:Nat)(a:c≠b)(u:Value):nK (w.setCell ⟨c,j,none⟩ u) b n:=by
 refine⟨by simpa using h.1,fun i hi=>?_,fun i=>by simpa using h.2.2 i⟩;rw[tp _ _ _ _ a];exact h.2.1 i hi
theorem nK.eI(w:World)(n:Nat):nK (w.alloc (.cells (Array.replicate n (.bool false)) 4)) w.heap.size n:=
 ⟨am,fun i hi=>⟨false,lb (da w _) (by simp[hi])⟩,fun i=>cB (da w _)⟩
theorem axc:(prog.info? 4).map (fun i=>(i.zero,i.size,i.bytes))=some (some (.bool false),1,1):=au
theorem ayO(n:Nat)(H:1<=n)(h:n<=300)(w:World):(Instr.makeSlice 94 (.int .i64 (n:Int)) (.int .i64 (n:Int))).run prog w=.ok (.slice (some ⟨w.heap.size,0,none⟩) n n) (w.alloc (.cells (Array.replicate n (.bool false)) 4)):=by
 obtain⟨i,hi,c,b,A⟩:=jt axc;have g:IntKind.i64.wrap (n:Int)=n:=oQ _ ⟨z,z⟩;have ah:prog.underlying 94=some (.slice 4):=underlying94;have d:¬(n:Int)<0:=z;have f:¬(281474976710656<(n:Int)):=z;simp[Instr.makeSlice,aa4 ah,typeInfo,hi,A,b,c,g,d,f,asInt,asIntOf,zeroValue,sizeOf];rw[bn z];have e:(Array.map (fun x=>(Value.bool false).cells[x%(Value.bool false).cells.size]!) (Array.range n))=Array.replicate n (Value.bool false):=by
  apply Array.ext
  ·simp
  ·intro j H I;have a:(Value.bool false).cells=#[Value.bool false]:=rfl;simp[a,Nat.mod_one]
 rw[e];simp[newRow]
def S4(e:Ending):Prop:=∃s:ByteArray,e=.returned (.string s)/\j5 s
structure E7 (w:World) (b:Nat) (l:List UInt8):Prop where
 c:∀i (hi:i<l.length),w.cell? ⟨b,i,none⟩=some (.int .u8 (l[i].toNat:Int))
 f:∀i,i<l.length->w.frozen? ⟨b,i,none⟩=false
theorem E7.set{w:World}{b:Nat}{l:List UInt8}(h:E7 w b l)(k:Nat)(a:k<l.length)(x:UInt8):E7 (w.setCell ⟨b,k,none⟩ (.int .u8 (x.toNat:Int))) b (l.set k x):=by
 refine⟨fun i hi=>?_,fun i hi=>by simpa using h.f i (by simpa using hi)⟩;have d:i<l.length:=by simpa using hi
 by_cases e:k=i
 ·subst e;rw[ans _ _ _ (h.c k a)];simp
 ·rw[anr _ _ _ _ (fun c=>e (by injection c)),h.c i d];simp[List.getElem_set_ne e]
def qW(l:List UInt8):Prop:=∀c∈l,32<=c.toNat/\c.toNat<=126
theorem qW.g0{s:ByteArray}(h:j5 s):qW s.data.toList:=fun c a=>by
 obtain⟨k,b,e⟩:=Cr.1 a
 have f:k<s.size:=by simpa using b
 have:=h.2 k f
 have d:s[k]=c:=by rw[←e];rfl
 rw[d]at this
 omega
theorem qW.Ai{l:List UInt8}(h:qW l)(c:l.length<=200):j5 ⟨l.toArray⟩:=⟨by simpa[ByteArray.size]using c,fun k a=>by
 have b:k<l.length:=by simpa[ByteArray.size]using a
 have:=h l[k] (fM b)
 show 32<=((l.toArray[k]'(by simpa using b)).toNat:Int)/\_
 have e:(⟨l.toArray⟩:ByteArray)[k]'a=l[k]:=by show l.toArray[k]'_=_;simp
 simp only[anH]
 rw[e]
 omega⟩
theorem qW.set{l:List UInt8}(h:qW l)(k:Nat)(x:UInt8)(b:32<=x.toNat/\x.toNat<=126):qW (l.set k x):=fun c a=>by
 rcases List.mem_or_eq_of_mem_set a with H|rfl
 ·exact h c H
 ·exact b
theorem ari(s:ByteArray)(w:World)(a:Nat):E7 (w.drew.alloc (.cells (bytesRow s a) 5 ((bytesRow s a).size,(bytesRow s a).size+1))) w.heap.size s.data.toList:=by
 have c:(w.drew.alloc (.cells (bytesRow s a) 5 ((bytesRow s a).size,(bytesRow s a).size+1))).heap[w.heap.size]? =some (.cells (bytesRow s a) 5 ((bytesRow s a).size,(bytesRow s a).size+1)):=p1 w.drew _;have d:s.size<=(bytesRow s a).size:=by unfold bytesRow;rw[Array.size_append,Array.size_map];exact RS _ _
 refine⟨fun i hi=>?_,fun i hi=>?_⟩
 ·have b:i<s.data.size:=by simpa using hi
  simp only[World.cell?,c];rw[bytesRow,anm (by simpa using b)];simp only[Array.getElem?_map,ann b,ob];simp
 ·have b:i<s.size:=by simpa using hi
  simp only[World.frozen?,c];simp;omega
theorem aEJ(s:ByteArray)(g:j5 s)(w:World):Calls prog 489 #[.string s] w fun e w'=>S4 e/\Below w.heap.size w w':=by
 have M:(s.size:Int)<=200:=by have:=g.1;omega
 have E:=run_bytes_of_string (P:=prog) w 9 230 5 s underlying9 underlying230 underlying5;have a:=G (qW.g0 g);have D:s.data.toList.length=s.size:=ji;have o:Below w.heap.size w ((w.alloc (.cells (bytesRow s (grownCap w s.size 0 5)) 5 ((bytesRow s (grownCap w s.size 0 5)).size,(bytesRow s (grownCap w s.size 0 5)).size+1))).drew):=(fH w _).drew;have t:E7 ((w.alloc (.cells (bytesRow s (grownCap w s.size 0 5)) 5 ((bytesRow s (grownCap w s.size 0 5)).size,(bytesRow s (grownCap w s.size 0 5)).size+1))).drew) w.heap.size s.data.toList:=ari s w _;have u:w.heap.size<((w.alloc (.cells (bytesRow s (grownCap w s.size 0 5)) 5 ((bytesRow s (grownCap w s.size 0 5)).size,(bytesRow s (grownCap w s.size 0 5)).size+1))).drew).heap.size:=am;have r:=G t;have A:=G o;clear t o;go_enter func489,ntmps489
 go_wp2;clear E;generalize ((w.alloc (.cells (bytesRow s (grownCap w s.size 0 5)) 5 ((bytesRow s (grownCap w s.size 0 5)).size,(bytesRow s (grownCap w s.size 0 5)).size+1))).drew)=R at*;generalize grownCap w s.size 0 5=I at*;go_loopw [4] (fun i wr=>∃(k:Nat) (l:List UInt8),k<=s.size/\i=.int .i64 k/\l.length=s.size/\qW l/\E7 wr w.heap.size l/\Below w.heap.size w wr/\w.heap.size<wr.heap.size) (fun i _=>s.size-(RowKit.intOf i).toNat);case atStart=>exact⟨0,s.data.toList,dq _,rfl,D,a.out,r.out,A.out,u⟩
 case round=>
  clear r A a u g;obtain⟨k,l,L,rfl,O,a,b,d,ax⟩:=hrel;by_cases aq:k<s.size
  ·have V:(0:Int)<=(k:Int):=z;have F:(k:Int)<s.size:=z;have f:k<l.length:=z;have br:=b.c k f;have J:=b.f k f;have ez:=G a;have ij:=G b;have cS:=G d;obtain⟨U,S⟩:=a l[k] (fM f);by_cases K:97<=l[k].toNat/\l[k].toNat<=122
   ·have x:(97:Int)<=(l[k].toNat:Int):=z;have H:(l[k].toNat:Int)<=122:=z;have N:UInt8.size=256:=rfl;have T:IntKind.u8.wrap ((l[k].toNat:Int)-32)=(((UInt8.ofNat (l[k].toNat-32)).toNat:Nat):Int):=by rw[aaP (z:l[k].toNat-32<UInt8.size),show(l[k].toNat:Int)-32=((l[k].toNat-32:Nat):Int) by omega,Mu,ry z]
    have n:=G (b.set k f (UInt8.ofNat (l[k].toNat-32)));have q:=G (a.set k (UInt8.ofNat (l[k].toNat-32)) (by rw[aaP (z:l[k].toNat-32<UInt8.size)];omega));have m:=G (d.setCell (p:=⟨w.heap.size,k,none⟩) (aZ _) (.int .u8 ((UInt8.ofNat (l[k].toNat-32)).toNat:Int)));generalize Q:((UInt8.ofNat (l[k].toNat-32)).toNat:Int)=y at*;clear a b d
    go_wp2;go_roundw;case rel=>first|exact⟨k+1,_,z,bM,by simpa using O,q.out,n.out,m.out,by simpa using ax⟩|((repeat apply Exists.intro);refine⟨?_,rfl⟩;exact⟨k+1,_,z,bM,by simpa using O,q.out,n.out,m.out,by simpa using ax⟩)
    case measure=>simp[RowKit.intOf];omega
   ·clear a b d J;generalize l[k]=c at*;by_cases W:97<=c.toNat
    ·have x:(97:Int)<=(c.toNat:Int):=z;have H:¬(c.toNat:Int)<=122:=z;exact ajv
    ·have x:¬(97:Int)<=(c.toNat:Int):=z;exact ajv
  ·have F:¬(k:Int)<s.size:=z;have C:=run_convert_bytes_back (P:=prog) wr 230 9 5 ⟨w.heap.size,0,none⟩ I l underlying230 underlying5 underlying9 (fun j B=>by rw[Aq,gm];exact b.c j B);rw[O]at C;have ez:=G (a.Ai (by rw[O];omega));clear a b
   go_wp2;go_ret;exact⟨⟨_,rfl,ez.out⟩,d⟩
end Go.b3
namespace Go.aI
open Go Go.Proofs.Tryz Go.Proofs Go.RowKit Go.Lib
structure gQ (W:World) (b:Nat) (x y ae:Value):Prop where
 h:W.heap[b]? =some (.cells #[x,y,ae] 244 (0,0))
theorem gQ.lt{W:World}{b:Nat}{x y ae:Value}(h:gQ W b x y ae):b<W.heap.size:=(hl.1 h.h).1
theorem gQ.U{W W':World}{b:Nat}{x y ae:Value}(h:gQ W b x y ae)(A:Below W.heap.size W W'):gQ W' b x y ae:=⟨(A.block b h.lt).trans h.h⟩
theorem gQ.alloc{W:World}{b:Nat}{x y ae:Value}(h:gQ W b x y ae)(o:Obj):gQ (W.alloc o) b x y ae:=h.U ((bi _ _).alloc (aZ _) o)
theorem gQ.drew{W:World}{b:Nat}{x y ae:Value}(h:gQ W b x y ae):gQ W.drew b x y ae:=h.U ((bi _ _).drew)
theorem gQ.eI(W:World)(x y ae:Value):gQ (W.alloc (.cells #[x,y,ae] 244 (0,0))) W.heap.size x y ae:=⟨da W _⟩
theorem gQ.br{W:World}{b:Nat}{x y ae:Value}(h:gQ W b x y ae):W.cell? ⟨b,0,none⟩=some x:=aS 0 h.h
theorem gQ.c1{W:World}{b:Nat}{x y ae:Value}(h:gQ W b x y ae):W.cell? ⟨b,1,none⟩=some y:=aS 1 h.h
theorem gQ.c2{W:World}{b:Nat}{x y ae:Value}(h:gQ W b x y ae):W.cell? ⟨b,2,none⟩=some ae:=aS 2 h.h
theorem gQ.ae{W:World}{b i:Nat}{x y ae:Value}(h:gQ W b x y ae):W.frozen? ⟨b,i,none⟩=false:=cB h.h
structure xo (w W:World) (bN bF co:Nat) (dy dk cy cW dB dv dj cN z3:Value):Prop where
 p:gQ W bN dy dk cy
 q:gQ W bF cW dB dv
 r:gQ W co dj cN z3
 h:Below w.heap.size w W
 g:w.heap.size<=bN/\bN<bF/\bF<co/\co<W.heap.size
theorem Ms(w:World)(c b a d e f i g z3:Value):xo w (((w.alloc (.cells #[c,b,a] 244 (0,0))).alloc (.cells #[d,e,f] 244 (0,0))).alloc (.cells #[i,g,z3] 244 (0,0))) w.heap.size (w.heap.size+1) (w.heap.size+1+1) c b a d e f i g z3:=by
 have j:=jC w (.cells #[c,b,a] 244 (0,0));have k:=jC (w.alloc (.cells #[c,b,a] 244 (0,0))) (.cells #[d,e,f] 244 (0,0));have l:=jC ((w.alloc (.cells #[c,b,a] 244 (0,0))).alloc (.cells #[d,e,f] 244 (0,0))) (.cells #[i,g,z3] 244 (0,0));refine⟨((gQ.eI w c b a).alloc _).alloc _,?_,?_,(((bi _ w).alloc (aZ _) _).alloc z _).alloc z _,z⟩
 ·have:=(gQ.eI (w.alloc (.cells #[c,b,a] 244 (0,0))) d e f).alloc (.cells #[i,g,z3] 244 (0,0));rw[j]at this;exact this
 ·have:=gQ.eI ((w.alloc (.cells #[c,b,a] 244 (0,0))).alloc (.cells #[d,e,f] 244 (0,0))) i g z3;rw[k,j]at this;exact this
theorem xo.U{w W W':World}{b a co:Nat}{k i e d f j g c z3:Value}(T:xo w W b a co k i e d f j g c z3)(h:Below W.heap.size W W'):xo w W' b a co k i e d f j g c z3:=
 ⟨T.p.U h,T.q.U h,T.r.U h,b_ T.h h,T.g.1,T.g.2.1,T.g.2.2.1,cE h T.g.2.2.2⟩
theorem xo.alloc{w W:World}{b a co:Nat}{j h e d f i g c z3:Value}(T:xo w W b a co j h e d f i g c z3)(o:Obj):xo w (W.alloc o) b a co j h e d f i g c z3:=T.U ((bi _ _).alloc (aZ _) o)
theorem xo.drew{w W:World}{b a co:Nat}{j h e d f i g c z3:Value}(T:xo w W b a co j h e d f i g c z3):xo w W.drew b a co j h e d f i g c z3:=T.U ((bi _ _).drew)
theorem X_(p:Bool)(a b:ByteArray)(m n s u M:Nat)(w:World)(F:dm a m)(A:dm b n)(Y:m<=1000000000000000)(aw:n<=1000000000000000)(fp:M=max s u)(V:M<=3)(aD j:Nat)(K:aD=m*10^(M-s))(R:j=n*10^(M-u))(mg:aD<=1000000000000000000)(mh:j<=1000000000000000000):Calls prog 577 #[.agg #[.bool p,.string a,.int .i64 s],.agg #[.bool p,.string b,.int .i64 u]] w fun e w'=>mX p (aD+j) M e/\Below w.heap.size w w':=by
 have xZ:max (s:Int) (u:Int)=M:=z;have N:Hid (∀w,Calls prog 617 #[.agg #[.bool p,.string a,.int .i64 s],.int .i64 M] w fun e w'=>mX p aD M e/\Below w.heap.size w w'):=fun w=>by rw[K];exact yB p a m s M w F Y z V
 have L:Hid (∀w,Calls prog 617 #[.agg #[.bool p,.string b,.int .i64 u],.int .i64 M] w fun e w'=>mX p j M e/\Below w.heap.size w w'):=fun w=>by rw[R];exact yB p b n u M w A aw z V
 have T:=G (Ms w (.bool p) (.string a) (.int .i64 s) (.bool p) (.string b) (.int .i64 u) (.bool false) (.string ⟨#[]⟩) (.int .i64 0));clear F A K R fp;go_enter func577,ntmps577
 go_wp2_with (first
  |(have _:=U;go_at_call 617;(with_reducible refine(L.out _).mono ?_);rintro e k ⟨⟨f,rfl,ga⟩,B⟩;have g:=Q.U B;have tJ:=G ((c.out.alloc _).U B);have fV:=g.br;have b6:=g.c1;have cf:=g.c2;have hp:=g.lt;have o:=G (g.alloc (.cells #[.bool p,.string f,.int .i64 M] 244 (0,0)));have P:=G (gQ.eI k (.bool p) (.string f) (.int .i64 M));have S:=G (tJ.out.alloc (.cells #[.bool p,.string f,.int .i64 M] 244 (0,0))))
  |(go_at_call 617;(with_reducible refine(N.out _).mono ?_);rintro e l ⟨⟨D,rfl,U⟩,H⟩;have c:=G (T.out.U H);have Q:=gQ.eI l (.bool p) (.string D) (.int .i64 M);have b2:=c.out.q.lt;have cL:=c.out.p.lt;have eg:=c.out.q.br;have ak:=c.out.q.c1;have X:=c.out.q.c2;have bv:=c.out.p.c2))
 have h6:=G fun w=>C6 D f aD j w U ga z z;generalize k.alloc (.cells #[.bool p,.string f,.int .i64 M] 244 (0,0))=bz at*;have iR:=G o.out.drew;have Z:=G P.out.drew;have I:=G S.out.drew;have b5:Hid (l.heap.size<k.heap.size):=hp;have E:Hid (w.heap.size+1+1<l.heap.size):=c.out.r.lt;generalize l.heap.size=q at*;generalize k.heap.size=O at*;obtain⟨co,y⟩:∃co,Hid (co=w.heap.size+1+1):=⟨_,rfl⟩;rw[←y.out]at S I E;rw[←y.out];have br:=o.out.br;have c1:=o.out.c1;have c2:=o.out.c2;have et:=P.out.c1;clear Q g fV b6 cf eg ak X bv b2 cL hp N L H B
 go_region_held3 (fun W=>W.cell? ⟨q,0,none⟩=some (.bool p)/\W.cell? ⟨q,1,none⟩=some (.string D)/\W.cell? ⟨q,2,none⟩=some (.int .i64 M)/\W.cell? ⟨O,1,none⟩=some (.string f)) (first|exact⟨br,c1,c2,et⟩|exact⟨fg,ce,eb,eV⟩|go_keep) (first|(go_at_call 41;(with_reducible refine(h6.out _).mono ?_);rintro e bh ⟨⟨t,rfl,ah⟩,C⟩;have d:=G (I.out.U C);have r:=iR.out.U C;have J:=Z.out.U C;have fg:=r.br;have ce:=r.c1;have eb:=r.c2;have eV:=J.c1;have fu:=d.out.r.br;have b':=d.out.r.c1;have dt:=d.out.r.c2;have z0:=d.out.r.ae (i:=0);have cy:=d.out.r.ae (i:=1);have dv:=d.out.r.ae (i:=2);have cz:co≠q:=p3 E.out;have gs:co≠O:=(by have:=E.out;have:=b5.out;have:=J.lt;have:=r.lt;omega)))
 go_wp2;refine fL (v:=.agg #[.bool p,.string t,.int .i64 M]) (by simp[results,results577,go_sem,fu,b',dt]) rfl ?_;have x:w.heap.size<=co:=by have:=y.out;omega
 exact⟨⟨t,rfl,ah⟩,((d.out.h.setCell (p:=⟨co,0,none⟩) x _).setCell (p:=⟨co,1,none⟩) x _).setCell (p:=⟨co,2,none⟩) x _⟩
theorem alE{aD a:Nat}{e:Ending}(h:CY aD a e)(b:aD<a):e=.returned (.int .i64 (-1)):=by
 unfold CY xx at h;simpa[b]using h
theorem alD{aD a:Nat}{e:Ending}(h:CY aD a e)(b:a<=aD):∃c:Int,e=.returned (.int .i64 c)/\0<=c/\c<=1:=by
 unfold CY xx at h;refine⟨_,h,?_⟩;have:¬aD<a:=z;rw[bn this];split<;>omega
theorem ah_{t:ByteArray}{n:Nat}(h:dm t n)(b:Bool)(A:decide (0<n)=b):decide (0<t.size)=b:=by
 rw[←A,RY];have:=h.zero;omega
theorem GX{t:ByteArray}{n:Nat}(h:dm t n)(a:0<n):0<t.size:=by
 have:¬t.size=0:=fun e=>by have:=h.zero.1 e;omega
 omega
theorem ak'(a b:ByteArray)(m n s u M:Nat)(w:World)(O:dm a m)(A:dm b n)(Q:m<=1000000000000000)(R:n<=1000000000000000)(fp:M=max s u)(K:M<=3)(aD o:Nat)(S:aD=m*10^(M-s))(X:o=n*10^(M-u))(mg:aD<=1000000000000000000)(mh:o<=1000000000000000000)(aq:aD<o):Calls prog 577 #[.agg #[.bool true,.string a,.int .i64 s],.agg #[.bool false,.string b,.int .i64 u]] w fun e w'=>mX false (o-aD) M e/\Below w.heap.size w w':=by
 have xZ:max (s:Int) (u:Int)=M:=z;have V:Hid (∀w,Calls prog 617 #[.agg #[.bool true,.string a,.int .i64 s],.int .i64 M] w fun e w'=>mX true aD M e/\Below w.heap.size w w'):=fun w=>by rw[S];exact yB true a m s M w O Q z K
 have U:Hid (∀w,Calls prog 617 #[.agg #[.bool false,.string b,.int .i64 u],.int .i64 M] w fun e w'=>mX false o M e/\Below w.heap.size w w'):=fun w=>by rw[X];exact yB false b n u M w A R z K
 have T:=G (Ms w (.bool true) (.string a) (.int .i64 s) (.bool false) (.string b) (.int .i64 u) (.bool false) (.string ⟨#[]⟩) (.int .i64 0));have N:Hid (aD<256^16/\o<256^16):=⟨oH (Cu mg) ai,oH (Cu mh) ai⟩;have H:=G aq;clear O A S X fp aq Q R mg mh K;go_enter func577,ntmps577
 go_wp2_with (first
  |(have _:=br;go_at_call 619;(with_reducible refine(Rb r C o aD _ Y J N.out.2 (Ct H.out)).mono ?_);rintro e f ⟨⟨t,rfl,ah⟩,g⟩;have lE:f.cell? ⟨c,0,none⟩=some (.bool false):=((g.cell bu).trans (by simp[go_sem, *]));have hg:f.cell? ⟨c,2,none⟩=some (.int .i64 M):=((g.cell bu).trans (by simp[go_sem, *]));have fu:f.cell? ⟨co,0,none⟩=some (.bool false):=((g.cell bu).trans (by simp[go_sem, *]));have b':f.cell? ⟨co,1,none⟩=some (.string ⟨#[]⟩):=((g.cell bu).trans (by simp[go_sem, *]));have dt:f.cell? ⟨co,2,none⟩=some (.int .i64 0):=((g.cell bu).trans (by simp[go_sem, *]));have z0:f.frozen? ⟨co,0,none⟩=false:=((g.frozen bu).trans (by simp[go_sem, *]));have cy:f.frozen? ⟨co,1,none⟩=false:=((g.frozen bu).trans (by simp[go_sem, *]));have dv:f.frozen? ⟨co,2,none⟩=false:=((g.frozen bu).trans (by simp[go_sem, *]));have L:w.heap.size<=c:=(by have:=bR.out;omega);have I:w.heap.size<=j:=z;have hT:Hid (Below w.heap.size w f):=((((((((d.out.h.setCell (p:=⟨c,0,none⟩) L _).setCell (p:=⟨c,1,none⟩) L _).setCell (p:=⟨c,2,none⟩) L _).setCell (p:=⟨j,0,none⟩) I _).setCell (p:=⟨j,1,none⟩) I _).setCell (p:=⟨j,2,none⟩) I _).alloc bu _).trans (g.mono bu));have pN:0<(t.size:Int):=(by have:=GX ah (by have:=H.out;omega);omega))
  |(have _:=J;go_at_call 617;(with_reducible refine(U.out _).mono ?_);rintro e D ⟨⟨r,rfl,Y⟩,E⟩;have x:=W.U E;have tJ:=G ((k.out.alloc _).U E);have fV:=x.br;have b6:=x.c1;have cf:=x.c2;have hp:=x.lt;have q:=G (x.alloc (.cells #[.bool false,.string r,.int .i64 M] 244 (0,0)));have l:=G (gQ.eI D (.bool false) (.string r) (.int .i64 M));have d:=G (tJ.out.alloc (.cells #[.bool false,.string r,.int .i64 M] 244 (0,0)));have k1:Hid (∀w,Calls prog 618 #[.string C,.string r] w fun e w'=>e=.returned (.int .i64 (-1))/\w=w'):=(fun w=>(JG C r aD o w J Y N.out.1 N.out.2).mono fun e w' h=>⟨alE h.1 H.out,h.2⟩))
  |(go_at_call 617;(with_reducible refine(V.out _).mono ?_);rintro e y ⟨⟨C,rfl,J⟩,P⟩;have k:=G (T.out.U P);have W:=gQ.eI y (.bool true) (.string C) (.int .i64 M);have b2:=k.out.q.lt;have cL:=k.out.p.lt;have eg:=k.out.q.br;have ak:=k.out.q.c1;have aJ:=k.out.q.c2;have bv:=k.out.p.c2)
  |(go_at_call 618;(with_reducible refine(k1.out _).mono ?_);rintro e F ⟨rfl,wJ⟩;rw[wJ]at q l d;have pL:y.heap.size<D.heap.size:=hp;have Z:w.heap.size+1+1<y.heap.size:=k.out.r.lt;clear W x fV b6 cf eg ak aJ bv b2 cL hp V U P E wJ k tJ T;generalize y.heap.size=c at*;generalize D.heap.size=j at*;obtain⟨co,B⟩:∃co,co=w.heap.size+1+1:=⟨_,rfl⟩;have bR:Hid (w.heap.size<=co):=(by rw[B];show w.heap.size<=_;omega);rw[←B]at d Z;rw[←B];clear B;have br:=q.out.br;have c1:=q.out.c1;have c2:=q.out.c2;have hX:=l.out.br;have et:=l.out.c1;have fA:=l.out.c2;have v0:=d.out.r.br;have eJ:=d.out.r.c1;have eO:=d.out.r.c2;have el:=q.out.ae (i:=0);have dk:=q.out.ae (i:=1);have dB:=q.out.ae (i:=2);have u0:=l.out.ae (i:=0);have u1:=l.out.ae (i:=1);have u2:=l.out.ae (i:=2);have bX:=d.out.r.ae (i:=0);have cg:=d.out.r.ae (i:=1);have jq:=d.out.r.ae (i:=2);have cz:c≠j:=p3 pL;have gs:j≠c:=ht cz;have gt:co≠c:=p3 Z;have lL:c≠co:=ht gt;have n5:co≠j:=z;have sp:j≠co:=ht n5;have gh:c<F.heap.size:=q.out.lt;have ia:j<F.heap.size:=l.out.lt;have na:co<F.heap.size:=d.out.r.lt))
 exact ai5
theorem ak_(a b:ByteArray)(m n s u M:Nat)(w:World)(P:dm a m)(A:dm b n)(R:m<=1000000000000000)(S:n<=1000000000000000)(fp:M=max s u)(L:M<=3)(aD o:Nat)(U:aD=m*10^(M-s))(Y:o=n*10^(M-u))(mg:aD<=1000000000000000000)(mh:o<=1000000000000000000)(aq:aD<o):Calls prog 577 #[.agg #[.bool false,.string a,.int .i64 s],.agg #[.bool true,.string b,.int .i64 u]] w fun e w'=>mX true (o-aD) M e/\Below w.heap.size w w':=by
 have xZ:max (s:Int) (u:Int)=M:=z;have W:Hid (∀w,Calls prog 617 #[.agg #[.bool false,.string a,.int .i64 s],.int .i64 M] w fun e w'=>mX false aD M e/\Below w.heap.size w w'):=fun w=>by rw[U];exact yB false a m s M w P R z L
 have V:Hid (∀w,Calls prog 617 #[.agg #[.bool true,.string b,.int .i64 u],.int .i64 M] w fun e w'=>mX true o M e/\Below w.heap.size w w'):=fun w=>by rw[Y];exact yB true b n u M w A S z L
 have T:=G (Ms w (.bool false) (.string a) (.int .i64 s) (.bool true) (.string b) (.int .i64 u) (.bool false) (.string ⟨#[]⟩) (.int .i64 0));have O:Hid (aD<256^16/\o<256^16):=⟨oH (Cu mg) ai,oH (Cu mh) ai⟩;have E:=G aq;clear P A U Y fp aq R S mg mh L;go_enter func577,ntmps577
 go_wp2_with (first
  |(have _:=br;go_at_call 619;(with_reducible refine(Rb r D o aD _ Z K O.out.2 (Ct E.out)).mono ?_);rintro e f ⟨⟨t,rfl,ah⟩,g⟩;have lE:f.cell? ⟨c,0,none⟩=some (.bool true):=((g.cell bu).trans (by simp[go_sem, *]));have hg:f.cell? ⟨c,2,none⟩=some (.int .i64 M):=((g.cell bu).trans (by simp[go_sem, *]));have fu:f.cell? ⟨co,0,none⟩=some (.bool false):=((g.cell bu).trans (by simp[go_sem, *]));have b':f.cell? ⟨co,1,none⟩=some (.string ⟨#[]⟩):=((g.cell bu).trans (by simp[go_sem, *]));have dt:f.cell? ⟨co,2,none⟩=some (.int .i64 0):=((g.cell bu).trans (by simp[go_sem, *]));have z0:f.frozen? ⟨co,0,none⟩=false:=((g.frozen bu).trans (by simp[go_sem, *]));have cy:f.frozen? ⟨co,1,none⟩=false:=((g.frozen bu).trans (by simp[go_sem, *]));have dv:f.frozen? ⟨co,2,none⟩=false:=((g.frozen bu).trans (by simp[go_sem, *]));have N:w.heap.size<=c:=(by have:=B.out;omega);have J:w.heap.size<=j:=z;have hT:Hid (Below w.heap.size w f):=((((((((d.out.h.setCell (p:=⟨c,0,none⟩) N _).setCell (p:=⟨c,1,none⟩) N _).setCell (p:=⟨c,2,none⟩) N _).setCell (p:=⟨j,0,none⟩) J _).setCell (p:=⟨j,1,none⟩) J _).setCell (p:=⟨j,2,none⟩) J _).alloc bu _).trans (g.mono bu));have pN:0<(t.size:Int):=(by have:=GX ah (by have:=E.out;omega);omega))
  |(have _:=K;go_at_call 617;(with_reducible refine(V.out _).mono ?_);rintro e F ⟨⟨r,rfl,Z⟩,H⟩;have x:=X.U H;have tJ:=G ((k.out.alloc _).U H);have fV:=x.br;have b6:=x.c1;have cf:=x.c2;have hp:=x.lt;have q:=G (x.alloc (.cells #[.bool true,.string r,.int .i64 M] 244 (0,0)));have l:=G (gQ.eI F (.bool true) (.string r) (.int .i64 M));have d:=G (tJ.out.alloc (.cells #[.bool true,.string r,.int .i64 M] 244 (0,0)));have k1:Hid (∀w,Calls prog 618 #[.string D,.string r] w fun e w'=>e=.returned (.int .i64 (-1))/\w=w'):=(fun w=>(JG D r aD o w K Z O.out.1 O.out.2).mono fun e w' h=>⟨alE h.1 E.out,h.2⟩))
  |(go_at_call 617;(with_reducible refine(W.out _).mono ?_);rintro e y ⟨⟨D,rfl,K⟩,Q⟩;have k:=G (T.out.U Q);have X:=gQ.eI y (.bool false) (.string D) (.int .i64 M);have b2:=k.out.q.lt;have cL:=k.out.p.lt;have eg:=k.out.q.br;have ak:=k.out.q.c1;have aJ:=k.out.q.c2;have bv:=k.out.p.c2)
  |(go_at_call 618;(with_reducible refine(k1.out _).mono ?_);rintro e I ⟨rfl,wJ⟩;rw[wJ]at q l d;have pL:y.heap.size<F.heap.size:=hp;have jl:w.heap.size+1+1<y.heap.size:=k.out.r.lt;clear X x fV b6 cf eg ak aJ bv b2 cL hp W V Q H wJ k tJ T;generalize y.heap.size=c at*;generalize F.heap.size=j at*;obtain⟨co,C⟩:∃co,co=w.heap.size+1+1:=⟨_,rfl⟩;have B:Hid (w.heap.size<=co):=(by rw[C];show w.heap.size<=_;omega);rw[←C]at d jl;rw[←C];clear C;have br:=q.out.br;have c1:=q.out.c1;have c2:=q.out.c2;have hX:=l.out.br;have et:=l.out.c1;have fA:=l.out.c2;have v0:=d.out.r.br;have eJ:=d.out.r.c1;have eO:=d.out.r.c2;have el:=q.out.ae (i:=0);have dk:=q.out.ae (i:=1);have dB:=q.out.ae (i:=2);have u0:=l.out.ae (i:=0);have u1:=l.out.ae (i:=1);have u2:=l.out.ae (i:=2);have bX:=d.out.r.ae (i:=0);have cg:=d.out.r.ae (i:=1);have jq:=d.out.r.ae (i:=2);have cz:c≠j:=p3 pL;have gs:j≠c:=ht cz;have gt:co≠c:=p3 jl;have lL:c≠co:=ht gt;have n5:co≠j:=z;have sp:j≠co:=ht n5;have gh:c<I.heap.size:=q.out.lt;have ia:j<I.heap.size:=l.out.lt;have na:co<I.heap.size:=d.out.r.lt))
 refine fL (by simp[results,results577,go_sem,fu,b',dt];rfl) rfl ?_;exact⟨⟨t,by rw[ah_ ah true (by have:=E.out;simp;omega)],ah⟩,((hT.out.setCell (p:=⟨co,0,none⟩) B.out _).setCell (p:=⟨co,1,none⟩) B.out _).setCell (p:=⟨co,2,none⟩) B.out _⟩
theorem alb(a b:ByteArray)(m n s u M:Nat)(w:World)(N:dm a m)(A:dm b n)(P:m<=1000000000000000)(Q:n<=1000000000000000)(fp:M=max s u)(K:M<=3)(aD d:Nat)(R:aD=m*10^(M-s))(X:d=n*10^(M-u))(mg:aD<=1000000000000000000)(mh:d<=1000000000000000000)(aq:d<=aD):Calls prog 577 #[.agg #[.bool true,.string a,.int .i64 s],.agg #[.bool false,.string b,.int .i64 u]] w fun e w'=>mX (decide (d<aD)) (aD-d) M e/\Below w.heap.size w w':=by
 have xZ:max (s:Int) (u:Int)=M:=z;have U:Hid (∀w,Calls prog 617 #[.agg #[.bool true,.string a,.int .i64 s],.int .i64 M] w fun e w'=>mX true aD M e/\Below w.heap.size w w'):=fun w=>by rw[R];exact yB true a m s M w N P z K
 have S:Hid (∀w,Calls prog 617 #[.agg #[.bool false,.string b,.int .i64 u],.int .i64 M] w fun e w'=>mX false d M e/\Below w.heap.size w w'):=fun w=>by rw[X];exact yB false b n u M w A Q z K
 have T:=G (Ms w (.bool true) (.string a) (.int .i64 s) (.bool false) (.string b) (.int .i64 u) (.bool false) (.string ⟨#[]⟩) (.int .i64 0));have L:Hid (aD<256^16/\d<256^16):=⟨oH (Cu mg) ai,oH (Cu mh) ai⟩;have W:=G aq;clear N A R X fp aq P Q mg mh K;go_enter func577,ntmps577
 go_wp2_with (first
  |(have _:=br;go_at_call 619;(with_reducible refine(Rb E x aD d _ J Y L.out.1 W.out).mono ?_);rintro e g ⟨⟨t,rfl,ah⟩,j⟩;have lE:g.cell? ⟨q,0,none⟩=some (.bool true):=((j.cell z).trans (by assumption));have hg:g.cell? ⟨q,2,none⟩=some (.int .i64 M):=((j.cell z).trans (by assumption));have fu:g.cell? ⟨co,0,none⟩=some (.bool false):=((j.cell z).trans (by assumption));have b':g.cell? ⟨co,1,none⟩=some (.string ⟨#[]⟩):=((j.cell z).trans (by assumption));have dt:g.cell? ⟨co,2,none⟩=some (.int .i64 0):=((j.cell z).trans (by assumption));have z0:g.frozen? ⟨co,0,none⟩=false:=((j.frozen z).trans (by assumption));have cy:g.frozen? ⟨co,1,none⟩=false:=((j.frozen z).trans (by assumption));have dv:g.frozen? ⟨co,2,none⟩=false:=((j.frozen z).trans (by assumption));have lF:w.heap.size<=q:=(by have:=C.out;omega);have gB:w.heap.size<=r:=z;have hT:Hid (Below w.heap.size w g):=(b_ f.out.h j);have pN:True:=h5)
  |(have _:=J;go_at_call 617;(with_reducible refine(S.out _).mono ?_);rintro e F ⟨⟨x,rfl,Y⟩,H⟩;have y:=V.U H;have tJ:=G ((k.out.alloc _).U H);have fV:=y.br;have b6:=y.c1;have cf:=y.c2;have hp:=y.lt;have o:=G (y.alloc (.cells #[.bool false,.string x,.int .i64 M] 244 (0,0)));have l:=G (gQ.eI F (.bool false) (.string x) (.int .i64 M));have f:=G (tJ.out.alloc (.cells #[.bool false,.string x,.int .i64 M] 244 (0,0)));have k1:Hid (∀w,Calls prog 618 #[.string E,.string x] w fun e w'=>(∃c:Int,e=.returned (.int .i64 c)/\0<=c/\c<=1)/\w=w'):=(fun w=>(JG E x aD d w J Y L.out.1 L.out.2).mono fun e w' h=>⟨alD h.1 W.out,h.2⟩))
  |(go_at_call 617;(with_reducible refine(U.out _).mono ?_);rintro e B ⟨⟨E,rfl,J⟩,O⟩;have k:=G (T.out.U O);have V:=gQ.eI B (.bool true) (.string E) (.int .i64 M);have b2:=k.out.q.lt;have cL:=k.out.p.lt;have eg:=k.out.q.br;have ak:=k.out.q.c1;have aJ:=k.out.q.c2;have bv:=k.out.p.c2)
  |(go_at_call 618;(with_reducible refine(k1.out _).mono ?_);rintro e I ⟨⟨c,rfl,kK,jP⟩,wJ⟩;have nv:¬(c<0):=z;rw[wJ]at o l f;have pL:B.heap.size<F.heap.size:=hp;have Z:w.heap.size+1+1<B.heap.size:=k.out.r.lt;clear V y fV b6 cf eg ak aJ bv b2 cL hp U S O H wJ k tJ T;generalize B.heap.size=q at*;generalize F.heap.size=r at*;obtain⟨co,D⟩:∃co,co=w.heap.size+1+1:=⟨_,rfl⟩;have C:Hid (w.heap.size<=co):=(by rw[D];show w.heap.size<=_;omega);rw[←D]at f Z;rw[←D];clear D;have br:=o.out.br;have c1:=o.out.c1;have c2:=o.out.c2;have hX:=l.out.br;have et:=l.out.c1;have fA:=l.out.c2;have v0:=f.out.r.br;have eJ:=f.out.r.c1;have eO:=f.out.r.c2;have el:=o.out.ae (i:=0);have dk:=o.out.ae (i:=1);have dB:=o.out.ae (i:=2);have u0:=l.out.ae (i:=0);have u1:=l.out.ae (i:=1);have u2:=l.out.ae (i:=2);have bX:=f.out.r.ae (i:=0);have cg:=f.out.r.ae (i:=1);have jq:=f.out.r.ae (i:=2);have cz:q≠r:=p3 pL;have gs:r≠q:=ht cz;have gt:co≠q:=p3 Z;have lL:q≠co:=ht gt;have n5:co≠r:=z;have sp:r≠co:=ht n5;have gh:q<I.heap.size:=o.out.lt;have ia:r<I.heap.size:=l.out.lt;have na:co<I.heap.size:=f.out.r.lt))
 refine fL (by simp[results,results577,go_sem,fu,b',dt];rfl) rfl ?_;exact⟨⟨t,by rw[ah_ ah (decide (d<aD)) (by rw[RY];omega)],ah⟩,((hT.out.setCell (p:=⟨co,0,none⟩) C.out _).setCell (p:=⟨co,1,none⟩) C.out _).setCell (p:=⟨co,2,none⟩) C.out _⟩
theorem ala(a b:ByteArray)(m n s u M:Nat)(w:World)(L:dm a m)(A:dm b n)(O:m<=1000000000000000)(P:n<=1000000000000000)(fp:M=max s u)(J:M<=3)(aD l:Nat)(Q:aD=m*10^(M-s))(W:l=n*10^(M-u))(Z:aD<=1000000000000000000)(mh:l<=1000000000000000000)(aq:l<=aD):Calls prog 577 #[.agg #[.bool false,.string a,.int .i64 s],.agg #[.bool true,.string b,.int .i64 u]] w fun e w'=>mX false (aD-l) M e/\Below w.heap.size w w':=by
 have xZ:max (s:Int) (u:Int)=M:=z;have S:Hid (∀w,Calls prog 617 #[.agg #[.bool false,.string a,.int .i64 s],.int .i64 M] w fun e w'=>mX false aD M e/\Below w.heap.size w w'):=fun w=>by rw[Q];exact yB false a m s M w L O z J
 have R:Hid (∀w,Calls prog 617 #[.agg #[.bool true,.string b,.int .i64 u],.int .i64 M] w fun e w'=>mX true l M e/\Below w.heap.size w w'):=fun w=>by rw[W];exact yB true b n u M w A P z J
 have T:=G (Ms w (.bool false) (.string a) (.int .i64 s) (.bool true) (.string b) (.int .i64 u) (.bool false) (.string ⟨#[]⟩) (.int .i64 0));have K:Hid (aD<256^16/\l<256^16):=⟨oH (Cu Z) ai,oH (Cu mh) ai⟩;have V:=G aq;clear L A Q W fp aq O P Z mh J;go_enter func577,ntmps577
 go_wp2_with (first
  |(have _:=br;go_at_call 619;(with_reducible refine(Rb D x aD l _ I X K.out.1 V.out).mono ?_);rintro e f ⟨⟨t,rfl,ah⟩,g⟩;have lE:f.cell? ⟨q,0,none⟩=some (.bool false):=((g.cell z).trans (by assumption));have hg:f.cell? ⟨q,2,none⟩=some (.int .i64 M):=((g.cell z).trans (by assumption));have fu:f.cell? ⟨co,0,none⟩=some (.bool false):=((g.cell z).trans (by assumption));have b':f.cell? ⟨co,1,none⟩=some (.string ⟨#[]⟩):=((g.cell z).trans (by assumption));have dt:f.cell? ⟨co,2,none⟩=some (.int .i64 0):=((g.cell z).trans (by assumption));have z0:f.frozen? ⟨co,0,none⟩=false:=((g.frozen z).trans (by assumption));have cy:f.frozen? ⟨co,1,none⟩=false:=((g.frozen z).trans (by assumption));have dv:f.frozen? ⟨co,2,none⟩=false:=((g.frozen z).trans (by assumption));have lF:w.heap.size<=q:=(by have:=bR.out;omega);have gB:w.heap.size<=r:=z;have hT:Hid (Below w.heap.size w f):=(b_ d.out.h g);have pN:True:=h5)
  |(have _:=I;go_at_call 617;(with_reducible refine(R.out _).mono ?_);rintro e E ⟨⟨x,rfl,X⟩,F⟩;have y:=U.U F;have tJ:=G ((j.out.alloc _).U F);have fV:=y.br;have b6:=y.c1;have cf:=y.c2;have hp:=y.lt;have o:=G (y.alloc (.cells #[.bool true,.string x,.int .i64 M] 244 (0,0)));have k:=G (gQ.eI E (.bool true) (.string x) (.int .i64 M));have d:=G (tJ.out.alloc (.cells #[.bool true,.string x,.int .i64 M] 244 (0,0)));have k1:Hid (∀w,Calls prog 618 #[.string D,.string x] w fun e w'=>(∃c:Int,e=.returned (.int .i64 c)/\0<=c/\c<=1)/\w=w'):=(fun w=>(JG D x aD l w I X K.out.1 K.out.2).mono fun e w' h=>⟨alD h.1 V.out,h.2⟩))
  |(go_at_call 617;(with_reducible refine(S.out _).mono ?_);rintro e B ⟨⟨D,rfl,I⟩,N⟩;have j:=G (T.out.U N);have U:=gQ.eI B (.bool false) (.string D) (.int .i64 M);have b2:=j.out.q.lt;have cL:=j.out.p.lt;have eg:=j.out.q.br;have ak:=j.out.q.c1;have aJ:=j.out.q.c2;have bv:=j.out.p.c2)
  |(go_at_call 618;(with_reducible refine(k1.out _).mono ?_);rintro e H ⟨⟨c,rfl,kK,jP⟩,wJ⟩;have nv:¬(c<0):=z;rw[wJ]at o k d;have pL:B.heap.size<E.heap.size:=hp;have Y:w.heap.size+1+1<B.heap.size:=j.out.r.lt;clear U y fV b6 cf eg ak aJ bv b2 cL hp S R N F wJ j tJ T;generalize B.heap.size=q at*;generalize E.heap.size=r at*;obtain⟨co,C⟩:∃co,co=w.heap.size+1+1:=⟨_,rfl⟩;have bR:Hid (w.heap.size<=co):=(by rw[C];show w.heap.size<=_;omega);rw[←C]at d Y;rw[←C];clear C;have br:=o.out.br;have c1:=o.out.c1;have c2:=o.out.c2;have hX:=k.out.br;have et:=k.out.c1;have fA:=k.out.c2;have v0:=d.out.r.br;have eJ:=d.out.r.c1;have eO:=d.out.r.c2;have el:=o.out.ae (i:=0);have dk:=o.out.ae (i:=1);have dB:=o.out.ae (i:=2);have u0:=k.out.ae (i:=0);have u1:=k.out.ae (i:=1);have u2:=k.out.ae (i:=2);have bX:=d.out.r.ae (i:=0);have cg:=d.out.r.ae (i:=1);have jq:=d.out.r.ae (i:=2);have cz:q≠r:=p3 pL;have gs:r≠q:=ht cz;have gt:co≠q:=p3 Y;have lL:q≠co:=ht gt;have n5:co≠r:=z;have sp:r≠co:=ht n5;have gh:q<H.heap.size:=o.out.lt;have ia:r<H.heap.size:=k.out.lt;have na:co<H.heap.size:=d.out.r.lt))
 exact ai5
def ac3(D:Int)(M:Nat)(e:Ending):Prop:=∃(neg:Bool) (n:Nat),mX neg n M e/\(n=0↔D=0)/\(n≠0->neg=decide (D<0))
def ej(p:Bool)(aD:Nat):Int:=if p=true then-(aD:Int)else aD
theorem aAA(p q:Bool)(a b:ByteArray)(m n s u M:Nat)(w:World)(j:dm a m)(A:dm b n)(d:m<=1000000000000000)(f:n<=1000000000000000)(k:M=max s u)(l:M<=3)(aD c:Nat)(g:aD=m*10^(M-s))(i:c=n*10^(M-u)):Calls prog 577 #[.agg #[.bool p,.string a,.int .i64 s],.agg #[.bool (!q),.string b,.int .i64 u]] w fun e w'=>ac3 (ej p aD-ej q c) M e/\Below w.heap.size w w':=by
 have x:10^(M-s)<=10^3:=ks z z;have t:10^(M-u)<=10^3:=ks z z;have o:aD<=1000000000000000000:=by rw[g];exact w3 d x
 have r:c<=1000000000000000000:=by rw[i];exact w3 f t
 cases p<;>cases q
 ·by_cases h:aD<c
  ·exact(ak_ a b m n s u M w j A d f k l aD c g i o r h).mono fun e w' ⟨H,I⟩=>⟨⟨_,_,H,by simp[ej];omega,fun _=>by simp[ej];omega⟩,I⟩
  ·exact(ala a b m n s u M w j A d f k l aD c g i o r z).mono fun e w' ⟨H,I⟩=>⟨⟨_,_,H,by simp[ej];omega,fun _=>by simp[ej];omega⟩,I⟩
 ·exact(X_ false a b m n s u M w j A d f k l aD c g i o r).mono fun e w' ⟨H,I⟩=>⟨⟨_,_,H,by simp[ej];omega,fun _=>by simp[ej];omega⟩,I⟩
 ·exact(X_ true a b m n s u M w j A d f k l aD c g i o r).mono fun e w' ⟨H,I⟩=>⟨⟨_,_,H,by simp[ej];omega,fun h=>by simp[ej];omega⟩,I⟩
 ·by_cases h:aD<c
  ·exact(ak' a b m n s u M w j A d f k l aD c g i o r h).mono fun e w' ⟨H,I⟩=>⟨⟨_,_,H,by simp[ej];omega,fun _=>by simp[ej];omega⟩,I⟩
  ·exact(alb a b m n s u M w j A d f k l aD c g i o r z).mono fun e w' ⟨H,I⟩=>⟨⟨_,_,H,by simp[ej];omega,fun y=>by rw[RY];simp[ej];omega⟩,I⟩
def B6(D:Int):Int:=if D=0 then 0 else if D<0 then-1 else 1
def CZ(n:Int)(e:Ending):Prop:=e=.returned (.int .i64 n)
theorem aB3{t:ByteArray}{n:Nat}{D:Int}(ah:dm t n)(a:n=0↔D=0)(h:((t.size:Int)==0)=true):B6 D=0:=by
 have h:(t.size:Int)=0:=by simpa using h
 have:=ah.zero.1 z;unfold B6;rw[cv (a.1 this)]
theorem al'{t:ByteArray}{n:Nat}{D:Int}(ah:dm t n)(a:n=0↔D=0)(h:((t.size:Int)==0)=false):n≠0/\D≠0:=by
 have h:¬(t.size:Int)=0:=by rw[l8]at h;exact h
 have I:n≠0:=fun e=>h (by have:=ah.zero.2 e;omega);exact⟨I,fun e=>I (a.2 e)⟩
theorem aB4{t:ByteArray}{n:Nat}{D:Int}{neg:Bool}(ah:dm t n)(c:n=0↔D=0)(h:((t.size:Int)==0)=false)(d:n≠0->neg=decide (D<0))(b:neg=true):B6 D= -1:=by
 obtain⟨H,I⟩:=al' ah c h;have a:=d H;rw[b]at a;have a:D<0:=by simpa using a.symm
 unfold B6;rw[bn I,cv a]
theorem aB5{t:ByteArray}{n:Nat}{D:Int}{neg:Bool}(ah:dm t n)(c:n=0↔D=0)(h:((t.size:Int)==0)=false)(d:n≠0->neg=decide (D<0))(b:neg=false):B6 D=1:=by
 obtain⟨H,I⟩:=al' ah c h;have a:=d H;rw[b]at a;have a:¬D<0:=by simpa using a.symm
 unfold B6;rw[bn I,bn a]
theorem ad_(b c:Int)(a d M:Nat)(w:World)(H:g1 b a)(I:g1 c d)(y:M=max a d)(z:M<=3)(D:Int)(x:D=ej (decide (b<0)) (b.natAbs*10^(M-a))-ej (decide (c<0)) (c.natAbs*10^(M-d))):Calls prog 507 #[.agg #[.int .i64 b,.int .i64 a],.agg #[.int .i64 c,.int .i64 d]] w fun e w'=>CZ (B6 D) e/\Below w.heap.size w w':=by
 have J:=G fun w=>wf b a w H;have F:=G fun w=>wf c d w I;have L:Hid (∀f g w,dm f b.natAbs->dm g c.natAbs->Calls prog 577 #[.agg #[.bool (decide (b<0)),.string f,.int .i64 a],.agg #[.bool (!(decide (c<0))),.string g,.int .i64 d]] w fun e w'=>ac3 D M e/\Below w.heap.size w w'):=fun f g w k j=>by rw[x];exact aAA _ _ f g _ _ a d M w k j (by have:=H.2.2;omega) (by have:=I.2.2;omega) y z _ _ rfl rfl
 have T:=G (kZ w (.cells #[.int .i64 b,.int .i64 a] 40 (0,0)) (.cells #[.int .i64 c,.int .i64 d] 40 (0,0)));clear H I y z x;generalize decide (b<0)=p at*;generalize decide (c<0)=q at*;go_enter func507,ntmps507
 go_wp2_with (first
  |(have _:=j;go_at_call 577;(with_reducible refine(L.out f g _ k j).mono ?_);rintro e u ⟨⟨neg,n,⟨t,rfl,ah⟩,o,A⟩,r⟩)
  |(have _:=k;go_at_call 187;(with_reducible refine(F.out _).mono ?_);rintro e N ⟨⟨g,rfl,j⟩,s⟩;have h:=K.U s;have cL:=h.lt;have fV:=h.br;have O:=h.c1;have P:=h.c2;have i:=G ((l.out.alloc l.out.size (.cells #[.bool p,.string f,.int .i64 a] 244 (0,0))).trans (s.mono (by have:=l.out.size;simp;omega))))
  |(go_at_call 187;(with_reducible refine(J.out _).mono ?_);rintro e E ⟨⟨f,rfl,k⟩,C⟩;have m:=T.out.U C;have l:=G m.h;have K:=gQ.eI E (.bool p) (.string f) (.int .i64 a);obtain⟨br,c1⟩:=jK m.q;have b2:=m.lt))
 all_goals
  have B:w.heap.size<=u.heap.size:=by have H:=r.size;rw[jC]at H;have:=i.out.size;omega
  have ii:Below w.heap.size w (u.alloc (.cells #[.bool neg,.string t,.int .i64 M] 244 (0,0))):=((i.out.alloc i.out.size _).trans (r.mono (by have:=i.out.size;simp;omega))).alloc B _;go_ret;first
   |exact⟨by unfold CZ;rw[aB3 ah o (by assumption)];rfl,ii⟩
   |exact⟨by unfold CZ;rw[aB4 ah o (by assumption) A (by assumption)];rfl,ii⟩
   |exact⟨by unfold CZ;rw[aB5 ah o (by assumption) A (by assumption)];rfl,ii⟩
end Go.aI
