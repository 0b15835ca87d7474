/- ConflictAuthors. -/
import Derived.Test.YtfgcglgpfgifkaaGreatDoorP15
set_option linter.all false
set_option maxRecDepth 100000
set_option maxHeartbeats 16000000
namespace Go.bj.N
open Go Go.Proofs Go.RowKit Go.c0
theorem adR(b:Nat):∀(vs:List Value) (o:Nat) (w:World) (arr:Array Value) (t:Nat) (fr:Nat×Nat),w.heap[b]? =some (Obj.cells arr t fr)->∃a,(w.setCells b o vs).heap[b]? =some (Obj.cells a t fr)/\a.size=arr.size
 |[],_,w,arr,t,fr,h=>⟨arr,h,rfl⟩
 |v::r,o,w,arr,t,fr,h=>by
  obtain⟨a,H,I⟩:=adR b r (o+1) (w.setCell ⟨b,o,none⟩ v) _ t fr (hS h v)
  exact⟨a,H,by rw[I];simp⟩
theorem amf(b:Nat):∀(vs:List Value) (o:Nat) (w:World),(w.setCells b o vs).heap.size=w.heap.size
 |[],_,_=>rfl
 |v::r,o,w=>by
  show((w.setCell ⟨b,o,none⟩ v).setCells b (o+1) r).heap.size=_
  rw[amf b r];simp
theorem adP{B b:Nat}(A:B<=b):∀(vs:List Value) (o:Nat) {a w:World},Below B a w->Below B a (w.setCells b o vs)
 |[],_,_,_,h=>h
 |v::r,o,a,w,h=>adP A r (o+1) (h.setCell (p:=⟨b,o,none⟩) A v)
def nf(arr:Array Value)(n qA:Nat):List Value:=(arr.toList.drop ((n+1)*4)).take ((qA-n-1)*4)
section
variable {S:cO} {M:Nat->Nat} {rs:List bA} {base:Nat} {w:World} {ca:Option Addr} {cc ej gG du e':Nat}
theorem hb.cell(h:hb S M rs base w ca cc ej gG du e'){arr:Array Value}(c:w.heap[du]? =some (Obj.cells arr 86 (0,0))):∀k,k<rs.length*4->∃u,arr[k]? =some u/\u.oneCell'=true:=fun k d=>by
 obtain⟨b,o,e,_,a⟩:=h.r
 cases e
 obtain⟨f,ac,H,_⟩:=a (k/4) z
 have br:=H.br
 have c1:=H.c1
 have c2:=H.c2
 have c3:=H.c3
 simp only[World.cell?,c,gm]at br c1 c2 c3
 have:k=k/4*4∨k=k/4*4+1∨k=k/4*4+2∨k=k/4*4+3:=z
 rcases this with e|e|e|e<;>rw[e]
 ·exact⟨_,br,rfl⟩
 ·exact⟨_,c1,rfl⟩
 ·exact⟨_,c2,rfl⟩
 ·exact⟨_,c3,rfl⟩
theorem EM(h:hb S M rs base w ca cc ej gG du e'){arr:Array Value}(b:arr.size=e'*4){n:Nat}(a:n<rs.length):(nf arr n rs.length).length=(rs.length-n-1)*4:=by
 have:=h.rl;simp only[nf,n_,pp,ji];omega
theorem aab(h:hb S M rs base w ca cc ej gG du e'){arr:Array Value}{n j:Nat}(a:j<(rs.length-n-1)*4):(nf arr n rs.length)[j]? =arr[(n+1)*4+j]? :=by
 simp only[nf,oS,a,sA,HR];simp
theorem aDr(h:hb S M rs base w ca cc ej gG du e'){arr:Array Value}(b:w.heap[du]? =some (Obj.cells arr 86 (0,0)))(d:arr.size=e'*4){n:Nat}(c:n<rs.length):∀j u,(nf arr n rs.length)[j]? =some u->w.cell? ((⟨du,(n+1)*4,none⟩:Addr).add j)=some u:=fun j u a=>by
 have aq:j<(rs.length-n-1)*4:=by rw[←EM h d c];exact(j2.1 a).1
 rw[aab h aq]at a
 rw[Th]
 simp only[World.cell?,b]
 exact a
theorem amT(h:hb S M rs base w ca cc ej gG du e'){arr:Array Value}(b:w.heap[du]? =some (Obj.cells arr 86 (0,0)))(d:arr.size=e'*4){n:Nat}(c:n<rs.length):∀u∈nf arr n rs.length,u.oneCell'=true:=fun u hu=>by
 obtain⟨j,a⟩:=HW.1 hu
 have aq:j<(rs.length-n-1)*4:=by rw[←EM h d c];exact(j2.1 a).1
 rw[aab h aq]at a
 obtain⟨e,H,I⟩:=h.cell b ((n+1)*4+j) z
 rw[H]at a
 cases a
 exact I
theorem hb.atg(h:hb S M rs base w ca cc ej gG du e'){arr:Array Value}(d:w.heap[du]? =some (Obj.cells arr 86 (0,0)))(x:arr.size=e'*4)(n:Nat)(s:n<rs.length): hb S M (rs.eraseIdx n) base (w.setCells du (n*4) (nf arr n rs.length)) ca cc ej gG du e':=by
 have Y:=h.rl;have X:=EM h x s;have r:(rs.eraseIdx n).length=rs.length-1:=by rw[anI,cv s]
 obtain⟨W,E,G⟩:=adR du (nf arr n rs.length) (n*4) w arr 86 (0,0) d;have Q:∀(b t:Nat) (a:Array Value) (bg:Nat×Nat),t≠86->w.heap[b]? =some (Obj.cells a t bg)->(w.setCells du (n*4) (nf arr n rs.length)).heap[b]? =some (Obj.cells a t bg):=fun b t a bg ah A=>by
  rw[anu _ _ _ _ (cX A) (fun e=>?_)]
  ·exact A
  ·rw[e,d]at A;cases A;exact ah rfl
 have g:∀(b t o:Nat),tK w b t->t≠86->(w.setCells du (n*4) (nf arr n rs.length)).cell? ⟨b,o,none⟩=w.cell? ⟨b,o,none⟩:=fun b t o ⟨a,bg,A⟩ ah=>by simp only[World.cell?,A,Q b t a bg ah A]
 have low:∀o,o<n*4->(w.setCells du (n*4) (nf arr n rs.length)).cell? ⟨du,o,none⟩=w.cell? ⟨du,o,none⟩:=fun o O=>aa0 _ _ _ _ _ (fun _ _=>.inl O);have high:∀j,j<(rs.length-n-1)*4->(w.setCells du (n*4) (nf arr n rs.length)).cell? ⟨du,n*4+j,none⟩=w.cell? ⟨du,(n+1)*4+j,none⟩:=fun j L=>by
  have H:=World.cell?_setCells_in du (nf arr n rs.length) (n*4) w (fun q y=>by
   obtain⟨u,hu,_⟩:=h.cell d (n*4+q) z
   have F:w.cell? ⟨du,n*4+q,none⟩=some u:=by simp only[World.cell?,d];exact hu
   rw[F];rfl) j z
  rw[H];have I:=aab h (arr:=arr) (n:=n) L;rw[ln z]at I;simp only[World.cell?,d];exact I
 refine⟨?_,?_,?_,⟨W,E,by rw[G,x]⟩,?_,by rw[r];omega,h.bJ,h.rb,h.cl,h.EG⟩
 ·obtain⟨b,o,a,bg,e,m,c⟩:=h.c;exact⟨b,o,a,bg,e,Q _ _ _ _ ai m,c⟩
 ·obtain⟨a,J⟩:=h.bX;exact⟨a,Q _ _ _ _ ai J⟩
 ·obtain⟨b,o,e,ah,c⟩:=h.s;refine⟨b,o,e,?_,fun i hi=>?_⟩
  ·obtain⟨a,bg,A⟩:=ah;exact⟨a,bg,Q _ _ _ _ ai A⟩
  ·rw[g b 62 _ ah ai,g b 62 _ ah ai,g b 62 _ ah ai];exact c i hi
 ·obtain⟨b,o,e,ah,c⟩:=h.r;cases e;refine⟨du,0,rfl,⟨_,_,E⟩,fun i hi=>?_⟩;rw[r]at hi;obtain⟨k,V,N,l⟩:∃k,∃Q:k<rs.length,(rs.eraseIdx n)[i]'(by rw[r];exact hi)=rs[k]/\∀f,f<4->(w.setCells du (n*4) (nf arr n rs.length)).cell? ⟨du,i*4+f,none⟩=w.cell? ⟨du,k*4+f,none⟩:=by
   by_cases D:i<n
   ·exact⟨i,z,by rw[anG,dif_pos D],fun f R=>low _ z⟩
   ·refine⟨i+1,z,by rw[anG,dif_neg D],fun f R=>?_⟩;have:=high ((i-n)*4+f) z;rw[show n*4+((i-n)*4+f)=i*4+f by omega,show(n+1)*4+((i-n)*4+f)=(i+1)*4+f by omega]at this;exact this
  obtain⟨K,ac,H,I,P⟩:=c k V;rw[N];have br:=H.br;have c1:=H.c1;have c2:=H.c2;have c3:=H.c3;simp only[gm]at br c1 c2 c3;simp only[gm];refine⟨K,ac,⟨?_,?_,?_,?_,fun ab=>?_,H.cn⟩,fun ab=>?_,P⟩
  ·have:=l 0 z;simp only[hG]at this;rw[this];exact br
  ·rw[l 1 z];exact c1
  ·rw[l 2 z];exact c2
  ·rw[l 3 z];exact c3
  ·obtain⟨C,U,B,m,T⟩:=H.args ab;obtain⟨dJ,eH,Dn,A⟩:=I ab;rw[B]at Dn;cases Dn;exact⟨C,U,B,by rw[amf];exact m,fun q y=>by rw[g C 3 _ A ai];exact T q y⟩
  ·exact ajy
end
end Go.bj.N
namespace Go.bj.N
open Go Go.Proofs.Tryz Go.Proofs Go.RowKit Go.c0
def apM(S:cO)(M:Nat->Nat)(bD:Nat->Nat->Nat)(w':World)(base:Nat)(e:Ending):Prop:=
 ∃v bT,e=.returned v/\mW w' base v S.aB.length bT M bD
theorem ar8(S:cO)(T:qb S)(xJ:C0 S)(bD:Nat->Nat->Nat)(w:World)(M:Nat->Nat)(D:∀i,1<=M i/\M i<=5)(rs:List bA)(gv:rs.Sublist S.c8)(Bx:xk bD rs)(ca bd ra:Option Addr)(cc aV rc:Nat)(eu:iM w ca S.bs)(fF:rT w bd S.aB M)(dV:uK w ra rs): Calls prog 40 #[.agg #[.string S.bo,.int .i64 S.cZ,.slice ca S.bs.length cc,.slice bd S.aB.length aV,.slice ra rs.length rc,.int .i64 S.aj]] w fun e w'=>apM S M bD w' (w.heap.size+1) e/\Below w.heap.size w w':=by
 have i7:∀c_,Below w.heap.size w (w.alloc c_):=fun c_=>(bi _ _).alloc (aZ _) _;obtain⟨ex,kw,m8,jg,kU⟩:=jt aw8;have tB:=G (fun W (A:Below w.heap.size w W)=>Ys S T xJ W M D rs gv ca bd ra cc aV rc (eu.U A) (fF.U A) (dV.U A));have kP:∀W,Calls prog 86 #[.int .i64 1] W fun e w'=>AU 1 e/\Below W.heap.size W w':=fun W=>Sf 1 W ai;have an:=G kP;have u:=G Bx;have Wu:=G (fun r Y=>T.Ab r (gv.subset Y));have s8:=T.vB;have rf:=T.aB;have ug:rs.length<=40:=db gv.length_le T.c8;clear kP Bx xJ;go_enter func40,ntmps40
 go_wp2_with (go_at_call 38;refine(tB.out _ (i7 _)).mono ?_;rintro e m ⟨rfl,bm⟩);have aQ:yT m w.heap.size #[.string S.bo,.int .i64 S.cZ,.slice ca S.bs.length cc,.slice bd S.aB.length aV,.slice ra rs.length rc,.int .i64 S.aj]:=
  yT.U (B:=w.heap.size+1) ⟨am,da w _⟩ z (bm.mono am)
 have cS:Below w.heap.size w m:=(i7 _).trans (bm.mono am);have lI:w.heap.size+1<=m.heap.size:=aQ.1;clear bm tB i7;go_loopw [4,5] (fun v i wr=>∃k:Nat,k<=S.aB.length/\i=.int .i64 k/\(∃bT,mW wr (w.heap.size+1) v k bT M (fun _ _=>0))/\Below (w.heap.size+1) m wr) (fun _ i _=>S.aB.length-(RowKit.intOf i).toNat);case atStart=>exact⟨0,dq _,rfl,⟨fun _=>0,mo _ _ _ _,fun s al=>z,fun s t al=>z⟩,bi _ _⟩
 case round=>
  obtain⟨k,aB,rfl,⟨bT,f⟩,d⟩:=hrel;have C:=aQ.U z d;have X:Below w.heap.size w wr:=cS.trans (d.mono z);have bv:=aS 3 C.2;have D2:=C.1;by_cases aq:k<S.aB.length
  ·obtain⟨bJ,eB,rfl,jV,de⟩:=fF.U X;obtain⟨lE,g2,hg⟩:=de k aq;have lH:=(D k).1;have KW:=(D k).2;have lj:(k:Int)<S.aB.length:=z;have n0:(k:Int)<=1000:=z;have zR:(M k:Int)<=1000:=z;have sa:=ayH (M k) lH KW;have Wv:=f.e2
   go_wp2_with (at_builtin;refine lP _ rfl _ _ 89 rfl (w.heap.size+1) 92 ex (.slice none 0 0) 1 24 underlying89 kw m8 jg kU rfl ai _ k _ rfl ((Wv.alloc _).alloc _) ⟨wr.heap.size+1,0,none⟩ 1 1 [.slice (some ⟨wr.heap.size,0,none⟩) (M k+1) (M k+1)] rfl rfl (sy (cs:=#[.slice (some ⟨wr.heap.size,0,none⟩) (M k+1) (M k+1)]) (t:=92) (fr:=(0,0)) (by rw[←jC wr (.cells (Array.replicate (M k+1) (.string ⟨#[]⟩)) 91)];exact p1 _ _)) (by simp[Value.oneCell']) (by unfold maxLen;omega) z bu ?_;intro dO bq f' fD _);have k4:=f.next z f' fD;have fO:Below (w.heap.size+1) m bq:=(((d.alloc z _).alloc bu _).grown fD bu (up Wv));clear f' fD Wv f sa;go_roundw;case rel=>first|exact⟨k+1,z,bM,⟨_,k4⟩,fO⟩|((repeat apply Exists.intro);refine⟨?_,rfl⟩;exact⟨k+1,z,bM,⟨_,k4⟩,fO⟩)
   case measure=>simp[RowKit.intOf];omega
  ·obtain rfl:k=S.aB.length:=z;obtain⟨g,cap,rfl,D6,Wg,K⟩:=f.hz s8;have ag:mW wr (w.heap.size+1) (.slice (some ⟨g,0,none⟩) S.aB.length cap) S.aB.length bT M (pC bD rs 1 0):=f.mono fun _ _ _ _=>dq _;clear f K Wg;obtain⟨bz,rfl⟩:∃bz:World,bz=wr:=⟨_,rfl⟩
   go_wp2;go_loopw [6] (fun i ME=>∃ae:Nat,1<=ae/\ae<=10/\i=.int .i64 ae/\mW ME (w.heap.size+1) (.slice (some ⟨g,0,none⟩) S.aB.length cap) S.aB.length bT M (pC bD rs ae 0)/\Below (w.heap.size+1) m ME) (fun i _=>10-(RowKit.intOf i).toNat);case atStart=>exact⟨1,z,z,rfl,ag,d⟩
   case round=>
    clear C X bv D2 ag d;obtain⟨bh,rfl⟩:∃bh:World,bh=wr:=⟨_,rfl⟩;obtain⟨ae,aF,aG,rfl,f,d⟩:=hrel;by_cases aH:ae<=9
    ·have aL:(ae:Int)<=9:=z
     go_wp2;go_loopw [7] (fun i c=>∃k:Nat,k<=rs.length/\i=.int .i64 k/\mW c (w.heap.size+1) (.slice (some ⟨g,0,none⟩) S.aB.length cap) S.aB.length bT M (pC bD rs ae k)/\Below (w.heap.size+1) m c) (fun i _=>rs.length-(RowKit.intOf i).toNat);case atStart=>exact⟨0,z,rfl,f,d⟩
     case round=>
      clear f d;obtain⟨c,rfl⟩:∃c:World,c=wr:=⟨_,rfl⟩;obtain⟨k,mD,rfl,f,d⟩:=hrel;have C:=aQ.U z d;have X:Below w.heap.size w c:=cS.trans (d.mono z);have cT:=aS 4 C.2;have bv:=aS 3 C.2;have D2:=C.1;by_cases F:k<rs.length
      ·obtain⟨rb,aC,rfl,h0,de⟩:=dV.U X;obtain⟨aP,ac,N⟩:=de k F;obtain⟨R,nT,xP,_,_⟩:=Wu.out _ (fM F);have lE:=N.br;have g2:=N.c1;have hg:=N.c2;have q6:=N.c3;obtain⟨bJ,eB,rfl,jV,kk⟩:=fF.U X;obtain⟨_,_,bb⟩:=kk _ R;have Fc:=G N.args;have SA:=G f;have KW:=(D rs[k].h).2;have lj:(k:Int)<rs.length:=z;have n0:(k:Int)<=1000:=z;have x':(rs[k].h:Int)<(S.aB.length:Int):=z;clear N de kk f;by_cases aI:M rs[k].h<ae
       ·have ay:(M rs[k].h:Int)<(ae:Int):=z
        go_wp2;exact⟨⟨k+1,z,bM,(SA.out.U ((bi _ _).alloc (aZ _) _)).mono fun s i _ _=>by rw[TV ae k s i F];exact RS _ _,d.alloc z _⟩,by simp[RowKit.intOf];omega⟩
       ·have ay:¬(M rs[k].h:Int)<(ae:Int):=z;have sa:∀w,(Instr.makeSlice 92 (.int .i64 10) (.int .i64 10)).run prog w=.ok (.slice (some ⟨w.heap.size,0,none⟩) 10 10) (w.alloc (.cells (Array.replicate 10 (.string ⟨#[]⟩)) 91)):=fun w=>au
        go_wp2_with (go_at_call 86;refine(an.out _).mono ?_;rintro e L ⟨⟨V,rfl,BB,sb⟩,bC⟩;have DD:jG L (c.heap.size+1) 10 kX:=(by have ab:=jG.ane (c.alloc (.cells #[.int .i64 rs[k].h,.string rs[k].op,.string rs[k].aF,.slice aP rs[k].args.length ac] 86)) 10 kX;rw[jC]at ab;exact ab.U am bC);obtain⟨bX,hR,br,_,_⟩:=DD.cell (i:=1) ai;have z0:=DD.free 1);have Vn:jG (L.setCell ⟨c.heap.size+1,1,none⟩ (.string V)) (c.heap.size+1) 10 kX:=DD.set ai ⟨BB,sb⟩ ai;have rz:Below (c.heap.size+1) (c.alloc (.cells #[.int .i64 rs[k].h,.string rs[k].op,.string rs[k].aF,.slice aP rs[k].args.length ac] 86)) (L.setCell ⟨c.heap.size+1,1,none⟩ (.string V)):=(((bi _ _).alloc am _).trans (bC.mono am)).setCell am _;have VK:(L.setCell ⟨c.heap.size+1,1,none⟩ (.string V)).heap[c.heap.size]? =some (.cells #[.int .i64 rs[k].h,.string rs[k].op,.string rs[k].aF,.slice aP rs[k].args.length ac] 86 (0,0)):=by rw[rz.block _ z];exact da _ _
        have ad:Below c.heap.size c (L.setCell ⟨c.heap.size+1,1,none⟩ (.string V)):=((bi _ _).alloc (aZ _) _).trans (rz.mono z);clear DD bC rz br z0 BB sb sa bv cT lE g2 hg q6 bb;generalize (L.setCell ⟨c.heap.size+1,1,none⟩ (.string V))=bq at Vn VK ad⊢;have KR:=cX VK;go_loopw [9,10] (fun v i cR=>∃j l:Nat,c.heap.size<l/\j<=rs[k].args.length/\i=.int .i64 j/\v=.slice (some ⟨l,0,none⟩) 10 10/\jG cR l 10 (ot bD (rs[k].args.take j) kX)/\Below bq.heap.size bq cR) (fun _ i _=>rs[k].args.length-(RowKit.intOf i).toNat);case atStart=>exact⟨0,c.heap.size+1,z,z,rfl,rfl,Vn,bi _ _⟩
        case round=>
         clear Vn;obtain⟨j,l,aE,aa,rfl,rfl,U,gS⟩:=hrel;have VN:wr.heap[c.heap.size]? =some (.cells #[.int .i64 rs[k].h,.string rs[k].op,.string rs[k].aF,.slice aP rs[k].args.length ac] 86 (0,0)):=by rw[gS.block _ KR];exact VK
         have eq:=aS 3 VN;have M7:Below c.heap.size c wr:=b_ ad gS;have x:=SA.out.U M7;obtain⟨aA,wh,af,_,Wg,K⟩:=x.hz s8;obtain⟨rfl,rfl⟩:g=aA/\cap=wh:=by cases af;exact⟨rfl,rfl⟩
         clear af;by_cases r_:j<rs[k].args.length
         ·obtain⟨dJ,eH,rfl,ja,nU⟩:=(Fc.out.U M7) z;have jA:=nU j r_;have Gt:=xP _ (fM r_);have o7:=K _ Gt;have Vo:=(x.sq _ Gt).2;have aJ:=(D rs[k].args[j]).2;have Eb:(0:Int)<=(j:Int):=z;have PQ:(j:Int)<(rs[k].args.length:Int):=z;have W0:(j:Int)<=1000:=z;have W1:(rs[k].args[j]:Int)<(S.aB.length:Int):=z;have Wf:=aku bD (rs[k].args.take j) rs[k].args[j] (rs[k].args.drop (j+1)) kX (by rw[←EY r_,yR];exact u.out.num _ (fM F));have dx:∀i,i<M rs[k].args[j]+1->pC bD rs ae k rs[k].args[j] i<=bD rs[k].args[j] i:=fun i hi=>Of u.out ae k _ i z;have p_:=G (axv l (bT rs[k].args[j]) (M rs[k].args[j]+1) 10 (M rs[k].args[j]+1) (ot bD (rs[k].args.take j) kX) (pC bD rs ae k rs[k].args[j]) wr z U Vo Wf.1 (fun i hi=>p2 (dx i hi) (u.out.lt _ _)) (fun i hi=>p2 (Mp (fun _ _=>aZ _) dx z 10 (aZ _)) (Wf.2 i hi)));have fC:∀i,i<10->kE (ot bD (rs[k].args.take j) kX) (pC bD rs ae k rs[k].args[j]) (M rs[k].args[j]+1) i 10<=ot bD (rs[k].args.take (j+1)) kX i:=fun i _=>by rw[tu r_,aet];exact Mp (fun _ _=>aZ _) dx z 10 (aZ _)
          have ar:=G fC;clear U Vo Wf dx fC K x nU
          go_wp2_with (go_at_call 87;refine p_.out.mono ?_;rintro e w7 ⟨rfl,OT,ip⟩);exact⟨⟨j+1,wr.heap.size,by have:=M7.size;have:=gS.size;omega,z,bM,rfl,OT.mono ar.out,b_ gS ip⟩,by simp[RowKit.intOf];omega⟩
         ·obtain rfl:j=rs[k].args.length:=z;have wy:=K _ R;obtain⟨ax,O⟩:=x.sq _ R;obtain⟨ak,qH,fY,gZ,ee⟩:=O.cell (i:=ae) z;obtain⟨Y4,aj,Oj,ka,ah⟩:=U.cell (i:=ae) z;have fE:=O.free ae;have fu:=aS 0 VN;rw[vG]at ah;have bN:qH<281474976710656:=by have H:=Of u.out ae k rs[k].h ae z;have I:=u.out.lt rs[k].h ae;omega
          have bF:aj<281474976710656:=p2 ah (akv bD _ kX (u.out.num _ (fM F)) ae z);have b2:bT rs[k].h<wr.heap.size:=O.1;have cL:=cX VN;have aM:(0:Int)<=(ae:Int):=z;have aN:(ae:Int)<(M rs[k].h:Int)+1:=z;have aO:(ae:Int)<10:=z;have aK:(0:Int)<=(rs[k].h:Int):=z;have hp:l<wr.heap.size:=U.1;have G2:bT rs[k].h<c.heap.size:=(SA.out.sq _ R).2.1;have az:g≠bT rs[k].h:=fun e=>by obtain⟨_,aD,aw,_⟩:=O;exact Qy x.e2 aw ai (by simp[Value.ownBlock,e])
          have ap:=G x;clear U O x K
          go_wp2;have Qh:c.heap.size≠bT rs[k].h:=z;have XV:l≠bT rs[k].h:=z;refine yJ (S:=(fun W=>W.cell? ⟨c.heap.size,0,none⟩=some (.int .i64 rs[k].h)/\W.cell? ⟨g,rs[k].h,none⟩=some (.slice (some ⟨bT rs[k].h,0,none⟩) (M rs[k].h+1) (M rs[k].h+1))/\W.cell? ⟨l,ae,none⟩=some (.string Y4))) au ?_ (fun jM=>?_)
          ·exact⟨fu,wy,Oj⟩
          refine pj (i:=0) (oi:=_) (v:=?_) rfl au au au (fun _ _ _ h=>h) (Or.inl ⟨by rfl,?_⟩) (by assumption) ?_;rotate_left
          ·exact pR
          refine gH ?_;refine pj (i:=1) (oi:=_) (v:=?_) rfl au au au (fun _ _ _ h=>h) (Or.inl ⟨by rfl,?_⟩) (by assumption) ?_;rotate_left
          ·exact pR
          refine gH ?_;refine pj (i:=2) (oi:=_) (v:=?_) rfl au au au (fun _ _ _ h=>h) (Or.inl ⟨by rfl,?_⟩) (by assumption) ?_;rotate_left
          ·exact pR
          refine gH ?_;refine pj (i:=3) (oi:=_) (v:=?_) rfl au au au (fun _ _ _ h=>h) (Or.inl ⟨by rfl,?_⟩) (by assumption) ?_;rotate_left
          ·exact pR
          refine gH ?_;refine pj (i:=4) (oi:=_) (v:=?_) rfl au au au (fun _ _ _ h=>h) (Or.inl ⟨by rfl,?_⟩) (by assumption) ?_;rotate_left
          ·exact pR
          refine gH ?_;refine pj (i:=5) (oi:=_) (v:=?_) rfl au au au (fun _ _ _ h=>h) (Or.inl ⟨by rfl,?_⟩) (by assumption) ?_;rotate_left
          ·exact pR
          refine gH ?_;refine pj (i:=6) (oi:=_) (v:=?_) rfl au au au (fun _ _ _ h=>h) (Or.inl ⟨by rfl,?_⟩) (by assumption) ?_;rotate_left
          ·exact pR
          refine gH ?_;refine pj (i:=7) (oi:=_) (v:=?_) rfl au au au (fun _ _ _ h=>h) (Or.inl ⟨by rfl,?_⟩) (by assumption) ?_;rotate_left
          ·exact pR
          refine gH ?_;refine pj (i:=8) (oi:=_) (v:=?_) rfl au au au (fun _ _ _ h=>h) (Or.inl ⟨by rfl,?_⟩) (by assumption) ?_;rotate_left
          ·exact pR
          refine gH ?_;refine pj (i:=9) (oi:=_) (v:=?_) rfl au au au (fun _ _ _ h=>h) (Or.inl ⟨by rfl,?_⟩) (by assumption) ?_;rotate_left
          ·exact pR
          refine gH ?_;refine pj (i:=10) (oi:=_) (v:=?_) rfl au au au (fun _ _ _ h=>h) (Or.inl ⟨by rfl,?_⟩) (by assumption) ?_;rotate_left
          ·exact pR
          refine gH ?_;refine pj (i:=11) (oi:=_) (v:=?_) rfl au au au (fun _ _ _ h=>h) (Or.inl ⟨by rfl,?_⟩) (by assumption) ?_;rotate_left
          ·exact pR
          refine gH ?_;refine pj (i:=12) (oi:=_) (v:=?_) rfl au au au (fun _ _ _ h=>h) (Or.inl ⟨by rfl,?_⟩) (by assumption) ?_;rotate_left
          ·exact pR
          refine gH ?_;refine pj (i:=14) (oi:=_) (v:=?_) rfl au au au (fun _ _ _ h=>h) (Or.inl ⟨by rfl,?_⟩) (by assumption) ?_;rotate_left
          ·exact pR
          refine gH ?_;refine pj (i:=15) (oi:=_) (v:=?_) rfl au au au (fun _ _ _ h=>h) (Or.inl ⟨by rfl,?_⟩) (by assumption) ?_;rotate_left
          ·exact pR
          refine gH ?_;refine pj (i:=16) (oi:=_) (v:=?_) rfl au au au (fun _ _ _ h=>h) (Or.inl ⟨by rfl,?_⟩) (by assumption) ?_;rotate_left
          ·exact pR
          refine gH ?_;refine pj (i:=17) (oi:=_) (v:=?_) rfl au au au (fun _ _ _ h=>h) (Or.inl ⟨by rfl,?_⟩) (by assumption) ?_;rotate_left
          ·exact pR
          refine gH ?_;refine n4 13 (fun Q n=>?_);go_simp;refine n.out _ _ ⟨fu,wy,Oj⟩ (fun jM=>?_);clear n Q;refine gH ?_;refine n4 18 (fun Q n=>?_);go_simp;go_at_call 41;refine(Ti ak Y4 qH aj _ gZ ka bN bF).mono ?_;rintro e y ⟨⟨cM,rfl,x7,x1⟩,E⟩;have bR:y.frozen? ⟨bT rs[k].h,ae,none⟩=false:=(by rw[E.frozen (by simpa using b2)];exact fE);have dF:y.cell? ⟨bT rs[k].h,ae,none⟩=some (.string ak):=(by rw[E.cell (by simpa using b2)];exact fY);have dZ:y.cell? ⟨g,rs[k].h,none⟩=some (.slice (some ⟨bT rs[k].h,0,none⟩) (M rs[k].h+1) (M rs[k].h+1)):=(by rw[E.cell (by simpa using Wg)];exact wy);have ho:y.cell? ⟨c.heap.size,0,none⟩=some (.int .i64 rs[k].h):=(by rw[E.cell (by simpa using cL)];exact fu);have jL:y.cell? ⟨l,ae,none⟩=some (.string Y4):=(by rw[E.cell (by simpa using hp)];exact Oj);refine n.out _ _ ⟨ho,dZ,jL⟩ (fun jM=>?_);clear n Q;refine gH ?_;refine pj (i:=19) (oi:=_) (v:=?_) rfl au au au (fun _ _ _ h=>h) (Or.inl ⟨by rfl,?_⟩) (by assumption) ?_;rotate_left
          ·exact pR
          refine gH ?_;refine n4 20 (fun Q n=>?_);go_simp;refine n.out _ _ ⟨(mO (hm _ _ _ _ Qh)).trans ho,(mO (hm _ _ _ _ az)).trans dZ,(mO (hm _ _ _ _ XV)).trans jL⟩ (fun jM=>?_);clear n Q;refine gH ?_;refine As au ?_ _;all_goals(
           have Z:mW (y.setCell ⟨bT rs[k].h,ae,none⟩ (.string cM)) (w.heap.size+1) (.slice (some ⟨g,0,none⟩) S.aB.length cap) S.aB.length bT M (pC bD rs ae (k+1)):=(mW.U (w:=wr.drew) (ap.out.U ((bi _ _).drew)) E).set (fun s i _ _=>by rw[TV ae k s i F];exact RS _ _) R z ⟨x7,x1⟩ (by rw[TV ae k _ ae F,cv ⟨rfl,rfl⟩];omega)
           have iG:Below (w.heap.size+1) m (y.setCell ⟨bT rs[k].h,ae,none⟩ (.string cM)):=(((d.trans (M7.mono z)).drew).trans (E.mono (by show w.heap.size+1<=wr.heap.size;omega))).setCell ax _
           have k2:=G Z
           clear Z bR dF dZ ho jL fY Oj fE fu wy
           go_wp2
           go_roundw
           case rel=>first|exact⟨k+1,z,bM,k2.out,iG⟩|((repeat apply Exists.intro);refine⟨?_,rfl⟩;exact⟨k+1,z,bM,k2.out,iG⟩)
           case measure=>simp[RowKit.intOf];omega)
      ·obtain rfl:k=rs.length:=z;have pM:mW c (w.heap.size+1) (.slice (some ⟨g,0,none⟩) S.aB.length cap) S.aB.length bT M (pC bD rs (ae+1) 0):=f.mono fun s i _ hi=>arM u.out ae s i (by have:=(D s).2;omega);clear f
       go_wp2;exact⟨⟨ae+1,z,z,bM,pM,d⟩,by simp[RowKit.intOf];omega⟩
    ·obtain rfl:ae=10:=z;have Z:mW bh (w.heap.size+1) (.slice (some ⟨g,0,none⟩) S.aB.length cap) S.aB.length bT M bD:=f.mono fun s i _ hi=>Of u.out 10 0 s i (by have:=(D s).2;omega);have k2:=G Z;have av:=G (cS.trans (d.mono z));clear f d Z
     go_wp2;go_ret;exact⟨⟨_,bT,rfl,k2.out⟩,av.out⟩
def aod(e:Ending):Prop:=∃n:Int,e=.returned (.int .i64 n)
theorem atF(S:cO)(B:qb S)(Y:yu S=true)(w:World)(M:Nat->Nat)(qA:Nat)(ca l ra:Option Addr)(cc n rc:Nat)(X:iM w ca S.bs)(I:rT w l S.aB M)(r:bA)(s:r∈S.c8)(f:Option Addr)(ac:Nat)(V:p5 w f r.args)(o:Value)(U:lq w o): Calls prog 39 #[.agg #[.string S.bo,.int .i64 S.cZ,.slice ca S.bs.length cc,.slice l S.aB.length n,.slice ra qA rc,.int .i64 S.aj],.agg #[.int .i64 r.h,.string r.op,.string r.aF,.slice f r.args.length ac],o] w fun e w'=>aod e/\Below w.heap.size w w':=by
 have q:∀C D,Below w.heap.size w ((w.alloc C).alloc D):=fun C D=>((bi _ _).alloc (aZ _) _).alloc am _;have H:=G (fun W (A:Below w.heap.size w W)=>aEC S Y r s W o ca cc (U.U A) (X.U A));obtain⟨T,nT,P,_,_⟩:=B.Ab r s;have rf:=B.aB;go_enter func39,ntmps39;go_upto_region 2 with(go_at_call 85;refine(H.out _ (q _ _)).mono ?_;rintro e j ⟨⟨iw,ys,ah,eF,O,rfl,Z⟩,c⟩)
 have g:H7 j w.heap.size (w.heap.size+1) #[.string S.bo,.int .i64 S.cZ,.slice ca S.bs.length cc,.slice l S.aB.length n,.slice ra qA rc,.int .i64 S.aj] #[.int .i64 r.h,.string r.op,.string r.aF,.slice f r.args.length ac]:=by
  have ae:=c.size;simp only[jC]at ae;refine⟨z,z,?_,?_⟩
  ·rw[c.block _ (by simp only[jC];omega),wB _ _ (by simp only[jC];omega)];exact da w _
  ·rw[c.block _ (by simp only[jC];omega)];have:=da (w.alloc (.cells #[.string S.bo,.int .i64 S.cZ,.slice ca S.bs.length cc,.slice l S.aB.length n,.slice ra qA rc,.int .i64 S.aj] 29)) (.cells #[.int .i64 r.h,.string r.op,.string r.aF,.slice f r.args.length ac] 86);exact ajO
 have cS:Below w.heap.size w j:=(q _ _).trans (c.mono bu);clear c H q;by_cases N:O=0
 ·subst N;have F:=aS 3 g.2.2.2;have fu:=aS 0 g.2.2.2;have y:=aS 3 g.2.2.1;obtain⟨bJ,eB,rfl,L,d⟩:=I.U cS;by_cases R:ys=r.args.length
  ·subst R;obtain⟨_,ce,_⟩:=d _ T;have x':(r.h:Int)<S.aB.length:=z;have Q:((r.args.length:Int) !=(r.args.length:Int))=false:=am;by_cases xW:((S.aB[r.h].2:Int) !=eF)=true
   ·exact XC
   ·have ag:((S.aB[r.h].2:Int) !=eF)=false:=by simpa using xW
    go_wp2;go_loopw [10] (fun i wr=>∃k:Nat,k<=r.args.length/\i=.int .i64 k/\Below j.heap.size j wr) (fun i _=>r.args.length-(RowKit.intOf i).toNat);case atStart=>exact⟨0,z,rfl,bi _ _⟩
    case round=>
     clear ce fu F y d L;obtain⟨k,aa,rfl,a⟩:=hrel;have E:=g.U a;have m:Below w.heap.size w wr:=b_ cS a;have F:=aS 3 E.2.2.2;have y:=aS 3 E.2.2.1;by_cases aq:k<r.args.length
     ·obtain⟨dJ,eH,rfl,ja,K⟩:=(V.U m) z;have bO:=K k aq;obtain⟨aj,ak,sg,L,d⟩:=I.U m;cases sg;obtain⟨_,ce,_⟩:=d _ (P _ (fM aq));obtain⟨Rc,ai,rfl,ad,u⟩:=(Z.U a).2 z;obtain⟨x,ab⟩:=u k aq;have mj:(0:Int)<=(k:Int):=z;have lj:(k:Int)<r.args.length:=z;have n0:(k:Int)<=1000:=z;have zR:(r.args[k]:Int)<(S.aB.length:Int):=by have:=P _ (fM aq);omega
      have PQ:(0:Int)<=(r.args[k]:Int):=z;clear K d u
      go_wp2;go_quiet (fail)
      go_wp2;all_goals first
       |(
        go_roundw
        case rel=>first|exact⟨k+1,z,bM,a.trans (p6.U ⟨_,rfl⟩ _)⟩|((repeat apply Exists.intro);refine⟨?_,rfl⟩;exact⟨k+1,z,bM,a.trans (p6.U ⟨_,rfl⟩ _)⟩)
        case measure=>simp[RowKit.intOf];omega)
       |(go_ret;exact⟨⟨_,rfl⟩,m.trans (p6.U ⟨_,rfl⟩ _)⟩)
     ·go_wp2;go_ret;exact⟨⟨_,rfl⟩,m⟩
  ·have Q:((ys:Int) !=(r.args.length:Int))=true:=bu;exact XC
 ·have af:(O !=0)=true:=by simp[N]
  exact XC
def Na(S:cO)(M:Nat->Nat)(bD:Nat->Nat->Nat)(w:World)(va:Option Addr)(n:Nat):Prop:=
 n<=12/\(0<n->∃(g:Nat) (bT:Nat->Nat),va=some ⟨g,0,none⟩/\g<w.heap.size/\∀s,s<n->w.cell? ⟨g,s,none⟩=some (.slice (some ⟨bT s,0,none⟩) (M s+1) (M s+1))/\jG w (bT s) (M s+1) (bD s))
theorem Na.U{S:cO}{M:Nat->Nat}{bD:Nat->Nat->Nat}{w w':World}{va:Option Addr}{n:Nat}(h:Na S M bD w va n)(A:Below w.heap.size w w'):Na S M bD w' va n:=
 ⟨h.1,fun ab=>by
  obtain⟨g,bT,e,c,a⟩:=h.2 ab
  exact⟨g,bT,e,cE A c,fun s b=>⟨by rw[A.cell c];exact(a s b).1,(a s b).2.U (a s b).2.1 A⟩⟩⟩
theorem ar9(S:cO)(b:qb S)(t:C0 S)(bD:Nat->Nat->Nat)(w:World)(M:Nat->Nat)(q:∀i,1<=M i/\M i<=5)(rs:List bA)(r:rs.Sublist S.c8)(j:xk bD rs)(ca a ra:Option Addr)(cc d rc:Nat)(o:iM w ca S.bs)(p:rT w a S.aB M)(n:uK w ra rs):
  Calls prog 40 #[.agg #[.string S.bo,.int .i64 S.cZ,.slice ca S.bs.length cc,.slice a S.aB.length d,.slice ra rs.length rc,.int .i64 S.aj]] w fun e w'=>(∃va m,e=.returned (.slice va S.aB.length m)/\Na S M bD w' va S.aB.length)/\Below w.heap.size w w':=
 (ar8 S b t bD w M q rs r j ca a ra cc d rc o p n).mono fun e w' ⟨h,A⟩=>⟨by
  obtain⟨v,bT,rfl,f⟩:=h
  obtain⟨g,cap,rfl,_,l,k⟩:=f.hz b.vB
  exact⟨_,_,rfl,b.aB,fun _=>⟨g,bT,rfl,l,fun s c=>⟨k s c,(f.sq s c).2⟩⟩⟩,A⟩
def qL(w:World)(b n:Nat):Prop:=∃cs:Array Value,w.heap[b]? =some (.cells cs 4 (0,0))/\cs.size=n/\∀i,i<n->∃x,cs[i]? =some (.bool x)
theorem qL.cell{w:World}{b n:Nat}(h:qL w b n){i:Nat}(hi:i<n):∃x,w.cell? ⟨b,i,none⟩=some (.bool x):=by
 obtain⟨cs,H,I,a⟩:=h;obtain⟨x,e⟩:=a i hi;exact⟨x,lb H e⟩
theorem qL.free{w:World}{b n:Nat}(h:qL w b n)(i:Nat):w.frozen? ⟨b,i,none⟩=false:=by
 obtain⟨cs,H,_⟩:=h;simp[World.frozen?,H]
theorem qL.set{w:World}{b n:Nat}(h:qL w b n)(j:Nat)(x:Bool):qL (w.setCell ⟨b,j,none⟩ (.bool x)) b n:=by
 obtain⟨cs,H,I,c⟩:=h;refine⟨cs.setIfInBounds j (.bool x),hS H _,by simpa using I,fun i hi=>?_⟩;by_cases e:i=j
 ·subst e;exact⟨x,by simp[I,hi]⟩
 ·obtain⟨y,a⟩:=c i hi;exact⟨y,by rw[yG (ht e)];exact a⟩
theorem qL.eI(w:World)(n:Nat):qL (w.alloc (.cells (Array.replicate n (.bool false)) 4)) w.heap.size n:=
 ⟨_,da w _,am,fun i hi=>⟨false,by simp[hi]⟩⟩
theorem qL.XO(w:World)(n j:Nat):qL (w.alloc (.cells ((Array.replicate n (.bool false)).setIfInBounds j (.bool true)) 4)) w.heap.size n:=
 ⟨_,da w _,am,fun i hi=>by
  by_cases e:i=j
  ·subst e;exact⟨true,by simp[hi]⟩
  ·exact⟨false,by rw[yG (ht e)];simp[hi]⟩⟩
theorem ayI(n:Nat)(H:1<=n)(a:n<=12):∀(w:World),(Instr.makeSlice 94 (.int .i64 (n:Int)) (.int .i64 (n:Int))).run prog w=.ok (.slice (some ⟨w.heap.size,0,none⟩) n n) (w.alloc (.cells (Array.replicate n (.bool false)) 4)):=by
 exact aji
def apL(M:Nat->Nat)(bD:Nat->Nat->Nat)(aj:Nat)(e:Ending):Prop:=∃n m:Int,e=.returned (.tuple #[.int .i64 n,.int .i64 m])/\(m=0->∃j,j<=M aj/\bD aj j≠0)
theorem arG(S:cO)(n:qb S)(xJ:C0 S)(bD:Nat->Nat->Nat)(gJ:yu S=true)(w:World)(M:Nat->Nat)(fp:∀i,1<=M i/\M i<=5)(rs:List bA)(T:rs.Sublist S.c8)(Bx:xk bD rs)(ca u ra:Option Addr)(cc O rc:Nat)(eu:iM w ca S.bs)(fF:rT w u S.aB M)(Z:uK w ra rs)(bp:Value)(bG:lq w bp): Calls prog 18 #[.agg #[.string S.bo,.int .i64 S.cZ,.slice ca S.bs.length cc,.slice u S.aB.length O,.slice ra rs.length rc,.int .i64 S.aj],bp] w fun e w'=>apL M bD S.aj e/\Below w.heap.size w w':=by
 have i7:∀c_,Below w.heap.size w (w.alloc c_):=fun c_=>(bi _ _).alloc (aZ _) _;have tB:=G (fun W (A:Below w.heap.size w W)=>Ys S n xJ W M fp rs T ca u ra cc O rc (eu.U A) (fF.U A) (Z.U A));have ag:=G (fun W (A:Below w.heap.size w W)=>ar9 S n xJ bD W M fp rs T Bx ca u ra cc O rc (eu.U A) (fF.U A) (Z.U A));have ah:=G (fun W (A:Below w.heap.size w W) r (L:r∈S.c8) N ac (cx:p5 W N r.args)=>atF S n gJ W M rs.length ca u ra cc O rc (eu.U A) (fF.U A) r L N ac cx bp (bG.U A));have wE:=G Bx;have Wu:=G (fun r L=>n.Ab r (T.subset L));have fJ:=G (fun(r:bA) (L:r∈rs)=>T.subset L);have s8:=n.vB;have rf:=n.aB;have eE:=n.aj;have ug:rs.length<=40:=db T.length_le n.c8;clear bG Bx xJ;go_enter func18,ntmps18
 go_wp2_with (go_at_call 38;refine(tB.out _ (i7 _)).mono ?_;rintro e X ⟨rfl,bm⟩);have aQ:yT X w.heap.size #[.string S.bo,.int .i64 S.cZ,.slice ca S.bs.length cc,.slice u S.aB.length O,.slice ra rs.length rc,.int .i64 S.aj]:=
  yT.U (B:=w.heap.size+1) ⟨am,da w _⟩ z (bm.mono am)
 have cS:Below w.heap.size w X:=(i7 _).trans (bm.mono am);clear bm tB i7;go_loopw [7] (fun i wr=>∃k:Nat,k<=rs.length/\i=.int .i64 k/\Below X.heap.size X wr) (fun i _=>rs.length-(RowKit.intOf i).toNat);case atStart=>exact⟨0,dq _,rfl,bi _ _⟩
 case round=>
  obtain⟨k,an,rfl,a⟩:=hrel;have d:=aQ.U aQ.1 a;have m:Below w.heap.size w wr:=b_ cS a;obtain⟨eg,ak,aJ,P,Y,jw⟩:=fZ d.2;have D2:=d.1;by_cases aq:k<rs.length
  ·obtain⟨rb,aC,rfl,h0,q⟩:=Z.U m;obtain⟨N,ac,f⟩:=q k aq;have lE:=f.br;have g2:=f.c1;have hg:=f.c2;have q6:=f.c3;have Fc:=G f.args;have mj:(0:Int)<=(k:Int):=z;have lj:(k:Int)<rs.length:=z;have n0:(k:Int)<=1000:=z;clear f q
   go_wp2;go_still_tail 7,au
   go_wp2_with (go_at_call 39;refine(ah.out _ m.drew rs[k] (fJ.out _ (fM aq)) N ac (Fc.out.U ((bi _ _).drew))).mono ?_;rintro e bh ⟨⟨kA,rfl⟩,bt⟩);all_goals first
    |(
      go_roundw
      case rel=>first|exact⟨k+1,z,bM,(a.drew).trans (bt.mono a.size)⟩|((repeat apply Exists.intro);refine⟨?_,rfl⟩;exact⟨k+1,z,bM,(a.drew).trans (bt.mono a.size)⟩)
      case measure=>simp[RowKit.intOf];omega)
    |(go_ret2;exact⟨⟨_,_,rfl,fun h=>by exfalso;have af:(kA !=0)=true:=(by assumption);rw[h]at af;simp at af⟩,m.drew.trans (bt.mono m.size)⟩)
  ·obtain rfl:k=rs.length:=z;clear ah;go_upto_block 2 with(go_at_call 40;refine(ag.out _ m).mono ?_;rintro e o ⟨⟨va,cq,rfl,wy⟩,bC⟩)
   have pv:=d.U d.1 bC;have tz:Below w.heap.size w o:=b_ m bC;clear eg ak aJ P Y jw d m bC a aQ cS D2 ag;go_cut [] (fun c9=>Below o.heap.size o c9/\Hid (∃j,j<=M S.aj/\bD S.aj j≠0));case first=>
    have VQ:=wy.1
    go_wp2_with fail;go_loopw [10] (fun i wr=>∃k:Nat,k<=S.aB.length/\i=.int .i64 k/\Below o.heap.size o wr/\Hid (∀s,s<k->∃j,j<=M s/\bD s j≠0)) (fun i _=>S.aB.length-(RowKit.intOf i).toNat);case atStart=>exact⟨0,dq _,rfl,bi _ _,G fun s ad=>z⟩
    case round=>
     obtain⟨l,rfl⟩:∃l:World,l=wr:=⟨_,rfl⟩;obtain⟨k,an,rfl,a,Q⟩:=hrel;by_cases aq:k<S.aB.length
     · have mj:(0:Int)<=(k:Int):=z
       have lj:(k:Int)<S.aB.length:=z;have n0:(k:Int)<=1000:=z;have KW:=(fp k).2;obtain⟨TQ,bT,rfl,av,hP⟩:=(wy.U a).2 z;obtain⟨zF,aj⟩:=hP k aq;have iq:=aj.1
       go_wp2;go_loopw [11,12] (fun t i C=>∃(j v:Nat) (s:ByteArray),j<=M k+1/\i=.int .i64 j/\t=.string s/\y4 s v/\v<=j*2147483648/\Below l.heap.size l C/\Hid (v≠0->∃g,g<j/\bD k g≠0)) (fun _ i _=>M k+1-(RowKit.intOf i).toNat);case atStart=>exact⟨0,0,⟨#[]⟩,z,rfl,rfl,⟨rfl,ai,fun _=>rfl⟩,z,bi _ _,G fun h=>absurd rfl h⟩
       case round=>
        obtain⟨j,v,s,aa,rfl,rfl,ad,J,R,t_⟩:=hrel;have az:wr.cell? ⟨TQ,k,none⟩=some (.slice (some ⟨bT k,0,none⟩) (M k+1) (M k+1)):=by rw[R.cell av];exact zF
        have lR:Below o.heap.size o wr:=b_ a R;by_cases E:j<M k+1
        ·obtain⟨ap,K,iU,aw,W9⟩:=(aj.U iq R).cell E;have zR:(0:Int)<=(j:Int):=z;have x':(j:Int)<(M k:Int)+1:=z;have Eb:(j:Int)<=1000:=z;have bN:K<2147483648:=p2 W9 (wE.out.lt _ _);have al:Hid (v+K≠0->∃g,g<j+1/\bD k g≠0):=G fun h=>by
          by_cases ab:v=0
          ·exact⟨j,z,z⟩
          ·obtain⟨g,H,I⟩:=t_.out ab;exact⟨g,z,I⟩
         have ij:=G (fun W=>Ti s ap v K W ad aw z z);clear zF
         go_wp2_with (go_at_call 41;refine(ij.out _).mono ?_;rintro e w7 ⟨⟨cM,rfl,x7,x1⟩,ip⟩);go_roundw;case rel=>first|exact⟨j+1,v+K,cM,z,bM,rfl,⟨x7,x1⟩,z,b_ R ip,al⟩|((repeat apply Exists.intro);refine⟨?_,rfl⟩;exact⟨j+1,v+K,cM,z,bM,rfl,⟨x7,x1⟩,z,b_ R ip,al⟩)
         case measure=>simp[RowKit.intOf];omega
        ·have x':¬(j:Int)<(M k:Int)+1:=z;clear zF;by_cases iu:s.size=0
         ·have z0:((s.size:Int)==0)=true:=by simp[iu]
          clear iu
          go_wp2;go_ret2
          exact⟨⟨_,_,rfl,fun h=>by simp at h⟩,b_ tz lR⟩
         ·have z0:((s.size:Int)==0)=false:=by rw[l8];omega
          have OR:Hid (∀D,D<k+1->∃j,j<=M D/\bD D j≠0):=G fun D jU=>by
           by_cases e:D=k
           ·subst e;obtain⟨g,H,I⟩:=t_.out (fun e=>iu (ad.2.2 e));exact⟨g,z,I⟩
           ·exact Q.out D z
          clear iu
          go_wp2;go_roundw;case rel=>first|exact⟨k+1,z,bM,lR,OR⟩|((repeat apply Exists.intro);refine⟨?_,rfl⟩;exact⟨k+1,z,bM,lR,OR⟩)
          case measure=>simp[RowKit.intOf];omega
     · go_wp2_with fail
       go_meet;exact⟨a,G (Q.out S.aj z)⟩
   case rest=>
    obtain⟨hcut,Q⟩:=hcut;have F:=pv.U pv.1 hcut;have V:Below w.heap.size w wc:=b_ tz hcut;clear pv tz hcut wy wE;have sa:=ayI S.aB.length s8 rf;obtain⟨-,-,-,P,-,jw⟩:=fZ F.2;have Bv:=F.1;have Gk:=qL.eI wc S.aB.length;obtain⟨fj,br⟩:=Gk.cell eE;have z0:=Gk.free S.aj;have li:(S.aj:Int)<S.aB.length:=z;have jF:=G (qL.XO wc S.aB.length S.aj);have p9:=G (fH wc (.cells ((Array.replicate S.aB.length (.bool false)).setIfInBounds S.aj (.bool true)) 4));clear Gk
    go_wp2;clear sa br z0 P jw;generalize (wc.alloc (.cells ((Array.replicate S.aB.length (.bool false)).setIfInBounds S.aj (.bool true)) 4))=sx at jF p9⊢;go_loopw [14] (fun i wr=>∃k:Nat,k<=S.aB.length/\i=.int .i64 k/\qL wr wc.heap.size S.aB.length/\Below wc.heap.size wc wr) (fun i _=>S.aB.length-(RowKit.intOf i).toNat);case atStart=>exact⟨0,dq _,rfl,jF.out,p9.out⟩
    case round=>
     clear jF p9;obtain⟨l,rfl⟩:∃l:World,l=wr:=⟨_,rfl⟩;obtain⟨ae,ax,rfl,c,a⟩:=hrel;have d:=F.U Bv a;have P:=aS 3 d.2;by_cases aA:ae<S.aB.length
     · have mj:(ae:Int)<S.aB.length:=z
       have lj:(ae:Int)<=1000:=z
       go_wp2;go_loopw [15] (fun i U=>∃k:Nat,k<=rs.length/\i=.int .i64 k/\qL U wc.heap.size S.aB.length/\Below wc.heap.size wc U) (fun i _=>rs.length-(RowKit.intOf i).toNat);case atStart=>exact⟨0,dq _,rfl,c,a⟩
       case round=>
        clear c a d P;obtain⟨U,rfl⟩:∃U:World,U=wr:=⟨_,rfl⟩;obtain⟨k,mD,rfl,c,a⟩:=hrel;have d:=F.U Bv a;have Y:=aS 4 d.2;by_cases s6:k<rs.length
        ·have n0:(k:Int)<rs.length:=z;have zR:(k:Int)<=1000:=z;have x':(0:Int)<=(k:Int):=z;obtain⟨b7,nT,xP,_,_⟩:=Wu.out _ (fM s6);have Eb:(rs[k].h:Int)<(S.aB.length:Int):=z;have PQ:(0:Int)<=(rs[k].h:Int):=z
         go_wp2;go_loopw [16] (fun i C=>∃j:Nat,j<=rs[k].args.length/\i=.int .i64 j/\qL C wc.heap.size S.aB.length/\Below wc.heap.size wc C) (fun i _=>rs[k].args.length-(RowKit.intOf i).toNat);case atStart=>exact⟨0,dq _,rfl,c,a⟩
         case round=>
          clear c a d Y;obtain⟨j,aa,rfl,c,a⟩:=hrel;have d:=F.U Bv a;have Y:=aS 4 d.2;have m:Below w.heap.size w wr:=V.trans (a.mono (by have:=V.size;omega));obtain⟨rb,aC,rfl,h0,q⟩:=Z.U m;obtain⟨N,ac,f⟩:=q k s6;have lE:=f.br;have q6:=f.c3;by_cases E:j<rs[k].args.length
          ·obtain⟨x,hy⟩:=c.cell b7;have W0:(j:Int)<(rs[k].args.length:Int):=z;have W1:(0:Int)<=(j:Int):=z;have ar:(j:Int)<=1000:=z;cases x
           ·clear q f
            go_wp2;go_roundw;case rel=>first|exact⟨k+1,z,bM,c,a⟩|((repeat apply Exists.intro);refine⟨?_,rfl⟩;exact⟨k+1,z,bM,c,a⟩)
            case measure=>simp[RowKit.intOf];omega
           ·obtain⟨dJ,eH,rfl,ja,nU⟩:=f.args z;have jA:=nU j E;have Gt:=xP _ (fM E);have aB:(rs[k].args[j]:Int)<(S.aB.length:Int):=z;have aD:(0:Int)<=(rs[k].args[j]:Int):=z;obtain⟨y,ou⟩:=c.cell Gt;have ay:=c.free rs[k].args[j];have gW:=G (c.set rs[k].args[j] true);have Nz:=G (a.setCell (p:=⟨wc.heap.size,rs[k].args[j],none⟩) (aZ _) (.bool true));clear q f nU c a
            go_wp2;go_roundw;case rel=>first|exact⟨j+1,z,bM,gW.out,Nz.out⟩|((repeat apply Exists.intro);refine⟨?_,rfl⟩;exact⟨j+1,z,bM,gW.out,Nz.out⟩)
            case measure=>simp[RowKit.intOf];omega
          ·have W0:¬(j:Int)<(rs[k].args.length:Int):=z;clear q f
           go_wp2;go_roundw;case rel=>first|exact⟨k+1,z,bM,c,a⟩|((repeat apply Exists.intro);refine⟨?_,rfl⟩;exact⟨k+1,z,bM,c,a⟩)
           case measure=>simp[RowKit.intOf];omega
        ·go_wp2;go_roundw;case rel=>first|exact⟨ae+1,z,bM,c,a⟩|((repeat apply Exists.intro);refine⟨?_,rfl⟩;exact⟨ae+1,z,bM,c,a⟩)
         case measure=>simp[RowKit.intOf];omega
     · have In:Below w.heap.size w l:=V.trans (a.mono (by have:=V.size;omega))
       go_wp2;go_loopw [17] (fun i C=>∃j:Nat,j<=S.aB.length/\i=.int .i64 j/\C=l) (fun i _=>S.aB.length-(RowKit.intOf i).toNat);case atStart=>exact⟨0,dq _,rfl,rfl⟩
       case round=>
        obtain⟨j,aa,rfl,rfl⟩:=hrel;by_cases E:j<S.aB.length
        ·obtain⟨x,hy⟩:=c.cell E;have W0:(j:Int)<S.aB.length:=z;have W1:(0:Int)<=(j:Int):=z;have ar:(j:Int)<=1000:=z;cases x
         ·go_wp2;go_ret2
          exact⟨⟨_,_,rfl,fun _=>Q.out⟩,In⟩
         ·go_wp2;go_roundw;case rel=>first|exact⟨j+1,z,bM,h5⟩|exact⟨j+1,z,bM,rfl⟩|((repeat apply Exists.intro);refine⟨?_,rfl⟩;exact⟨j+1,z,bM,rfl⟩)
          case measure=>simp[RowKit.intOf];omega
        ·go_wp2;go_ret2
         exact⟨⟨_,_,rfl,fun _=>Q.out⟩,In⟩
end Go.bj.N
namespace Go.bj.N
open Go Go.Proofs Go.c0
def akj(k:Nat)(c:UInt8):Bool:=(Nat.ble 97 c.toNat&&Nat.ble c.toNat 122)||(Nat.ble 65 c.toNat&&Nat.ble c.toNat 90)||(Nat.blt 0 k&&(Nat.beq c.toNat 95||(Nat.ble 48 c.toNat&&Nat.ble c.toNat 57)))
def Ek(s:ByteArray):Bool:=Nat.ble 1 s.size&&Nat.ble s.size 20&&(s.data.toList.zipIdx.all fun p=>akj p.2 p.1)
theorem adV(s:ByteArray)(k:Nat)(a:k<s.size):s.data.toList[k]? =some s[k]:=by
 rw[ln (by rw[ji];exact a)];rfl
theorem XL{s:ByteArray}(h:Ek s=true):sH s:=by
 simp only[Ek,dz]at h;obtain⟨⟨H,I⟩,b⟩:=h;refine⟨gP H,gP I,fun k a=>?_⟩;have c:(s[k],k)∈s.data.toList.zipIdx:=RP.2 (adV s k a);have:=hs.1 b _ c;simp only[akj,ML,dz,HZ,Nat.beq_eq,Nat.blt_eq]at this;omega
def X7(s:ByteArray):Bool:=Nat.ble s.size 60&&(s.data.toList.all fun c=>Nat.ble 32 c.toNat&&Nat.ble c.toNat 126)&&Nat.beq (s.data.toList.count 39) 0
theorem az'{s:ByteArray}(h:X7 s=true):acR s:=by
 simp only[X7,dz]at h;obtain⟨⟨H,I⟩,b⟩:=h;refine⟨gP H,fun k a=>?_,gV b⟩;have:=hs.1 I s[k] (Aw (adV s k a));simp only[dz,HZ]at this;omega
def BL(k:Nat):Bool:=Nat.ble 1 k&&Nat.ble k 5
def FS(a b:ByteArray):Bool:=a.data.toList.map UInt8.toNat==b.data.toList.map UInt8.toNat
theorem ark{a b:ByteArray}(h:FS a b=false):a≠b:=fun e=>by
 subst e
 simp[FS]at h
def JS:List (ByteArray×Nat)->Bool
 |[]=>true
 |c::l=>l.all (fun d=> !FS c.1 d.1)&&JS l
theorem Um:∀{l:List (ByteArray×Nat)},JS l=true->∀i j (hi:i<l.length) (a:j<l.length),i<j->l[i].1≠l[j].1
 |[],_,i,_,hi,_,_=>by simp at hi
 |c::l,h,i,j,hi,a,d=>by
  simp only[JS,dz]at h
  cases j with
  |zero=>omega
  |succ j=>
   cases i with
   |zero=>
    have b:j<l.length:=by simpa using a
    have:=hs.1 h.1 l[j] (fM b)
    exact ark (by simpa using this)
   |succ i=>exact Um h.2 i j (by simpa using hi) (by simpa using a) z
def Yy(r q:bA):Bool:=Nat.beq r.h q.h&&FS r.op q.op&&FS r.aF q.aF&&(r.args==q.args)
theorem aBH{r q:bA}(h:Yy r q=false):Ie r q:=by
 by_cases H:r.h=q.h
 ·by_cases I:r.op=q.op
  ·by_cases b:r.aF=q.aF
   ·by_cases a:r.args=q.args
    ·exfalso;simp[Yy,H,I,b,a,FS]at h
    ·exact .inr (.inr (.inr a))
   ·exact .inr (.inr (.inl b))
  ·exact .inr (.inl I)
 ·exact .inl H
def Ot:List bA->Bool
 |[]=>true
 |r::l=>l.all (fun q=> !Yy r q)&&Ot l
theorem aeP:∀{l:List bA},Ot l=true->l.Pairwise Ie
 |[],_=>List.Pairwise.nil
 |r::l,h=>by
  simp only[Ot,dz]at h
  exact List.Pairwise.cons (fun q a=>aBH (by have:=hs.1 h.1 q a;simpa using this)) (aeP h.2)
def alS(b:Nat)(r:bA):Bool:=Ek r.op&&X7 r.aF&&Nat.ble r.args.length 3&&r.args.all (fun a=>Nat.blt a b)&&Nat.blt r.h b
def YT(S:cO):Bool:=Nat.blt S.cZ 100&&Ek S.bo&&S.bs.all (fun c=>Ek c.1&&BL c.2)&&JS S.bs&&S.aB.all (fun c=>Ek c.1&&BL c.2)&&JS S.aB&&S.c8.all (alS S.aB.length)&&Ot S.c8
theorem aCH{S:cO}(h:YT S=true):C0 S:=by
 simp only[YT,dz]at h;obtain⟨⟨⟨⟨⟨⟨⟨H,I⟩,k⟩,i⟩,n⟩,u⟩,t⟩,s⟩:=h;have b:∀{l:List (ByteArray×Nat)},l.all (fun c=>Ek c.1&&BL c.2)=true->∀c∈l,sH c.1/\1<=c.2/\c.2<=5:=fun e c d=>by have:=hs.1 e c d;simp only[BL,dz,HZ]at this;exact⟨XL this.1,this.2.1,this.2.2⟩
 refine⟨by simpa using H,XL I,b k,Um i,b n,Um u,fun r f=>?_,aeP s⟩;have:=hs.1 t r f;simp only[alS,dz,HZ,Nat.blt_eq]at this;obtain⟨⟨⟨⟨j,o⟩,m⟩,p⟩,q⟩:=this;exact⟨XL j,az' o,m,fun a g=>by have:=hs.1 p a g;simpa using this,q⟩
def aC3(S:cO):Bool:=sn S.c8 S.aj||He S.c8 S.aj
def aCC(S:cO):Bool:=Nat.ble S.c8.length 9
def amd(p:cO->Bool):Bool:=p l5&&p l6&&p lN&&p nd&&p kD&&p ml
theorem Q1{p:cO->Bool}(h:amd p=true)(n:Nat):p (cn n)=true:=by
 simp only[amd,dz]at h;obtain⟨⟨⟨⟨⟨ab,H⟩,I⟩,b⟩,a⟩,c⟩:=h;unfold cn;split
 ·exact ab
 split
 ·exact H
 split
 ·exact I
 split
 ·exact b
 split
 ·exact a
 ·exact c
theorem amg(n:Nat):C0 (cn n):=aCH (Q1 (p:=YT) au n)
theorem aCA(n:Nat):Hu (cn n).bD (cn n).c8 (cn n).aj (cn n).aB.length=true:=Q1 (p:=fun S=>Hu S.bD S.c8 S.aj S.aB.length) au n
theorem aCy(n:Nat):(cn n).c8.length<=9:=gP (Q1 (p:=aCC) au n)
theorem aCB(n:Nat)(M:Nat->Nat)(I:2<=M (cn n).aj):wb (cn n).c8 M (cn n).aj:=by
 have h:=Q1 (p:=aC3) au n;rcases anp.1 h with h|h
 ·exact .inl (PW h)
 ·exact .inr ⟨I,akQ h⟩
end Go.bj.N
namespace Go.bj.N
open Go Go.Proofs.Tryz Go.Proofs Go.RowKit Go.c0
open Go.aI (k7 sK ef tE pT QS)
theorem aCz(n:Nat):6<=(cn n).c8.length:=by
 unfold cn;split
 ·decide
 split
 ·decide
 split
 ·decide
 split
 ·decide
 split
 ·decide
 ·decide
theorem ar5(S:cO)(b:qb S)(w:World)(M:Nat->Nat)(rs:List bA)(t:0<rs.length)(j:rs.Sublist S.c8)(ca g ra:Option Addr)(cc i rc:Nat)(h:iM w ca S.bs)(s:zb w g S.aB M)(q:y' w ra rs):
  Calls prog 17 #[.agg #[.string S.bo,.int .i64 S.cZ,.slice ca S.bs.length cc,.slice g S.aB.length i,.slice ra rs.length rc,.int .i64 S.aj]] w fun e w'=>(∃k l ej f c d,e=.returned (.agg #[.string S.bo,.int .i64 S.cZ,.slice k S.bs.length l,.slice (some ⟨ej,0,none⟩) S.aB.length f,.slice (some ⟨c,0,none⟩) rs.length d,.int .i64 S.aj])/\hb S M rs w.heap.size w' k l ej f c d)/\Below w.heap.size w w':=
 (JK S b w M rs (db j.length_le b.c8) (fun r m=>(b.Ab r (j.subset m)).2.1) ca g ra cc i rc h s.at q.at).mono fun e w' ⟨⟨y,z,x,u,o,h⟩,A⟩=>⟨by
  obtain⟨ca,cc,ej,f,c,d,rfl,rfl,rfl,p⟩:=h.nx b t
  exact⟨ca,cc,ej,f,c,d,o,p⟩,A⟩
structure vX (w:World) (a:Option Addr) (n gB:Nat) (F:Array Value) (wr:World):Prop where
 b:Below w.heap.size w wr
 q:wr.heap[w.heap.size]? =some (.cells #[.string ⟨#[]⟩,.int .i64 0,.slice none 0 0,.slice none 0 0,.slice none 0 0,.int .i64 0] 29 (0,0))
 m:∃c b0:Nat,wr.heap[w.heap.size+1]? =some (.cells #[.slice a n c,.int .i64 b0] 57 (0,0))
 g:wr.heap[gB]? =some (.cells F 29 (0,0))
 Kb:w.heap.size+2<=gB
section
variable {w wr w':World} {a:Option Addr} {n gB:Nat} {F:Array Value}
theorem vX.U(h:vX w a n gB F wr)(A:Below wr.heap.size wr w'):vX w a n gB F w':=by
 obtain⟨c,d,b⟩:=h.m;exact⟨b_ h.b A,by rw[A.block _ (cX h.q)];exact h.q,⟨c,d,by rw[A.block _ (cX b)];exact b⟩,by rw[A.block _ (cX h.g)];exact h.g,h.Kb⟩
theorem vX.num(h:vX w a n gB F wr)(d:k7 w a n)(f:∀q,a=some q->0<n->q.block<w.heap.size):ef wr (w.heap.size+1) a n:=by
 obtain⟨c,m,k⟩:=h.m;refine⟨c,m,k,?_,fun q l ab e=>?_⟩
 ·rcases d with d|⟨b,o,rfl,g⟩
  ·exact .inl d
  ·exact .inr ⟨b,o,rfl,fun i hi=>by obtain⟨x,j⟩:=g i hi;have r:b<w.heap.size:=f _ rfl z;exact⟨x,by rw[h.b.cell r];exact j⟩⟩
 ·have:=f q l ab;omega
theorem vX.next(h:vX w a n gB F wr){N:Int}{e:Ending}(d:tE wr (w.heap.size+1) a n N e w'):vX w a n gB F w'/\im wr w':=by
 obtain⟨br,o,m⟩:=h.m;refine⟨?_,im.next m d⟩;obtain⟨_,⟨c,i,f,_⟩,g,b,j,ah,ag⟩:=d;have:=h.Kb;exact⟨⟨j.trans h.b.os,ah.trans h.b.tape,ag.trans h.b.output,by rw[g];exact h.b.size,fun k l=>by rw[b _ z];exact h.b.block k l⟩,by rw[b _ z];exact h.q,⟨c,i,f⟩,by rw[b _ z];exact h.g,h.Kb⟩
end
structure y5 (w:World) (a:Option Addr) (n:Nat) (wr:World):Prop where
 b:Below w.heap.size w wr
 q:wr.heap[w.heap.size]? =some (.cells #[.string ⟨#[]⟩,.int .i64 0,.slice none 0 0,.slice none 0 0,.slice none 0 0,.int .i64 0] 29 (0,0))
 m:∃c b0:Nat,wr.heap[w.heap.size+1]? =some (.cells #[.slice a n c,.int .i64 b0] 57 (0,0))
theorem y5.U{w wr w':World}{a:Option Addr}{n:Nat}(h:y5 w a n wr)(A:Below wr.heap.size wr w'):y5 w a n w':=by
 obtain⟨c,d,b⟩:=h.m;exact⟨b_ h.b A,by rw[A.block _ (cX h.q)];exact h.q,⟨c,d,by rw[A.block _ (cX b)];exact b⟩⟩
theorem y5.next{w wr w':World}{a:Option Addr}{n:Nat}(h:y5 w a n wr){N:Int}{e:Ending}(d:tE wr (w.heap.size+1) a n N e w'):y5 w a n w':=by
 obtain⟨_,⟨c,i,f,_⟩,g,b,j,ah,ag⟩:=d;exact⟨⟨j.trans h.b.os,ah.trans h.b.tape,ag.trans h.b.output,by rw[g];exact h.b.size,fun k l=>by rw[b _ z];exact h.b.block k l⟩,by rw[b _ z];exact h.q,⟨c,i,f⟩⟩
theorem y5.to{w wr:World}{a:Option Addr}{n:Nat}(h:y5 w a n wr)(F:Array Value):vX w a n wr.heap.size F (wr.alloc (.cells F 29)):=by
 have H:=h.U ((bi _ _).alloc (aZ _) (.cells F 29));obtain⟨c,d,b⟩:=h.m;have:=cX b;exact⟨H.b,H.q,H.m,da _ _,z⟩
def FJ:Array Value:=#[.string ⟨#[]⟩,.int .i64 0,.slice none 0 0,.slice none 0 0,.slice none 0 0,.int .i64 0]
def NI(S:cO)(w:World)(a:Option Addr)(n gB k:Nat)(wr:World):Prop:=
 ∃F M rs,vX w a n gB F wr/\vN S M rs wr F/\(∀i,1<=M i/\M i<=5)/\rs.Sublist S.c8/\S.c8.length<=rs.length+k/\wb rs M S.aj
def Fv(S:cO)(k g:Nat)(b c:World):Prop:=
 Below b.heap.size b c/\∃(M:Nat->Nat) (rs:List bA) (ca:Option Addr) (cc ej f d e:Nat),c.heap[g]? =some (.cells #[.string S.bo,.int .i64 S.cZ,.slice ca S.bs.length cc,.slice (some ⟨ej,0,none⟩) S.aB.length f,.slice (some ⟨d,0,none⟩) rs.length e,.int .i64 S.aj] 29 (0,0))/\hb S M rs b.heap.size c ca cc ej f d e/\(∀i,1<=M i/\M i<=5)/\rs.Sublist S.c8/\S.c8.length<=rs.length+(k+1)
def apX(w':World)(e:Ending):Prop:=∃(s:Nat) (M:Nat->Nat) (rs:List bA) (F:Array Value),e=.returned (.agg F)/\vN (cn s) M rs w' F/\(∀i,1<=M i/\M i<=5)/\rs.Sublist (cn s).c8/\0<rs.length/\wb rs M (cn s).aj
theorem Fv.drew{S:cO}{k c:Nat}{b W:World}(h:Fv S k c b W):Fv S k c b W.drew:=by
 obtain⟨H,M,rs,ca,cc,ej,i,f,g,I,e,d⟩:=h;exact⟨H.drew,M,rs,ca,cc,ej,i,f,g,I,e.hC (im.U (lK W)),d⟩
theorem aij{w:World}{b:Nat}{z0 h j z3 z4 z5:Value}(A:w.heap[b]? =some (.cells #[z0,h,j,z3,z4,z5] 29 (0,0)))(a0 bO cu a3 a4 a5:Value): im w ((((((w.setCell ⟨b,0,none⟩ a0).setCell ⟨b,1,none⟩ bO).setCell ⟨b,2,none⟩ cu).setCell ⟨b,3,none⟩ a3).setCell ⟨b,4,none⟩ a4).setCell ⟨b,5,none⟩ a5)/\((((((w.setCell ⟨b,0,none⟩ a0).setCell ⟨b,1,none⟩ bO).setCell ⟨b,2,none⟩ cu).setCell ⟨b,3,none⟩ a3).setCell ⟨b,4,none⟩ a4).setCell ⟨b,5,none⟩ a5).heap[b]? =some (.cells #[a0,bO,cu,a3,a4,a5] 29 (0,0)):=by
 have d:=hS (i:=0) A a0;have c:=hS (i:=1) d bO;have co:=hS (i:=2) c cu;have e:=hS (i:=3) co a3;have f:=hS (i:=4) e a4;have g:=hS (i:=5) f a5;have ah:¬C3 29:=by unfold C3;decide
 exact⟨(((((im.set A ah 0 a0).trans (im.set d ah 1 bO)).trans (im.set c ah 2 cu)).trans (im.set co ah 3 a3)).trans (im.set e ah 4 a4)).trans (im.set f ah 5 a5),g⟩
theorem agU{w:World}{b x:Nat}(c:x≠b)(a0 bO cu a3 a4 a5:Value):((((((w.setCell ⟨b,0,none⟩ a0).setCell ⟨b,1,none⟩ bO).setCell ⟨b,2,none⟩ cu).setCell ⟨b,3,none⟩ a3).setCell ⟨b,4,none⟩ a4).setCell ⟨b,5,none⟩ a5).heap[x]? =w.heap[x]? :=by
 rw[hm _ _ _ _ c,hm _ _ _ _ c,hm _ _ _ _ c,hm _ _ _ _ c,hm _ _ _ _ c,hm _ _ _ _ c]
theorem ayB{S:cO}{w w7:World}{a:Option Addr}{n gB k:Nat}{z0 j m z3 z4 z5 a0 bO cu a3 a4 a5:Value}(h:vX w a n gB #[z0,j,m,z3,z4,z5] w7){M:Nat->Nat}{rs:List bA}(g:vN S M rs w7 #[a0,bO,cu,a3,a4,a5])(q:∀i,1<=M i/\M i<=5)(o:rs.Sublist S.c8)(l:S.c8.length<=rs.length+k)(b:wb rs M S.aj): NI S w a n gB k ((((((w7.setCell ⟨gB,0,none⟩ a0).setCell ⟨gB,1,none⟩ bO).setCell ⟨gB,2,none⟩ cu).setCell ⟨gB,3,none⟩ a3).setCell ⟨gB,4,none⟩ a4).setCell ⟨gB,5,none⟩ a5):=by
 obtain⟨d,A⟩:=aij h.g a0 bO cu a3 a4 a5;obtain⟨c,f,e⟩:=h.m;have r:=h.Kb;exact⟨_,M,rs,⟨Tv h.b z a0 bO cu a3 a4 a5,by rw[agU z];exact h.q,⟨c,f,by rw[agU z];exact e⟩,A,h.Kb⟩,g.hC d,q,o,l,b⟩
theorem ako{S:cO}{k d:Nat}{f W:World}{M:Nat->Nat}{rs:List bA}{ca:Option Addr}{cc ej g b c:Nat}(u:Below f.heap.size f W)(h:W.heap[d]? =some (.cells #[.string S.bo,.int .i64 S.cZ,.slice ca S.bs.length cc,.slice (some ⟨ej,0,none⟩) S.aB.length g,.slice (some ⟨b,0,none⟩) rs.length c,.int .i64 S.aj] 29 (0,0)))(q:f.heap.size<=d)(o:hb S M rs f.heap.size W ca cc ej g b c){arr:Array Value}(j:W.heap[b]? =some (Obj.cells arr 86 (0,0)))(r:arr.size=c*4){t m:Nat}(ah:t<rs.length)(x:m=rs.length-1)(z:∀i,1<=M i/\M i<=5)(y:rs.Sublist S.c8)(A:S.c8.length<=rs.length+k): Fv S k d f ((W.setCells b (t*4) (nf arr t rs.length)).setCell ⟨d,4,none⟩ (.slice (some ⟨b,0,none⟩) m c)):=by
 have p:(rs.eraseIdx t).length=rs.length-1:=by rw[anI,cv ah]
 have s:d≠b:=fun e=>by rw[e,j]at h;cases h
 have l:(W.setCells b (t*4) (nf arr t rs.length)).heap[d]? =some (.cells #[.string S.bo,.int .i64 S.cZ,.slice ca S.bs.length cc,.slice (some ⟨ej,0,none⟩) S.aB.length g,.slice (some ⟨b,0,none⟩) rs.length c,.int .i64 S.aj] 29 (0,0)):=by rw[anu _ _ _ _ (cX h) s];exact h
 refine⟨(adP o.rb _ _ u).setCell q _,M,rs.eraseIdx t,ca,cc,ej,g,b,c,?_,(o.atg j r t ah).hC (im.set l (by unfold C3;decide) 4 _),z,(List.eraseIdx_sublist ..).trans y,by rw[p];omega⟩;rw[p,←x];exact hS l _
theorem akp{S:cO}{k g:Nat}{b W:World}{M:Nat->Nat}{rs:List bA}{ca:Option Addr}{cc ej j d f:Nat}(s:Below b.heap.size b W)(l:W.heap[g]? =some (.cells #[.string S.bo,.int .i64 S.cZ,.slice ca S.bs.length cc,.slice (some ⟨ej,0,none⟩) S.aB.length j,.slice (some ⟨d,0,none⟩) rs.length f,.int .i64 S.aj] 29 (0,0)))(c:hb S M rs b.heap.size W ca cc ej j d f){t:Nat}(ah:t<S.aB.length){m:Nat}(q:1<=m/\m<=5)(x:∀i,1<=M i/\M i<=5)(u:rs.Sublist S.c8)(y:S.c8.length<=rs.length+k): Fv S k g b (W.setCell ⟨ej,t*3+2,none⟩ (.int .i64 m)):=by
 obtain⟨arr,o⟩:=c.bX;have r:g≠ej:=fun e=>by rw[e,o]at l;cases l
 refine⟨s.setCell c.bJ _,_,rs,ca,cc,ej,j,d,f,by rw[hm _ _ _ _ r];exact l,c.aB0 t m ah,fun i=>?_,u,z⟩;by_cases e:i=t
 ·simp only[e,sA];exact q
 ·simp only[e,oV];exact x i
theorem amn{S:cO}{M:Nat->Nat}{rs:List bA}{base:Nat}{w:World}{ca:Option Addr}{cc ej k b d:Nat}(h:hb S M rs base w ca cc ej k b d){arr:Array Value}(c:w.heap[b]? =some (Obj.cells arr 86 (0,0)))(i:arr.size=d*4){n:Nat}(g:n<rs.length):∀j,j<(nf arr n rs.length).length->(w.cell? ⟨b,0+n*4+j,none⟩).isSome=true/\w.frozen? ⟨b,0+n*4+j,none⟩=false:=fun j f=>by
 rw[EM h i g]at f
 obtain⟨u,hu,_⟩:=h.cell c (n*4+j) z
 refine⟨?_,by simp[World.frozen?,c]⟩
 have e:w.cell? ⟨b,0+n*4+j,none⟩=some u:=by rw[gm];simp only[World.cell?,c];exact hu
 rw[e];rfl
theorem ayf(w:World)(a:Option Addr)(n c:Nat)(e4:13<=w.heap.size)(ad:k7 w a n)(ax:∀q,a=some q->0<n->q.block<w.heap.size)(an:n<=maxLen): Calls prog 5 #[.slice a n c] w fun e w'=>apX w' e/\Below w.heap.size w w':=by
 obtain⟨PJ,Pd,kK,jP,nv⟩:=jt ah3;go_enter func5,ntmps5;go_upto_region 2 with fail
 have DC:y5 w a n ((w.alloc (.cells FJ 29)).alloc (.cells #[.slice a n c,.int .i64 0] 57)):=by
  have cy:=jC w (.cells FJ 29);refine⟨(((bi _ _).alloc (aZ _) _).alloc am _),?_,⟨c,0,?_⟩⟩
  ·rw[wB _ _ z];exact da _ _
  ·rw[←cy];exact da _ _
 have wt:ef ((w.alloc (.cells FJ 29)).alloc (.cells #[.slice a n c,.int .i64 0] 57)) (w.heap.size+1) a n:=by
  have cy:=jC w (.cells FJ 29);have A:Below w.heap.size w ((w.alloc (.cells FJ 29)).alloc (.cells #[.slice a n c,.int .i64 0] 57)):=((bi _ _).alloc (aZ _) _).alloc am _;refine⟨c,0,by rw[←cy];exact da _ _,?_,fun q az ab e=>?_⟩
  ·rcases ad with ad|⟨b,o,rfl,aF⟩
   ·exact .inl ad
   ·exact .inr ⟨b,o,rfl,fun i hi=>by obtain⟨x,aG⟩:=aF i hi;have iq:b<w.heap.size:=ax _ rfl z;exact⟨x,by rw[A.cell iq];exact aG⟩⟩
  ·have:=ax q az ab;omega
 unfold FJ at DC wt;have z0:((w.alloc (.cells #[.string ⟨#[]⟩,.int .i64 0,.slice none 0 0,.slice none 0 0,.slice none 0 0,.int .i64 0] 29)).alloc (.cells #[.slice a n c,.int .i64 0] 57)).heap.size=w.heap.size+2:=am;generalize ((w.alloc (.cells #[.string ⟨#[]⟩,.int .i64 0,.slice none 0 0,.slice none 0 0,.slice none 0 0,.int .i64 0] 29)).alloc (.cells #[.slice a n c,.int .i64 0] 57))=jh at DC wt z0⊢;have ae:=G DC;have Ip:=G wt;have es:=G ad;clear DC wt ad;go_upto_block 0 with(first
  |(go_at_call 16;refine(pT _ (w.heap.size+1) a n 6 ai ai an Ip.out).mono ?_;rintro e L D_;have ag:=G (ae.out.next D_);obtain⟨⟨r,nB,bc,rfl⟩,D_⟩:=D_;obtain⟨s,rfl⟩:∃s:Nat,r=(s:Int):=⟨r.toNat,z⟩;have K8:s<6:=z;clear D_)
  |(go_at_call 15;refine(aBM s K8 _).mono ?_;rintro e C ⟨rfl,bt⟩)
  |(go_at_call 10;refine(aAh s _).mono ?_;rintro e a' ⟨⟨F,x,y,M,rfl,g,S,au⟩,bC⟩;obtain⟨ca,cc,U,X,ra,rc,rfl,tX,Kr,Kp,OQ⟩:=S))
 have OS:NI (cn s) w a n a'.heap.size 0 (a'.alloc (.cells #[.string (cn s).bo,.int .i64 (cn s).cZ,.slice ca (cn s).bs.length cc,.slice U (cn s).aB.length X,.slice ra (cn s).c8.length rc,.int .i64 (cn s).aj] 29)):=
  ⟨_,M,(cn s).c8,((ag.out.U bt).U bC).to _,vN.hC ⟨_,_,_,_,_,_,rfl,tX,Kr,Kp,OQ⟩ (im.U ((bi _ _).alloc (aZ _) _)),g,List.Sublist.refl _,aZ _,aCB s M au⟩
 have K:=Ml s;have gJ:=aEB s;have xJ:=G (amg s);have ay:=G (aCA s);have bc:=aCz s;clear tX Kr Kp bt bC ag ae Ip g z0 au OQ;generalize (a'.alloc (.cells #[.string (cn s).bo,.int .i64 (cn s).cZ,.slice ca (cn s).bs.length cc,.slice U (cn s).aB.length X,.slice ra (cn s).c8.length rc,.int .i64 (cn s).aj] 29))=bm at OS⊢;generalize a'.heap.size=gB at OS⊢
 go_wp2_with fail;go_loopw [7] (fun i wr=>∃k:Nat,k<=3/\i=.int .i64 k/\NI (cn s) w a n gB k wr) (fun i _=>3-(RowKit.intOf i).toNat);case atStart=>exact⟨0,z,rfl,OS⟩
 case round=>
  clear OS;obtain⟨k,bf,rfl,F,M,rs,B,S,g,Q,dh,DG⟩:=hrel;have aj:=G DG;have aO:=G S;clear DG aO;have aS:=S;obtain⟨ca,cc,U,X,ra,rc,rfl,tX,Kr,Kp,OQ⟩:=aS;clear OQ;by_cases aq:k<3
  ·have mj:(k:Int)<3:=z;have nB:0<rs.length:=z;have Ny:=G B;have cd:=G S;clear B S tX Kr Kp;go_upto_block 2 with(first
    |(have aW:=a_;go_at_call 17;refine(ar5 (cn s) K J M rs nB Q ca U ra cc X rc Nq.out.1 Nq.out.2.1 Nq.out.2.2).mono ?_;rintro e L ⟨⟨Z,iU,ej,Y,d,l,rfl,aw⟩,ba⟩)
    |(have aW:=K4;go_at_call 16;refine(pT _ (w.heap.size+1) a n 40 ai ai an (Nw.out.num es.out ax)).mono ?_;rintro e J zK;have Nx:=G (Nw.out.next zK).1;have qO:=G (xb.out.hC (Nw.out.next zK).2);obtain⟨⟨aE,a_,bk,rfl⟩,zK⟩:=zK;clear zK;obtain⟨E,rfl⟩:∃q:Nat,aE=(q:Int):=⟨aE.toNat,z⟩;have Nq:Hid (iM J ca (cn s).bs/\zb J U (cn s).aB M/\y' J ra rs):=(by obtain⟨k',la,bo,br,kB,kC,aL,H,I,af,_⟩:=qO.out;cases aL;exact G ⟨H,I,af⟩);obtain⟨hX,et,fA,hL,lV,np⟩:=fZ Nx.out.g)
    |(go_at_call 16;refine(pT _ (w.heap.size+1) a n 4 ai ai an (Ny.out.num es.out ax)).mono ?_;rintro e ap lJ;have Nw:=G (Ny.out.next lJ).1;have xb:=G (cd.out.hC (Ny.out.next lJ).2);obtain⟨⟨jX,K4,aY,rfl⟩,lJ⟩:=lJ;clear lJ;obtain⟨kA,rfl⟩:∃q:Nat,jX=(q:Int):=⟨jX.toNat,z⟩))
   have H6:Below L.heap.size L (L.alloc (.cells #[.string (cn s).bo,.int .i64 (cn s).cZ,.slice Z (cn s).bs.length iU,.slice (some ⟨ej,0,none⟩) (cn s).aB.length Y,.slice (some ⟨d,0,none⟩) rs.length l,.int .i64 (cn s).aj] 29)):=(bi _ _).alloc (aZ _) _;have D:=aw.hC (im.U H6);have V:Below J.heap.size J (L.alloc (.cells #[.string (cn s).bo,.int .i64 (cn s).cZ,.slice Z (cn s).bs.length iU,.slice (some ⟨ej,0,none⟩) (cn s).aB.length Y,.slice (some ⟨d,0,none⟩) rs.length l,.int .i64 (cn s).aj] 29)):=b_ ba H6;have m:(L.alloc (.cells #[.string (cn s).bo,.int .i64 (cn s).cZ,.slice Z (cn s).bs.length iU,.slice (some ⟨ej,0,none⟩) (cn s).aB.length Y,.slice (some ⟨d,0,none⟩) rs.length l,.int .i64 (cn s).aj] 29)).heap[L.heap.size]? =some (.cells #[.string (cn s).bo,.int .i64 (cn s).cZ,.slice Z (cn s).bs.length iU,.slice (some ⟨ej,0,none⟩) (cn s).aB.length Y,.slice (some ⟨d,0,none⟩) rs.length l,.int .i64 (cn s).aj] 29 (0,0)):=da _ _;have KZ:J.heap.size<=L.heap.size:=ba.size;have aT:13<=J.heap.size:=by have:=Nx.out.b.size;omega
   clear aw ba H6 Nw xb Ny cd K4 aY hX et fA hL lV np Nq;generalize (L.alloc (.cells #[.string (cn s).bo,.int .i64 (cn s).cZ,.slice Z (cn s).bs.length iU,.slice (some ⟨ej,0,none⟩) (cn s).aB.length Y,.slice (some ⟨d,0,none⟩) rs.length l,.int .i64 (cn s).aj] 29))=C at D V m⊢;generalize L.heap.size=f at m KZ⊢;go_cut [] (fun c9=>Fv (cn s) k f J c9);case first=>
    obtain⟨-,-,-,bv,cT⟩:=aew m;have z4:C.frozen? ⟨f,4,none⟩=false:=by simp[World.frozen?,m]
    have zB:=cX m;by_cases ce:kA=1
    ·subst ce;have zD:((rs.length:Int)==0)=false:=by rw[l8];omega
     go_upto_region 12 with fail
     rw[show(E:Int)%(rs.length:Int)=((E%rs.length:Nat):Int)from rfl];have ah:=w2 E nB;generalize E%rs.length=t at ah⊢;obtain⟨arr,aB,P⟩:=D.fu;have kj:=D.rl;have O:=G (D.hC (im.U (lK C)));have R:Hid (C.drew.heap[d]? =some (Obj.cells arr 86 (0,0))):=G aB;have bl:rs.length<=40:=db Q.length_le K.c8;have ek:(0:Int)<=(t:Int):=z;have cM:(t:Int)<=(l:Int):=z;have t3:(t:Int)+1<=(rs.length:Int):=z;have t4:(t:Int)+1<=(l:Int):=z;have t5:IntKind.i64.wrap ((t:Int)+1)=(t:Int)+1:=oQ _ ⟨z,z⟩;have n8:(rs.length:Int)<=(l:Int):=z;have ZP:(0:Int)<=(t:Int)+1:=z;have bg:(t:Int)<=(t:Int)+1:=z;have t9:t<=t+1:=z;clear aB;have aD:f≠d:=fun e=>by rw[e]at m;have:=R.out;rw[show C.drew.heap[d]? =C.heap[d]? from rfl,m]at this;cases this
     by_cases jc:l=t+1
     ·subst jc
      go_region_law (first|(refine step_append_room (by rfl) _ _ _ (by rfl) 86 PJ 4 underlying27 Pd jP d 0 t (t+1) (by rfl) ⟨d,0,none⟩ 0 0 (nf arr t rs.length) (by rfl) (by rw[EM O.out P ah];omega) (fun j u aa=>by have ab:=EM O.out P ah;have H:=(j2.1 aa).1;omega) (amT O.out R.out P ah) z (amn O.out R.out P ah) ?_;have GY:(C.drew.setCells d (t*4) (nf arr t rs.length)).cell? ⟨f,4,none⟩=some (.slice (some ⟨d,0,none⟩) rs.length (t+1)):=(by rw[aa0 _ _ _ _ _ (fun e _=>absurd e aD)];exact cT);have z9:(C.drew.setCells d (t*4) (nf arr t rs.length)).frozen? ⟨f,4,none⟩=false:=(by rw[ant];exact z4)))
      all_goals(
       go_wp2_with fail
       go_meet
       exact ako V.drew m KZ O.out R.out P ah z g Q dh)
     ·go_region_law (first|(refine step_append_room (by rfl) _ _ _ (by rfl) 86 PJ 4 underlying27 Pd jP d 0 t (l) (by rfl) ⟨d,(t+1)*4,none⟩ (rs.length-(t+1)) (l-(t+1)) (nf arr t rs.length) (by rfl) (by rw[EM O.out P ah];omega) (aDr O.out R.out P ah) (amT O.out R.out P ah) z (amn O.out R.out P ah) ?_;have GY:(C.drew.setCells d (t*4) (nf arr t rs.length)).cell? ⟨f,4,none⟩=some (.slice (some ⟨d,0,none⟩) rs.length (l)):=(by rw[aa0 _ _ _ _ _ (fun e _=>absurd e aD)];exact cT);have z9:(C.drew.setCells d (t*4) (nf arr t rs.length)).frozen? ⟨f,4,none⟩=false:=(by rw[ant];exact z4)))
      all_goals(
       go_wp2_with fail
       go_meet
       exact ako V.drew m KZ O.out R.out P ah z g Q dh)
    by_cases eb:kA=2
    ·subst eb;have be:=K.vB;have zD:(((cn s).aB.length:Int)==0)=false:=by rw[l8];omega
     go_upto_region 15 with fail
     rw[show(E:Int)%((cn s).aB.length:Int)=((E%(cn s).aB.length:Nat):Int)from rfl];have ah:=w2 E K.vB;generalize E%(cn s).aB.length=t at ah⊢;have rf:=K.aB;obtain⟨aH,Wx⟩:=D.bX;obtain⟨aK,aN,sg,_,kk⟩:=D.s;cases sg;have bb:=(kk t ah).2.2;simp only[gm]at bb;have dB:C.frozen? ⟨ej,t*3+2,none⟩=false:=by simp[World.frozen?,Wx]
     have gh:=(g t).1;have aI:=(g t).2;have ek:(0:Int)<=(t:Int):=z;have cM:(t:Int)<((cn s).aB.length:Int):=z;have t3:(t:Int)<=1000:=z;have t4:(M t:Int)<=5:=z;have t5:(1:Int)<=(M t:Int):=z;clear kk
     go_region
     all_goals(
      go_wp2_with fail
      go_meet
      rw[show max (1:Int) ((M t:Int)-1)=((max 1 (M t-1):Nat):Int) by omega]
      exact(akp V m D ah z g Q dh).drew)
    by_cases eV:kA=3
    ·subst eV;have be:=K.vB;have zD:(((cn s).aB.length:Int)==0)=false:=by rw[l8];omega
     go_upto_region 18 with fail
     rw[show(E:Int)%((cn s).aB.length:Int)=((E%(cn s).aB.length:Nat):Int)from rfl];have ah:=w2 E K.vB;generalize E%(cn s).aB.length=t at ah⊢;have rf:=K.aB;obtain⟨aH,Wx⟩:=D.bX;obtain⟨aK,aN,sg,_,kk⟩:=D.s;cases sg;have bb:=(kk t ah).2.2;simp only[gm]at bb;have dB:C.frozen? ⟨ej,t*3+2,none⟩=false:=by simp[World.frozen?,Wx]
     have gh:=(g t).1;have aI:=(g t).2;have ek:(0:Int)<=(t:Int):=z;have cM:(t:Int)<((cn s).aB.length:Int):=z;have t3:(t:Int)<=1000:=z;have t4:(M t:Int)<=5:=z;have t5:(1:Int)<=(M t:Int):=z;clear kk
     go_region
     all_goals(
      go_wp2_with fail
      go_meet
      rw[show min (5:Int) ((M t:Int)+1)=((min 5 (M t+1):Nat):Int) by omega]
      exact(akp V m D ah z g Q dh).drew)
    have g4:((kA:Int)==1)=false:=bu;have gx:((kA:Int)==2)=false:=bu;have i3:((kA:Int)==3)=false:=bu
    go_wp2_with fail;go_meet;exact⟨V,M,rs,Z,iU,ej,Y,d,l,m,D,g,Q,z⟩
   case rest=>
    obtain⟨hT,xh,T,N_,Oc,YK,Q0,Yo,QO,Po,DD,al,WA,aU⟩:=hcut;clear D V m;obtain⟨ab,H,I,af,aM,bZ⟩:=fZ Po;have bj:13<=wc.heap.size:=db aT hT.size;have CN:=G DD;obtain⟨aP,aA⟩:∃bD:Nat->Nat->Nat,xk bD T/\∀j,j<=xh (cn s).aj->bD (cn s).aj j≠0->wb T xh (cn s).aj:=⟨_,ase K.need ay.out WA,fun j H I=>aC4 ay.out H I⟩;have ak:=G aA;clear DD aA
    go_wp2
    go_region_held3 (fun W=>W.cell? ⟨f,0,none⟩=some (.string (cn s).bo)/\W.cell? ⟨f,1,none⟩=some (.int .i64 (cn s).cZ)/\W.cell? ⟨f,2,none⟩=some (.slice N_ (cn s).bs.length Oc)/\W.cell? ⟨f,3,none⟩=some (.slice (some ⟨YK,0,none⟩) (cn s).aB.length Q0)/\W.cell? ⟨f,4,none⟩=some (.slice (some ⟨Yo,0,none⟩) T.length QO)/\W.cell? ⟨f,5,none⟩=some (.int .i64 (cn s).aj))
     (first|exact⟨ab,H,I,af,aM,bZ⟩|exact⟨ft,dS,eo,hj,jW,kb⟩|exact⟨t0,ek,cM,t3,t4,t5⟩)
     (first
      |(go_at_call 19;refine(adK _ (by show 13<=wc.heap.size;omega)).mono ?_;rintro e bq ⟨⟨bp,rfl,av⟩,dl⟩;have Pp:bq.heap[f]? =some (.cells #[.string (cn s).bo,.int .i64 (cn s).cZ,.slice N_ (cn s).bs.length Oc,.slice (some ⟨YK,0,none⟩) (cn s).aB.length Q0,.slice (some ⟨Yo,0,none⟩) T.length QO,.int .i64 (cn s).aj] 29 (0,0)):=(by rw[dl.block f (cX Po)];exact Po);have CO:=G (CN.out.hC (im.trans (im.U (lK wc)) (im.U dl)));obtain⟨ft,dS,eo,hj,jW,kb⟩:=fZ Pp)
      |(go_at_call 18;refine(arG (cn s) K xJ.out aP gJ bq xh al T WA ak.out.1 N_ _ _ Oc Q0 QO CO.out.c CO.out.s.at CO.out.r.at bp av).mono ?_;rintro e w7 ⟨⟨bn,wZ,rfl,Gx⟩,ip⟩;have aQ:=G Gx;clear Gx;have aC:w7.heap[f]? =some (.cells #[.string (cn s).bo,.int .i64 (cn s).cZ,.slice N_ (cn s).bs.length Oc,.slice (some ⟨YK,0,none⟩) (cn s).aB.length Q0,.slice (some ⟨Yo,0,none⟩) T.length QO,.int .i64 (cn s).aj] 29 (0,0)):=(by rw[ip.block f (cX Pp)];exact Pp);obtain⟨t0,ek,cM,t3,t4,t5⟩:=fZ aC))
    have hv:Below wc.heap.size wc bq:=(lK wc).trans dl;have R1:Below J.heap.size J w7:=(b_ hT hv).trans (ip.mono (db hT.size hv.size));have N:=Nx.out.U R1;have ar:=qO.out.hC (im.U R1);have OT:=CO.out.hC (im.U ip);obtain⟨hX,et,fA,hL,lV,np⟩:=fZ N.g;have el:w7.frozen? ⟨gB,0,none⟩=false:=by simp[World.frozen?,N.g]
    have dk:w7.frozen? ⟨gB,1,none⟩=false:=by simp[World.frozen?,N.g]
    have dB:w7.frozen? ⟨gB,2,none⟩=false:=by simp[World.frozen?,N.g]
    have cN:w7.frozen? ⟨gB,3,none⟩=false:=by simp[World.frozen?,N.g]
    have ko:w7.frozen? ⟨gB,4,none⟩=false:=by simp[World.frozen?,N.g]
    have kp:w7.frozen? ⟨gB,5,none⟩=false:=by simp[World.frozen?,N.g]
    have IX:Hid (NI (cn s) w a n gB (k+1) w7):=G ⟨_,M,rs,N,ar,g,Q,z,aj.out⟩;have NL:=G (fun wu:wb T xh (cn s).aj=>ayB N OT.atT al WA aU wu);clear N ar OT CO CN hv R1 hT Po Pp aC ab H I af aM bZ ft dS eo hj jW kb Nx qO av;by_cases aR:wZ=0
    ·subst aR;have NL:=G (NL.out (by obtain⟨aJ,aX,nX⟩:=aQ.out rfl;exact ak.out.2 aJ aX nX))
     go_wp2;go_roundw;case rel=>first|exact⟨k+1,z,bM,NL.out⟩|((repeat apply Exists.intro);refine⟨?_,rfl⟩;exact⟨k+1,z,bM,NL.out⟩)
     case measure=>simp[RowKit.intOf];omega
    ·have PF:(wZ==0)=false:=by simpa using aR
     go_wp2;go_roundw;case rel=>first|exact⟨k+1,z,bM,IX.out⟩|((repeat apply Exists.intro);refine⟨?_,rfl⟩;exact⟨k+1,z,bM,IX.out⟩)
     case measure=>simp[RowKit.intOf];omega
  ·have mj:¬(k:Int)<3:=z;obtain⟨hX,et,fA,hL,lV,np⟩:=fZ B.g;obtain⟨ft,dS,eo,hj,jW,kb⟩:=fZ B.q;have el:wr.frozen? ⟨w.heap.size,0,none⟩=false:=by simp[World.frozen?,B.q]
   have dk:wr.frozen? ⟨w.heap.size,1,none⟩=false:=by simp[World.frozen?,B.q]
   have dB:wr.frozen? ⟨w.heap.size,2,none⟩=false:=by simp[World.frozen?,B.q]
   have cN:wr.frozen? ⟨w.heap.size,3,none⟩=false:=by simp[World.frozen?,B.q]
   have ko:wr.frozen? ⟨w.heap.size,4,none⟩=false:=by simp[World.frozen?,B.q]
   have kp:wr.frozen? ⟨w.heap.size,5,none⟩=false:=by simp[World.frozen?,B.q]
   have Il:=G (aij B.q (.string (cn s).bo) (.int .i64 (cn s).cZ) (.slice ca (cn s).bs.length cc) (.slice U (cn s).aB.length X) (.slice ra rs.length rc) (.int .i64 (cn s).aj));have fO:=G (Tv B.b (b:=w.heap.size) (aZ _) (.string (cn s).bo) (.int .i64 (cn s).cZ) (.slice ca (cn s).bs.length cc) (.slice U (cn s).aB.length X) (.slice ra rs.length rc) (.int .i64 (cn s).aj));have hn:=G S;clear B S tX Kr Kp
   go_wp2;refine fL (aa2 (fn:=f5) rfl _ _ w.heap.size 29 _ (0,0) _ rfl Il.out.2 underlying29 rfl ame) rfl ?_;exact⟨⟨s,M,rs,_,rfl,hn.out.hC Il.out.1,g,Q,z,aj.out⟩,fO.out⟩
end Go.bj.N
namespace Go.aI
open Go Go.Proofs.Tryz Go.ch Go.Proofs
def QA:ma:=⟨[.agg [.str [103],.int .i64 (.ofNat 1),.slice 79 0 1 2 none,.slice 140 0 1 3 none,.slice 205 0 2 4 none,.int .i64 (.ofNat 0)],.bS],[(1,l7),(2,l4),(79,.cells 138 [.str [97],.int .i64 (.ofNat 1)] false true),(140,.cells 62 [.str [84],.int .i64 (.ofNat 1),.int .i64 (.ofNat 3)] false true),(159,.cells 3 [.int .i64 (.ofNat 0)] false true),(200,.cells 3 [.int .i64 (.ofNat 0),.int .i64 (.ofNat 0),.int .i64 (.ofNat 0)] false true),(205,.cells 86 [.int .i64 (.ofNat 0),.str [99,111,108],.str [97],.jx 159 0 1 1,.int .i64 (.ofNat 0),.str [99,111,110,99,97,116],.str [],.slice 200 1 2 1 none] false true)],218,.tup [.int .i64 (.ofNat 0),.int .i64 (.ofNat 0)],[(1,l7),(2,l4),(79,.cells 138 [.str [97],.int .i64 (.ofNat 1)] false true),(140,.cells 62 [.str [84],.int .i64 (.ofNat 1),.int .i64 (.ofNat 3)] false true),(159,.cells 3 [.int .i64 (.ofNat 0)] false true),(200,.cells 3 [.int .i64 (.ofNat 0),.int .i64 (.ofNat 0),.int .i64 (.ofNat 0)] false true),(205,.cells 86 [.int .i64 (.ofNat 0),.str [99,111,108],.str [97],.jx 159 0 1 1,.int .i64 (.ofNat 0),.str [99,111,110,99,97,116],.str [],.slice 200 1 2 1 none] false true)],218⟩
theorem aAG:BZ QA ((iC prog i_ jY.find 3000).call 61 QA.args QA.heap)=true:=au
def QB:ma:=⟨[.agg [.str [103],.int .i64 (.ofNat 1),.slice 79 0 1 2 none,.slice 140 0 1 3 none,.slice 205 0 2 4 none,.int .i64 (.ofNat 0)],.agg [.int .i64 (.ofNat 1),.int .i64 (.ofNat 4),.int .i64 (.ofNat 5),.int .i64 (.ofNat 0),.int .i64 (.ofNat 1),.slice 211 0 1 7 none,.int .i64 (.ofNat 1),.str [120],.int .i64 (.ofNat 0),.int .i64 (.ofNat 0),.int .i64 (.ofNat 0),.bS,.bS,.str [],.str [],.bS]],[(1,l7),(2,l4),(79,.cells 138 [.str [97],.int .i64 (.ofNat 1)] false true),(140,.cells 62 [.str [84],.int .i64 (.ofNat 1),.int .i64 (.ofNat 3)] false true),(159,.cells 3 [.int .i64 (.ofNat 0)] false true),(200,.cells 3 [.int .i64 (.ofNat 0),.int .i64 (.ofNat 0),.int .i64 (.ofNat 0)] false true),(205,.cells 86 [.int .i64 (.ofNat 0),.str [99,111,108],.str [97],.jx 159 0 1 1,.int .i64 (.ofNat 0),.str [99,111,110,99,97,116],.str [],.slice 200 1 2 1 none] false true),(211,.cells 44 [.int .i64 (.ofNat 1),.str [120],.int .i64 (.ofNat 0),.int .i64 (.ofNat 0),.int .i64 (.ofNat 0),.bS,.bS] true true)],220,.int .i64 (.ofNat 0),[(1,l7),(2,l4),(79,.cells 138 [.str [97],.int .i64 (.ofNat 1)] false true),(140,.cells 62 [.str [84],.int .i64 (.ofNat 1),.int .i64 (.ofNat 3)] false true),(159,.cells 3 [.int .i64 (.ofNat 0)] false true),(200,.cells 3 [.int .i64 (.ofNat 0),.int .i64 (.ofNat 0),.int .i64 (.ofNat 0)] false true),(205,.cells 86 [.int .i64 (.ofNat 0),.str [99,111,108],.str [97],.jx 159 0 1 1,.int .i64 (.ofNat 0),.str [99,111,110,99,97,116],.str [],.slice 200 1 2 1 none] false true),(211,.cells 44 [.int .i64 (.ofNat 1),.str [120],.int .i64 (.ofNat 0),.int .i64 (.ofNat 0),.int .i64 (.ofNat 0),.bS,.bS] true true)],220⟩
theorem aAH:BZ QB ((iC prog i_ jY.find 3000).call 62 QB.args QB.heap)=true:=au
def QC:ma:=⟨[.agg [.str [103],.int .i64 (.ofNat 1),.slice 79 0 1 2 none,.slice 140 0 1 3 none,.slice 205 0 2 4 none,.int .i64 (.ofNat 0)],.agg [.int .i64 (.ofNat 2),.int .i64 (.ofNat 1),.int .i64 (.ofNat 2),.int .i64 (.ofNat 0),.int .i64 (.ofNat 1),.slice 211 0 1 7 none,.int .i64 (.ofNat 1),.str [120,120],.int .i64 (.ofNat 0),.int .i64 (.ofNat 0),.int .i64 (.ofNat 0),.bS,.bS,.str [],.str [],.bS]],[(1,l7),(2,l4),(79,.cells 138 [.str [97],.int .i64 (.ofNat 1)] false true),(140,.cells 62 [.str [84],.int .i64 (.ofNat 1),.int .i64 (.ofNat 3)] false true),(159,.cells 3 [.int .i64 (.ofNat 0)] false true),(200,.cells 3 [.int .i64 (.ofNat 0),.int .i64 (.ofNat 0),.int .i64 (.ofNat 0)] false true),(205,.cells 86 [.int .i64 (.ofNat 0),.str [99,111,108],.str [97],.jx 159 0 1 1,.int .i64 (.ofNat 0),.str [99,111,110,99,97,116],.str [],.slice 200 1 2 1 none] false true),(211,.cells 44 [.int .i64 (.ofNat 1),.str [120],.int .i64 (.ofNat 0),.int .i64 (.ofNat 0),.int .i64 (.ofNat 0),.bS,.bS] true true)],221,.int .i64 (.ofNat 0),[(1,l7),(2,l4),(79,.cells 138 [.str [97],.int .i64 (.ofNat 1)] false true),(140,.cells 62 [.str [84],.int .i64 (.ofNat 1),.int .i64 (.ofNat 3)] false true),(159,.cells 3 [.int .i64 (.ofNat 0)] false true),(200,.cells 3 [.int .i64 (.ofNat 0),.int .i64 (.ofNat 0),.int .i64 (.ofNat 0)] false true),(205,.cells 86 [.int .i64 (.ofNat 0),.str [99,111,108],.str [97],.jx 159 0 1 1,.int .i64 (.ofNat 0),.str [99,111,110,99,97,116],.str [],.slice 200 1 2 1 none] false true),(211,.cells 44 [.int .i64 (.ofNat 1),.str [120],.int .i64 (.ofNat 0),.int .i64 (.ofNat 0),.int .i64 (.ofNat 0),.bS,.bS] true true)],221⟩
theorem aAI:BZ QC ((iC prog i_ jY.find 3000).call 62 QC.args QC.heap)=true:=au
def QD:ma:=⟨[.agg [.str [103],.int .i64 (.ofNat 1),.slice 79 0 1 2 none,.slice 140 0 1 3 none,.slice 205 0 2 4 none,.int .i64 (.ofNat 0)],.agg [.int .i64 (.ofNat 3),.int .i64 (.ofNat 1),.int .i64 (.ofNat 1),.int .i64 (.ofNat 0),.int .i64 (.ofNat 2),.slice 211 0 1 7 none,.int .i64 (.ofNat 1),.str [120],.int .i64 (.ofNat 0),.int .i64 (.ofNat 0),.int .i64 (.ofNat 0),.bS,.bS,.str [],.str [],.bS]],[(1,l7),(2,l4),(79,.cells 138 [.str [97],.int .i64 (.ofNat 1)] false true),(140,.cells 62 [.str [84],.int .i64 (.ofNat 1),.int .i64 (.ofNat 3)] false true),(159,.cells 3 [.int .i64 (.ofNat 0)] false true),(200,.cells 3 [.int .i64 (.ofNat 0),.int .i64 (.ofNat 0),.int .i64 (.ofNat 0)] false true),(205,.cells 86 [.int .i64 (.ofNat 0),.str [99,111,108],.str [97],.jx 159 0 1 1,.int .i64 (.ofNat 0),.str [99,111,110,99,97,116],.str [],.slice 200 1 2 1 none] false true),(211,.cells 44 [.int .i64 (.ofNat 1),.str [120],.int .i64 (.ofNat 0),.int .i64 (.ofNat 0),.int .i64 (.ofNat 0),.bS,.bS] true true)],222,.int .i64 (.ofNat 0),[(1,l7),(2,l4),(79,.cells 138 [.str [97],.int .i64 (.ofNat 1)] false true),(140,.cells 62 [.str [84],.int .i64 (.ofNat 1),.int .i64 (.ofNat 3)] false true),(159,.cells 3 [.int .i64 (.ofNat 0)] false true),(200,.cells 3 [.int .i64 (.ofNat 0),.int .i64 (.ofNat 0),.int .i64 (.ofNat 0)] false true),(205,.cells 86 [.int .i64 (.ofNat 0),.str [99,111,108],.str [97],.jx 159 0 1 1,.int .i64 (.ofNat 0),.str [99,111,110,99,97,116],.str [],.slice 200 1 2 1 none] false true),(211,.cells 44 [.int .i64 (.ofNat 1),.str [120],.int .i64 (.ofNat 0),.int .i64 (.ofNat 0),.int .i64 (.ofNat 0),.bS,.bS] true true)],222⟩
theorem aAJ:BZ QD ((iC prog i_ jY.find 3000).call 62 QD.args QD.heap)=true:=au
def QE:ma:=⟨[.agg [.str [103],.int .i64 (.ofNat 1),.slice 79 0 1 2 none,.slice 140 0 1 3 none,.slice 205 0 2 4 none,.int .i64 (.ofNat 0)]],[(1,l7),(2,l4),(79,.cells 138 [.str [97],.int .i64 (.ofNat 1)] false true),(140,.cells 62 [.str [84],.int .i64 (.ofNat 1),.int .i64 (.ofNat 3)] false true),(159,.cells 3 [.int .i64 (.ofNat 0)] false true),(200,.cells 3 [.int .i64 (.ofNat 0),.int .i64 (.ofNat 0),.int .i64 (.ofNat 0)] false true),(205,.cells 86 [.int .i64 (.ofNat 0),.str [99,111,108],.str [97],.jx 159 0 1 1,.int .i64 (.ofNat 0),.str [99,111,110,99,97,116],.str [],.slice 200 1 2 1 none] false true)],225,.bool true,[(1,l7),(2,l4),(79,.cells 138 [.str [97],.int .i64 (.ofNat 1)] false true),(140,.cells 62 [.str [84],.int .i64 (.ofNat 1),.int .i64 (.ofNat 3)] false true),(159,.cells 3 [.int .i64 (.ofNat 0)] false true),(200,.cells 3 [.int .i64 (.ofNat 0),.int .i64 (.ofNat 0),.int .i64 (.ofNat 0)] false true),(205,.cells 86 [.int .i64 (.ofNat 0),.str [99,111,108],.str [97],.jx 159 0 1 1,.int .i64 (.ofNat 0),.str [99,111,110,99,97,116],.str [],.slice 200 1 2 1 none] false true)],225⟩
theorem aAK:BZ QE ((iC prog i_ jY.find 3000).call 125 QE.args QE.heap)=true:=au
def QF:ma:=⟨[.agg [.str [103],.int .i64 (.ofNat 1),.slice 79 0 1 2 none,.slice 140 0 1 3 none,.slice 205 0 2 4 none,.int .i64 (.ofNat 0)],.bS,.agg [.int .i64 (.ofNat 1),.int .i64 (.ofNat 4),.int .i64 (.ofNat 5),.int .i64 (.ofNat 0),.int .i64 (.ofNat 1),.slice 211 0 1 7 none,.int .i64 (.ofNat 1),.str [120],.int .i64 (.ofNat 0),.int .i64 (.ofNat 0),.int .i64 (.ofNat 0),.bS,.bS,.str [],.str [],.bS],.slice 4635 0 1 1 none],[(1,l7),(2,l4),(79,.cells 138 [.str [97],.int .i64 (.ofNat 1)] false true),(140,.cells 62 [.str [84],.int .i64 (.ofNat 1),.int .i64 (.ofNat 3)] false true),(159,.cells 3 [.int .i64 (.ofNat 0)] false true),(200,.cells 3 [.int .i64 (.ofNat 0),.int .i64 (.ofNat 0),.int .i64 (.ofNat 0)] false true),(205,.cells 86 [.int .i64 (.ofNat 0),.str [99,111,108],.str [97],.jx 159 0 1 1,.int .i64 (.ofNat 0),.str [99,111,110,99,97,116],.str [],.slice 200 1 2 1 none] false true),(211,.cells 44 [.int .i64 (.ofNat 1),.str [120],.int .i64 (.ofNat 0),.int .i64 (.ofNat 0),.int .i64 (.ofNat 0),.bS,.bS] true true),(4635,.cells 3 [.int .i64 (.ofNat 0)] true true)],6340,.bool true,[(1,l7),(2,l4),(79,.cells 138 [.str [97],.int .i64 (.ofNat 1)] false true),(140,.cells 62 [.str [84],.int .i64 (.ofNat 1),.int .i64 (.ofNat 3)] false true),(159,.cells 3 [.int .i64 (.ofNat 0)] false true),(200,.cells 3 [.int .i64 (.ofNat 0),.int .i64 (.ofNat 0),.int .i64 (.ofNat 0)] false true),(205,.cells 86 [.int .i64 (.ofNat 0),.str [99,111,108],.str [97],.jx 159 0 1 1,.int .i64 (.ofNat 0),.str [99,111,110,99,97,116],.str [],.slice 200 1 2 1 none] false true),(211,.cells 44 [.int .i64 (.ofNat 1),.str [120],.int .i64 (.ofNat 0),.int .i64 (.ofNat 0),.int .i64 (.ofNat 0),.bS,.bS] true true),(4635,.cells 3 [.int .i64 (.ofNat 0)] true true)],6340⟩
theorem aAL:BZ QF ((iC prog i_ jY.find 3000).call 37 QF.args QF.heap)=true:=au
end Go.aI
namespace Go.aI
open Go Go.ch Go.Proofs
def ext1:AD:=fun f=>bif Nat.beq f 61 then some (Ex [QA])else bif Nat.beq f 62 then some (Ex [QB,QC,QD])else bif Nat.beq f 125 then some (Ex [QE])else bif Nat.beq f 37 then some (Ex [QF])else i_ f
end Go.aI
namespace Go.aI
open Go Go.Proofs.Tryz Go.ch Go.Proofs
def P5:ma:=⟨[.str [103,114,97,109,109,97,114,32,103,32,49,10,99,111,108,117,109,110,32,97,32,116,101,120,116,10,115,121,109,98,111,108,32,84,32,116,101,120,116,32,51,10,114,117,108,101,32,84,32,99,111,108,32,39,97,39,10,114,117,108,101,32,84,32,99,111,110,99,97,116,32,39,39,32,84,32,84,10,115,116,97,114,116,32,84,10]],[(1,l7),(2,l4)],13,.tup [.agg [.str [103],.int .i64 (.ofNat 1),.slice 79 0 1 2 none,.slice 140 0 1 3 none,.slice 205 0 2 4 none,.int .i64 (.ofNat 0)],.int .i64 (.ofNat 0),.int .i64 (.ofNat 0)],[(1,l7),(2,l4),(79,.cells 138 [.str [97],.int .i64 (.ofNat 1)] false true),(140,.cells 62 [.str [84],.int .i64 (.ofNat 1),.int .i64 (.ofNat 3)] false true),(159,.cells 3 [.int .i64 (.ofNat 0)] false true),(200,.cells 3 [.int .i64 (.ofNat 0),.int .i64 (.ofNat 0),.int .i64 (.ofNat 0)] false true),(205,.cells 86 [.int .i64 (.ofNat 0),.str [99,111,108],.str [97],.jx 159 0 1 1,.int .i64 (.ofNat 0),.str [99,111,110,99,97,116],.str [],.slice 200 1 2 1 none] false true)],210⟩
theorem ayw:Ej P5 ((iC prog ext1 jY.find 3000).call 10 P5.args P5.heap)=true:=au
def P6:ma:=⟨[.agg [.str [103],.int .i64 (.ofNat 1),.slice 79 0 1 2 none,.slice 140 0 1 3 none,.slice 205 0 2 4 none,.int .i64 (.ofNat 0)],.bS,.slice 215 0 3 16 none],[(1,l7),(2,l4),(79,.cells 138 [.str [97],.int .i64 (.ofNat 1)] false true),(140,.cells 62 [.str [84],.int .i64 (.ofNat 1),.int .i64 (.ofNat 3)] false true),(159,.cells 3 [.int .i64 (.ofNat 0)] false true),(200,.cells 3 [.int .i64 (.ofNat 0),.int .i64 (.ofNat 0),.int .i64 (.ofNat 0)] false true),(205,.cells 86 [.int .i64 (.ofNat 0),.str [99,111,108],.str [97],.jx 159 0 1 1,.int .i64 (.ofNat 0),.str [99,111,110,99,97,116],.str [],.slice 200 1 2 1 none] false true),(211,.cells 44 [.int .i64 (.ofNat 1),.str [120],.int .i64 (.ofNat 0),.int .i64 (.ofNat 0),.int .i64 (.ofNat 0),.bS,.bS] true true),(215,.cells 47 [.int .i64 (.ofNat 1),.int .i64 (.ofNat 4),.int .i64 (.ofNat 5),.int .i64 (.ofNat 0),.int .i64 (.ofNat 1),.slice 211 0 1 7 none,.int .i64 (.ofNat 1),.str [120],.int .i64 (.ofNat 0),.int .i64 (.ofNat 0),.int .i64 (.ofNat 0),.bS,.bS,.str [],.str [],.bS,.int .i64 (.ofNat 2),.int .i64 (.ofNat 1),.int .i64 (.ofNat 2),.int .i64 (.ofNat 0),.int .i64 (.ofNat 1),.slice 211 0 1 7 none,.int .i64 (.ofNat 1),.str [120,120],.int .i64 (.ofNat 0),.int .i64 (.ofNat 0),.int .i64 (.ofNat 0),.bS,.bS,.str [],.str [],.bS,.int .i64 (.ofNat 3),.int .i64 (.ofNat 1),.int .i64 (.ofNat 1),.int .i64 (.ofNat 0),.int .i64 (.ofNat 2),.slice 211 0 1 7 none,.int .i64 (.ofNat 1),.str [120],.int .i64 (.ofNat 0),.int .i64 (.ofNat 0),.int .i64 (.ofNat 0),.bS,.bS,.str [],.str [],.bS] true true)],217,.tup [.slice 629 0 2 1 none,.slice 652 0 2 1 none,.int .i64 (.ofNat 0)],[(1,l7),(2,l4),(79,.cells 138 [.str [97],.int .i64 (.ofNat 1)] false true),(140,.cells 62 [.str [84],.int .i64 (.ofNat 1),.int .i64 (.ofNat 3)] false true),(159,.cells 3 [.int .i64 (.ofNat 0)] false true),(200,.cells 3 [.int .i64 (.ofNat 0),.int .i64 (.ofNat 0),.int .i64 (.ofNat 0)] false true),(205,.cells 86 [.int .i64 (.ofNat 0),.str [99,111,108],.str [97],.jx 159 0 1 1,.int .i64 (.ofNat 0),.str [99,111,110,99,97,116],.str [],.slice 200 1 2 1 none] false true),(211,.cells 44 [.int .i64 (.ofNat 1),.str [120],.int .i64 (.ofNat 0),.int .i64 (.ofNat 0),.int .i64 (.ofNat 0),.bS,.bS] true true),(215,.cells 47 [.int .i64 (.ofNat 1),.int .i64 (.ofNat 4),.int .i64 (.ofNat 5),.int .i64 (.ofNat 0),.int .i64 (.ofNat 1),.slice 211 0 1 7 none,.int .i64 (.ofNat 1),.str [120],.int .i64 (.ofNat 0),.int .i64 (.ofNat 0),.int .i64 (.ofNat 0),.bS,.bS,.str [],.str [],.bS,.int .i64 (.ofNat 2),.int .i64 (.ofNat 1),.int .i64 (.ofNat 2),.int .i64 (.ofNat 0),.int .i64 (.ofNat 1),.slice 211 0 1 7 none,.int .i64 (.ofNat 1),.str [120,120],.int .i64 (.ofNat 0),.int .i64 (.ofNat 0),.int .i64 (.ofNat 0),.bS,.bS,.str [],.str [],.bS,.int .i64 (.ofNat 3),.int .i64 (.ofNat 1),.int .i64 (.ofNat 1),.int .i64 (.ofNat 0),.int .i64 (.ofNat 2),.slice 211 0 1 7 none,.int .i64 (.ofNat 1),.str [120],.int .i64 (.ofNat 0),.int .i64 (.ofNat 0),.int .i64 (.ofNat 0),.bS,.bS,.str [],.str [],.bS] true true),(513,.cells 3 [.int .i64 (.ofNat 0)] true true),(627,.cells 3 [.int .i64 (.ofNat 1),.int .i64 (.ofNat 0),.int .i64 (.ofNat 0)] false true),(629,.cells 22 [.slice 513 0 1 1 none,.slice 627 0 3 1 none] false true),(652,.cells 3 [.int .i64 (.ofNat 1),.int .i64 (.ofNat 6)] true true)],1779⟩
theorem ayx:Ej P6 ((iC prog ext1 jY.find 3000).call 25 P6.args P6.heap)=true:=au
def P7:ma:=⟨[.agg [.str [103],.int .i64 (.ofNat 1),.slice 79 0 1 2 none,.slice 140 0 1 3 none,.slice 205 0 2 4 none,.int .i64 (.ofNat 0)],.bS,.slice 215 0 3 16 none],[(1,l7),(2,l4),(79,.cells 138 [.str [97],.int .i64 (.ofNat 1)] false true),(140,.cells 62 [.str [84],.int .i64 (.ofNat 1),.int .i64 (.ofNat 3)] false true),(159,.cells 3 [.int .i64 (.ofNat 0)] false true),(200,.cells 3 [.int .i64 (.ofNat 0),.int .i64 (.ofNat 0),.int .i64 (.ofNat 0)] false true),(205,.cells 86 [.int .i64 (.ofNat 0),.str [99,111,108],.str [97],.jx 159 0 1 1,.int .i64 (.ofNat 0),.str [99,111,110,99,97,116],.str [],.slice 200 1 2 1 none] false true),(211,.cells 44 [.int .i64 (.ofNat 1),.str [120],.int .i64 (.ofNat 0),.int .i64 (.ofNat 0),.int .i64 (.ofNat 0),.bS,.bS] true true),(215,.cells 47 [.int .i64 (.ofNat 1),.int .i64 (.ofNat 4),.int .i64 (.ofNat 5),.int .i64 (.ofNat 0),.int .i64 (.ofNat 1),.slice 211 0 1 7 none,.int .i64 (.ofNat 1),.str [120],.int .i64 (.ofNat 0),.int .i64 (.ofNat 0),.int .i64 (.ofNat 0),.bS,.bS,.str [],.str [],.bS,.int .i64 (.ofNat 2),.int .i64 (.ofNat 1),.int .i64 (.ofNat 2),.int .i64 (.ofNat 0),.int .i64 (.ofNat 1),.slice 211 0 1 7 none,.int .i64 (.ofNat 1),.str [120,120],.int .i64 (.ofNat 0),.int .i64 (.ofNat 0),.int .i64 (.ofNat 0),.bS,.bS,.str [],.str [],.bS,.int .i64 (.ofNat 3),.int .i64 (.ofNat 1),.int .i64 (.ofNat 1),.int .i64 (.ofNat 0),.int .i64 (.ofNat 2),.slice 211 0 1 7 none,.int .i64 (.ofNat 1),.str [120],.int .i64 (.ofNat 0),.int .i64 (.ofNat 0),.int .i64 (.ofNat 0),.bS,.bS,.str [],.str [],.bS] true true)],1789,.tup [.slice 2201 0 2 1 none,.slice 2224 0 2 1 none,.int .i64 (.ofNat 0)],[(1,l7),(2,l4),(79,.cells 138 [.str [97],.int .i64 (.ofNat 1)] false true),(140,.cells 62 [.str [84],.int .i64 (.ofNat 1),.int .i64 (.ofNat 3)] false true),(159,.cells 3 [.int .i64 (.ofNat 0)] false true),(200,.cells 3 [.int .i64 (.ofNat 0),.int .i64 (.ofNat 0),.int .i64 (.ofNat 0)] false true),(205,.cells 86 [.int .i64 (.ofNat 0),.str [99,111,108],.str [97],.jx 159 0 1 1,.int .i64 (.ofNat 0),.str [99,111,110,99,97,116],.str [],.slice 200 1 2 1 none] false true),(211,.cells 44 [.int .i64 (.ofNat 1),.str [120],.int .i64 (.ofNat 0),.int .i64 (.ofNat 0),.int .i64 (.ofNat 0),.bS,.bS] true true),(215,.cells 47 [.int .i64 (.ofNat 1),.int .i64 (.ofNat 4),.int .i64 (.ofNat 5),.int .i64 (.ofNat 0),.int .i64 (.ofNat 1),.slice 211 0 1 7 none,.int .i64 (.ofNat 1),.str [120],.int .i64 (.ofNat 0),.int .i64 (.ofNat 0),.int .i64 (.ofNat 0),.bS,.bS,.str [],.str [],.bS,.int .i64 (.ofNat 2),.int .i64 (.ofNat 1),.int .i64 (.ofNat 2),.int .i64 (.ofNat 0),.int .i64 (.ofNat 1),.slice 211 0 1 7 none,.int .i64 (.ofNat 1),.str [120,120],.int .i64 (.ofNat 0),.int .i64 (.ofNat 0),.int .i64 (.ofNat 0),.bS,.bS,.str [],.str [],.bS,.int .i64 (.ofNat 3),.int .i64 (.ofNat 1),.int .i64 (.ofNat 1),.int .i64 (.ofNat 0),.int .i64 (.ofNat 2),.slice 211 0 1 7 none,.int .i64 (.ofNat 1),.str [120],.int .i64 (.ofNat 0),.int .i64 (.ofNat 0),.int .i64 (.ofNat 0),.bS,.bS,.str [],.str [],.bS] true true),(2085,.cells 3 [.int .i64 (.ofNat 0)] true true),(2199,.cells 3 [.int .i64 (.ofNat 1),.int .i64 (.ofNat 0),.int .i64 (.ofNat 0)] false true),(2201,.cells 22 [.slice 2085 0 1 1 none,.slice 2199 0 3 1 none] false true),(2224,.cells 3 [.int .i64 (.ofNat 1),.int .i64 (.ofNat 6)] true true)],3351⟩
theorem ayy:Ej P7 ((iC prog ext1 jY.find 3000).call 25 P7.args P7.heap)=true:=au
def P8:ma:=⟨[.agg [.str [103],.int .i64 (.ofNat 1),.slice 79 0 1 2 none,.slice 140 0 1 3 none,.slice 205 0 2 4 none,.int .i64 (.ofNat 0)],.bS,.slice 215 16 2 16 none],[(1,l7),(2,l4),(79,.cells 138 [.str [97],.int .i64 (.ofNat 1)] false true),(140,.cells 62 [.str [84],.int .i64 (.ofNat 1),.int .i64 (.ofNat 3)] false true),(159,.cells 3 [.int .i64 (.ofNat 0)] false true),(200,.cells 3 [.int .i64 (.ofNat 0),.int .i64 (.ofNat 0),.int .i64 (.ofNat 0)] false true),(205,.cells 86 [.int .i64 (.ofNat 0),.str [99,111,108],.str [97],.jx 159 0 1 1,.int .i64 (.ofNat 0),.str [99,111,110,99,97,116],.str [],.slice 200 1 2 1 none] false true),(211,.cells 44 [.int .i64 (.ofNat 1),.str [120],.int .i64 (.ofNat 0),.int .i64 (.ofNat 0),.int .i64 (.ofNat 0),.bS,.bS] true true),(215,.cells 47 [.int .i64 (.ofNat 1),.int .i64 (.ofNat 4),.int .i64 (.ofNat 5),.int .i64 (.ofNat 0),.int .i64 (.ofNat 1),.slice 211 0 1 7 none,.int .i64 (.ofNat 1),.str [120],.int .i64 (.ofNat 0),.int .i64 (.ofNat 0),.int .i64 (.ofNat 0),.bS,.bS,.str [],.str [],.bS,.int .i64 (.ofNat 2),.int .i64 (.ofNat 1),.int .i64 (.ofNat 2),.int .i64 (.ofNat 0),.int .i64 (.ofNat 1),.slice 211 0 1 7 none,.int .i64 (.ofNat 1),.str [120,120],.int .i64 (.ofNat 0),.int .i64 (.ofNat 0),.int .i64 (.ofNat 0),.bS,.bS,.str [],.str [],.bS,.int .i64 (.ofNat 3),.int .i64 (.ofNat 1),.int .i64 (.ofNat 1),.int .i64 (.ofNat 0),.int .i64 (.ofNat 2),.slice 211 0 1 7 none,.int .i64 (.ofNat 1),.str [120],.int .i64 (.ofNat 0),.int .i64 (.ofNat 0),.int .i64 (.ofNat 0),.bS,.bS,.str [],.str [],.bS] true true)],3431,.tup [.slice 3842 0 2 1 none,.slice 3865 0 2 1 none,.int .i64 (.ofNat 0)],[(1,l7),(2,l4),(79,.cells 138 [.str [97],.int .i64 (.ofNat 1)] false true),(140,.cells 62 [.str [84],.int .i64 (.ofNat 1),.int .i64 (.ofNat 3)] false true),(159,.cells 3 [.int .i64 (.ofNat 0)] false true),(200,.cells 3 [.int .i64 (.ofNat 0),.int .i64 (.ofNat 0),.int .i64 (.ofNat 0)] false true),(205,.cells 86 [.int .i64 (.ofNat 0),.str [99,111,108],.str [97],.jx 159 0 1 1,.int .i64 (.ofNat 0),.str [99,111,110,99,97,116],.str [],.slice 200 1 2 1 none] false true),(211,.cells 44 [.int .i64 (.ofNat 1),.str [120],.int .i64 (.ofNat 0),.int .i64 (.ofNat 0),.int .i64 (.ofNat 0),.bS,.bS] true true),(215,.cells 47 [.int .i64 (.ofNat 1),.int .i64 (.ofNat 4),.int .i64 (.ofNat 5),.int .i64 (.ofNat 0),.int .i64 (.ofNat 1),.slice 211 0 1 7 none,.int .i64 (.ofNat 1),.str [120],.int .i64 (.ofNat 0),.int .i64 (.ofNat 0),.int .i64 (.ofNat 0),.bS,.bS,.str [],.str [],.bS,.int .i64 (.ofNat 2),.int .i64 (.ofNat 1),.int .i64 (.ofNat 2),.int .i64 (.ofNat 0),.int .i64 (.ofNat 1),.slice 211 0 1 7 none,.int .i64 (.ofNat 1),.str [120,120],.int .i64 (.ofNat 0),.int .i64 (.ofNat 0),.int .i64 (.ofNat 0),.bS,.bS,.str [],.str [],.bS,.int .i64 (.ofNat 3),.int .i64 (.ofNat 1),.int .i64 (.ofNat 1),.int .i64 (.ofNat 0),.int .i64 (.ofNat 2),.slice 211 0 1 7 none,.int .i64 (.ofNat 1),.str [120],.int .i64 (.ofNat 0),.int .i64 (.ofNat 0),.int .i64 (.ofNat 0),.bS,.bS,.str [],.str [],.bS] true true),(3726,.cells 3 [.int .i64 (.ofNat 0)] true true),(3840,.cells 3 [.int .i64 (.ofNat 1),.int .i64 (.ofNat 0),.int .i64 (.ofNat 0)] false true),(3842,.cells 22 [.slice 3726 0 1 1 none,.slice 3840 0 3 1 none] false true),(3865,.cells 3 [.int .i64 (.ofNat 0),.int .i64 (.ofNat 3)] true true)],4617⟩
theorem ayz:Ej P8 ((iC prog ext1 jY.find 3000).call 25 P8.args P8.heap)=true:=au
end Go.aI
