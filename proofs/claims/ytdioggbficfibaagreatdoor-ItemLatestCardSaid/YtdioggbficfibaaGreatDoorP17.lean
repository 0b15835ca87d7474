/- ItemLatest, one part of the proof. -/
import Derived.Test.YtdioggbficfibaaGreatDoorP16
set_option linter.all false
set_option maxRecDepth 100000
set_option maxHeartbeats 16000000
namespace Go.bh.N
open Go Go.Proofs.Tryz Go.Proofs Go.RowKit Go.da
open Go.aJ (kR tA el uW qG K')
theorem aI2(n:Nat):6<=(cA n).df.length:=by
 unfold cA;split;decide
 split;decide
 split;decide
 split;decide
 split;decide;decide
theorem axJ(S:cU)(b:qZ S)(w:World)(M:Nat->Nat)(rs:List bA)(s:0<rs.length)(j:rs.Sublist S.df)(ca g ra:Option Addr)(cc i rc:Nat)(h:jd w ca S.bw)(q:BP w g S.aD M)(o:BN w ra rs):
  χ 16 #[.agg #[.string S.nm,.int .i64 S.db,.slice ca S.bw.length cc,.slice g S.aD.length i,.slice ra rs.length rc,.int .i64 S.al]] w fun e w'=>(∃k l ew f c d,e=.returned (.agg #[.string S.nm,.int .i64 S.db,.slice k S.bw.length l,.slice (some ⟨ew,0,none⟩) S.aD.length f,.slice (some ⟨c,0,none⟩) rs.length d,.int .i64 S.al])/\hI S M rs w.heap.size w' k l ew f c d):=
 (ND S b w M rs (cO j.length_le b.df) (fun r m=>(b.CC r (j.subset m)).2.1) ca g ra cc i rc h q.at o.at).mono fun e w' ⟨⟨x,y,u,t,aO,h⟩,A⟩=>⟨by
  obtain⟨ca,cc,ew,f,c,d,rfl,rfl,rfl,p⟩:=h.nx b s
  exact⟨ca,cc,ew,f,c,d,aO,p⟩,A⟩
structure yd (w:World) (a:Option Addr) (n gs:Nat) (F:Array Value) (wr:World):Prop where
 b:β w wr
 q:wr.heap[w.heap.size]? =some (.cells #[.string ⟨#[]⟩,.int .i64 0,.slice none 0 0,.slice none 0 0,.slice none 0 0,.int .i64 0] 29 (0,0))
 m:∃c bE:Nat,wr.heap[w.heap.size+1]? =some (.cells #[.slice a n c,.int .i64 bE] 54 (0,0))
 g:wr.heap[gs]? =some (.cells F 29 (0,0))
 N6:w.heap.size+2<=gs
section
variable {w wr w':World} {a:Option Addr} {n gs:Nat} {F:Array Value}
theorem yd.K(h:yd w a n gs F wr)(A:β wr w'):yd w a n gs F w':=by
 obtain⟨c,d,b⟩:=h.m;exact⟨cj h.b A,by rw[A.block _ (c8 h.q)];exact h.q,⟨c,d,by rw[A.block _ (c8 b)];exact b⟩,by rw[A.block _ (c8 h.g)];exact h.g,h.N6⟩
theorem yd.num(h:yd w a n gs F wr)(d:kR w a n)(f:∀q,a=some q->0<n->q.block<w):el wr (w.heap.size+1) a n:=by
 obtain⟨c,m,l⟩:=h.m;refine⟨c,m,l,?_,fun q k ae e=>?_⟩;rcases d with d|⟨b,o,rfl,g⟩;exact .inl d;exact .inr ⟨b,o,rfl,fun i hi=>by obtain⟨x,j⟩:=g i hi;have r:b<w.heap.size:=f _ rfl z;exact⟨x,by rw[h.b.cell r];exact j⟩⟩
 have:=f q k ae;omega
variable{N:Int}{e:Ending}
theorem yd.next(h:yd w a n gs F wr)(d:uW wr (w.heap.size+1) a n N e w'):yd w a n gs F w'/\iR wr w':=by
 obtain⟨bo,o,m⟩:=h.m;refine⟨?_,iR.next m d⟩;obtain⟨_,⟨c,i,g,_⟩,f,b,j,ai,ag⟩:=d;have:=h.N6;exact⟨⟨j.trans h.b.os,ai.trans h.b.tape,ag.trans h.b.output,by rw[f];exact h.b.size,fun k l=>by rw[b _ z];exact h.b.block k l⟩,by rw[b _ z];exact h.q,⟨c,i,g⟩,by rw[b _ z];exact h.g,h.N6⟩
end
structure BI (w:World) (a:Option Addr) (n:Nat) (wr:World):Prop where
 b:β w wr
 q:wr.heap[w.heap.size]? =some (.cells #[.string ⟨#[]⟩,.int .i64 0,.slice none 0 0,.slice none 0 0,.slice none 0 0,.int .i64 0] 29 (0,0))
 m:∃c bE:Nat,wr.heap[w.heap.size+1]? =some (.cells #[.slice a n c,.int .i64 bE] 54 (0,0))
variable{w wr w':World}{a:Option Addr}{n:Nat}
theorem BI.K(h:BI w a n wr)(A:β wr w'):BI w a n w':=by
 obtain⟨c,d,b⟩:=h.m;exact⟨cj h.b A,by rw[A.block _ (c8 h.q)];exact h.q,⟨c,d,by rw[A.block _ (c8 b)];exact b⟩⟩
theorem BI.next{w wr w':World}{a:Option Addr}{n:Nat}(h:BI w a n wr){N:Int}{e:Ending}(d:uW wr (w.heap.size+1) a n N e w'):BI w a n w':=by
 obtain⟨_,⟨c,i,g,_⟩,f,b,j,ai,ag⟩:=d;exact⟨⟨j.trans h.b.os,ai.trans h.b.tape,ag.trans h.b.output,by rw[f];exact h.b.size,fun k l=>by rw[b _ z];exact h.b.block k l⟩,by rw[b _ z];exact h.q,⟨c,i,g⟩⟩
theorem BI.to(h:BI w a n wr)(F:Array Value):yd w a n wr F (wr.alloc (.cells F 29)):=by
 have H:=h.K ((br _ _).alloc (aZ _) (.cells F 29));obtain⟨c,d,b⟩:=h.m;have:=c8 b;exact⟨H.b,H.q,H.m,cW _ _,z⟩
def Jm:Array Value:=#[.string ⟨#[]⟩,.int .i64 0,.slice none 0 0,.slice none 0 0,.slice none 0 0,.int .i64 0]
def Sb(S:cU)(w:World)(a:Option Addr)(n gs k:Nat)(wr:World):Prop:=
 ∃F M rs,yd w a n gs F wr/\x5 S M rs wr F/\(∀i,1<=M i/\M i<=5)/\rs.Sublist S.df/\S.df.length<=rs.length+k/\yj rs M S.al
def Jb(S:cU)(k g:Nat)(b c:World):Prop:=
 β b c/\∃(M:Nat->Nat) (rs:List bA) (ca:Option Addr) (cc ew f d e:Nat),c.heap[g]? =some (.cells #[.string S.nm,.int .i64 S.db,.slice ca S.bw.length cc,.slice (some ⟨ew,0,none⟩) S.aD.length f,.slice (some ⟨d,0,none⟩) rs.length e,.int .i64 S.al] 29 (0,0))/\hI S M rs b.heap.size c ca cc ew f d e/\(∀i,1<=M i/\M i<=5)/\rs.Sublist S.df/\S.df.length<=rs.length+(k+1)
def avs(w':World)(e:Ending):Prop:=∃(s:Nat) (M:Nat->Nat) (rs:List bA) (F:Array Value),e=.returned (.agg F)/\x5 (cA s) M rs w' F/\(∀i,1<=M i/\M i<=5)/\rs.Sublist (cA s).df/\0<rs.length/\yj rs M (cA s).al
variable{k c:Nat}{W:World}
theorem Jb.drew{S:cU}{b:World}(h:Jb S k c b W):Jb S k c b W.drew:=by
 obtain⟨H,M,rs,ca,cc,ew,i,f,g,I,e,d⟩:=h;exact⟨H.drew,M,rs,ca,cc,ew,i,f,g,I,e.hN (iR.K (lh W)),d⟩
variable{b:Nat}{z0 j z3 z4 z5:Value}
theorem am8{h:Value}(A:w.heap[b]? =some (.cells #[z0,h,j,z3,z4,z5] 29 (0,0)))(a0 bW cD a3 a4 a5:Value): iR w ((((((w.setCell ⟨b,0,none⟩ a0).setCell ⟨b,1,none⟩ bW).setCell ⟨b,2,none⟩ cD).setCell ⟨b,3,none⟩ a3).setCell ⟨b,4,none⟩ a4).setCell ⟨b,5,none⟩ a5)/\((((((w.setCell ⟨b,0,none⟩ a0).setCell ⟨b,1,none⟩ bW).setCell ⟨b,2,none⟩ cD).setCell ⟨b,3,none⟩ a3).setCell ⟨b,4,none⟩ a4).setCell ⟨b,5,none⟩ a5).heap[b]? =some (.cells #[a0,bW,cD,a3,a4,a5] 29 (0,0)):=by
 have d:=hT (i:=0) A a0;have c:=hT (i:=1) d bW;have cw:=hT (i:=2) c cD;have e:=hT (i:=3) cw a3;have f:=hT (i:=4) e a4;have g:=hT (i:=5) f a5;have ai:¬F2 29:=by unfold F2;decide
 exact⟨(((((iR.set A ai 0 a0).trans (iR.set d ai 1 bW)).trans (iR.set c ai 2 cD)).trans (iR.set cw ai 3 a3)).trans (iR.set e ai 4 a4)).trans (iR.set f ai 5 a5),g⟩
theorem alt{x:Nat}(c:x≠b)(a0 bW cD a3 a4 a5:Value):((((((w.setCell ⟨b,0,none⟩ a0).setCell ⟨b,1,none⟩ bW).setCell ⟨b,2,none⟩ cD).setCell ⟨b,3,none⟩ a3).setCell ⟨b,4,none⟩ a4).setCell ⟨b,5,none⟩ a5).heap[x]? =w.heap[x]? :=by
 rw[g_ _ _ _ _ c,g_ _ _ _ _ c,g_ _ _ _ _ c,g_ _ _ _ _ c,g_ _ _ _ _ c,g_ _ _ _ _ c]
variable{M:Nat->Nat}
theorem aEA{S:cU}{w7:World}{gs:Nat}{m a0 bW cD a3 a4 a5:Value}(h:yd w a n gs #[z0,j,m,z3,z4,z5] w7){rs:List bA}(g:x5 S M rs w7 #[a0,bW,cD,a3,a4,a5])(q:∀i,1<=M i/\M i<=5)(o:rs.Sublist S.df)(l:S.df.length<=rs.length+k)(b:yj rs M S.al): Sb S w a n gs k ((((((w7.setCell ⟨gs,0,none⟩ a0).setCell ⟨gs,1,none⟩ bW).setCell ⟨gs,2,none⟩ cD).setCell ⟨gs,3,none⟩ a3).setCell ⟨gs,4,none⟩ a4).setCell ⟨gs,5,none⟩ a5):=by
 obtain⟨d,A⟩:=am8 h.g a0 bW cD a3 a4 a5;obtain⟨c,f,e⟩:=h.m;have r:=h.N6;exact⟨_,M,rs,⟨Yo h.b z a0 bW cD a3 a4 a5,by rw[alt z];exact h.q,⟨c,f,by rw[alt z];exact e⟩,A,h.N6⟩,g.hN d,q,o,l,b⟩
variable{ca:Option Addr}{cc t:Nat}{arr:Array Value}
theorem api{S:cU}{f:World}{rs:List bA}{ew g d:Nat}(s:β f W)(h:W.heap[c]? =some (.cells #[S.nm,S.db,.slice ca S.bw cc,.slice (some ⟨ew,0,none⟩) S.aD g,.slice (some ⟨b,0,none⟩) rs d,S.al] 29 (0,0)))(p:f.heap.size<=c)(m:hI S M rs f W ca cc ew g b d)(aH:W.heap[b]? =some (Obj.cells arr 96 (0,0)))(q:arr.size=d*4){l:Nat}(ai:t<rs)(u:l=rs.length-1)(y:∀i,1<=M i/\M i<=5)(x:rs.Sublist S.df)(z:S.df.length<=rs.length+k): Jb S k c f ((W.setCells b (t*4) (n3 arr t rs)).setCell ⟨c,4,none⟩ (.slice (some ⟨b,0,none⟩) l d)):=by
 have o:(rs.eraseIdx t).length=rs.length-1:=by rw[as2,co ai]
 have r:c≠b:=fun e=>by rw[e,aH]at h;cases h
 have j:(W.setCells b (t*4) (n3 arr t rs)).heap[c]? =some (.cells #[S.nm,S.db,.slice ca S.bw cc,.slice (some ⟨ew,0,none⟩) S.aD g,.slice (some ⟨b,0,none⟩) rs d,S.al] 29 (0,0)):=by rw[asS _ _ _ _ (c8 h) r];exact h
 refine⟨(aii m.rb _ _ s).setCell p _,M,rs.eraseIdx t,ca,cc,ew,g,b,d,?_,(m.ayP aH q t ai).hN (iR.set j (by unfold F2;decide) 4 _),y,(List.eraseIdx_sublist ..).trans x,by rw[o];omega⟩;rw[o,←u];exact hT j _
theorem apj{S:cU}{f:Nat}{b:World}{rs:List bA}{ew j g:Nat}(s:β b W)(l:W.heap[f]? =some (.cells #[S.nm,S.db,.slice ca S.bw cc,.slice (some ⟨ew,0,none⟩) S.aD j,.slice (some ⟨c,0,none⟩) rs g,S.al] 29 (0,0)))(d:hI S M rs b W ca cc ew j c g)(ai:t<S.aD){m:Nat}(q:1<=m/\m<=5)(x:∀i,1<=M i/\M i<=5)(u:rs.Sublist S.df)(y:S.df.length<=rs.length+k): Jb S k f b (W.setCell ⟨ew,t*3+2,none⟩ m):=by
 obtain⟨arr,o⟩:=d.bP;have r:f≠ew:=fun e=>by rw[e,o]at l;cases l
 refine⟨s.setCell d.bL _,_,rs,ca,cc,ew,j,c,g,by rw[g_ _ _ _ _ r];exact l,d.aIr t m ai,fun i=>?_,u,z⟩;by_cases e:i=t;simp only[e,ox];exact q;simp only[e,pz];exact x i
theorem arI{S:cU}{rs:List bA}{base:Nat}{ew i:Nat}(h:hI S M rs base w ca cc ew i b c)(aH:w.heap[b]? =some (Obj.cells arr 96 (0,0)))(e:arr.size=c*4)(g:n<rs):∀j,j<(n3 arr n rs).length->(w.cell? ⟨b,0+n*4+j,none⟩).isSome=true/\w.frozen? ⟨b,0+n*4+j,none⟩=false:=fun j f=>by
 rw[H9 h e g]at f
 obtain⟨u,hu,_⟩:=h.cell aH (n*4+j) z
 refine⟨?_,by simp[World.frozen?,aH]⟩
 have d:w.cell? ⟨b,0+n*4+j,none⟩=some u:=by rw[gP];simp only[World.cell?,aH];exact hu
 rw[d];rfl
theorem aD8(w:World)(a:Option Addr)(n c:Nat)(dV:13<=w.heap.size)(ab:kR w a n)(aA:∀q,a=some q->0<n->q.block<w.heap.size)(ap:n<=maxLen): χ 5 #[.slice a n c] w fun e w'=>avs w' e:=by
 obtain⟨Um,TT,k8,jn,mK⟩:=im amM;go_enter func5,ntmps5;go_upto_region 2 with fail
 have GD:BI w a n ((w.alloc (.cells Jm 29)).alloc (.cells #[.slice a n c,.int .i64 0] 54)):=by
  have cy:=i_ w (.cells Jm 29);refine⟨(((br _ _).alloc (aZ _) _).alloc ao _),?_,⟨c,0,?_⟩⟩
  ·rw[tT _ _ z];exact cW _ _
  ·rw[←cy];exact cW _ _
 have yv:el ((w.alloc (.cells Jm 29)).alloc (.cells #[.slice a n c,.int .i64 0] 54)) (w.heap.size+1) a n:=by
  have cy:=i_ w (.cells Jm 29);have A:β w ((w.alloc (.cells Jm 29)).alloc (.cells #[.slice a n c,.int .i64 0] 54)):=((br _ _).alloc (aZ _) _).alloc ao _;refine⟨c,0,by rw[←cy];exact cW _ _,?_,fun q aC ae e=>?_⟩
  ·rcases ab with ab|⟨b,o,rfl,aK⟩
   ·exact .inl ab
   ·exact .inr ⟨b,o,rfl,fun i hi=>by obtain⟨x,aL⟩:=aK i hi;have iX:b<w.heap.size:=aA _ rfl z;exact⟨x,by rw[A.cell iX];exact aL⟩⟩
  ·have:=aA q aC ae;omega
 unfold Jm at GD yv;have z0:((w.alloc (.cells #[.string ⟨#[]⟩,.int .i64 0,.slice none 0 0,.slice none 0 0,.slice none 0 0,.int .i64 0] 29)).alloc (.cells #[.slice a n c,.int .i64 0] 54)).heap.size=w.heap.size+2:=ao;generalize ((w.alloc (.cells #[.string ⟨#[]⟩,.int .i64 0,.slice none 0 0,.slice none 0 0,.slice none 0 0,.int .i64 0] 29)).alloc (.cells #[.slice a n c,.int .i64 0] 54))=jB at GD yv z0⊢;have ar:=G GD;have Mq:=G yv;have eR:=G ab;clear GD yv ab;go_upto_block 0 with(first
  |(go_at_call 15;refine(qG _ (w.heap.size+1) a n 6 ak ak ap Mq.out).mono ?_;rintro e N Ct;have av:=G (ar.out.next Ct);obtain⟨⟨r,ng,aS,rfl⟩,Ct⟩:=Ct;obtain⟨s,rfl⟩:∃s:Nat,r=(s:Int):=⟨r.toNat,z⟩;have Ec:s<6:=z;clear Ct)
  |(go_at_call 14;refine(aId s Ec _).mono ?_;rintro e C ⟨rfl,bu⟩)
  |(go_at_call 13;refine(aGw s _).mono ?_;rintro e a_ ⟨⟨F,x,y,M,rfl,g,S,aE⟩,bD⟩;obtain⟨ca,cc,U,X,ra,rc,rfl,vr,Ox,Ou,Tp⟩:=S))
 have Tr:Sb (cA s) w a n a_.heap.size 0 (a_.alloc (.cells #[.string (cA s).nm,.int .i64 (cA s).db,.slice ca (cA s).bw.length cc,.slice U (cA s).aD.length X,.slice ra (cA s).df.length rc,.int .i64 (cA s).al] 29)):=
  ⟨_,M,(cA s).df,((av.out.K bu).K bD).to _,x5.hN ⟨_,_,_,_,_,_,rfl,vr,Ox,Ou,Tp⟩ (iR.K ((br _ _).alloc (aZ _) _)),g,List.Sublist.refl _,aZ _,aI4 s M aE⟩
 have O:=Qz s;have g7:=aLh s;have Au:=G (arB s);have aD:=G (aI3 s);have aS:=aI2 s;clear vr Ox Ou bu bD av ar Mq g z0 aE Tp;generalize (a_.alloc (.cells #[.string (cA s).nm,.int .i64 (cA s).db,.slice ca (cA s).bw.length cc,.slice U (cA s).aD.length X,.slice ra (cA s).df.length rc,.int .i64 (cA s).al] 29))=bw at Tr⊢;generalize a_.heap.size=gs at Tr⊢
 go_wp2_with fail;go_loopw [7] (fun i wr=>∃k:Nat,k<=3/\i=.int .i64 k/\Sb (cA s) w a n gs k wr) (fun i _=>3-(RowKit.intOf i).toNat);case atStart=>exact⟨0,z,rfl,Tr⟩
 case round=>
  clear Tr;obtain⟨k,bk,rfl,F,M,rs,B,S,g,Q,de,GH⟩:=hrel;have al:=G GH;have be:=G S;clear GH be;have bj:=S;obtain⟨ca,cc,U,X,ra,rc,rfl,vr,Ox,Ou,Tp⟩:=bj;clear Tp;by_cases au:k<3
  ·have mP:(k:Int)<3:=z;have ng:0<rs.length:=z;have RZ:=G B;have cm:=G S;clear B S vr Ox Ou;go_upto_block 2 with(first
    |(have aN:=aR;go_at_call 16;refine(axJ (cA s) O J M rs ng Q ca U ra cc X rc RR.out.1 RR.out.2.1 RR.out.2.2).mono ?_;rintro e N ⟨⟨iE,iS,ew,Y,d,l,rfl,az⟩,bf⟩)
    |(have aN:=Pa;go_at_call 15;refine(qG _ (w.heap.size+1) a n 40 ak ak ap (RX.out.num eR.out aA)).mono ?_;rintro e J ud;have RY:=G (RX.out.next ud).1;have lO:=G (ts.out.hN (RX.out.next ud).2);obtain⟨⟨aJ,aR,bo,rfl⟩,ud⟩:=ud;clear ud;obtain⟨E,rfl⟩:∃q:Nat,aJ=(q:Int):=⟨aJ.toNat,z⟩;have RR:Hid (jd J ca (cA s).bw/\BP J U (cA s).aD M/\BN J ra rs):=(by obtain⟨gJ,gK,bs,bt,gu,gv,aO,H,I,ah,_⟩:=lO.out;cases aO;exact G ⟨H,I,ah⟩);obtain⟨hv,eD,e',hw,j6,ma⟩:=f_ RY.out.g)
    |(go_at_call 15;refine(qG _ (w.heap.size+1) a n 4 ak ak ap (RZ.out.num eR.out aA)).mono ?_;rintro e am l1;have RX:=G (RZ.out.next l1).1;have ts:=G (cm.out.hN (RZ.out.next l1).2);obtain⟨⟨j0,Pa,aQ,rfl⟩,l1⟩:=l1;clear l1;obtain⟨Z,rfl⟩:∃q:Nat,j0=(q:Int):=⟨j0.toNat,z⟩))
   have L2:β N (N.alloc (.cells #[.string (cA s).nm,.int .i64 (cA s).db,.slice iE (cA s).bw.length iS,.slice (some ⟨ew,0,none⟩) (cA s).aD.length Y,.slice (some ⟨d,0,none⟩) rs.length l,.int .i64 (cA s).al] 29)):=(br _ _).alloc (aZ _) _;have D:=az.hN (iR.K L2);have V:β J (N.alloc (.cells #[.string (cA s).nm,.int .i64 (cA s).db,.slice iE (cA s).bw.length iS,.slice (some ⟨ew,0,none⟩) (cA s).aD.length Y,.slice (some ⟨d,0,none⟩) rs.length l,.int .i64 (cA s).al] 29)):=cj bf L2;have m:(N.alloc (.cells #[.string (cA s).nm,.int .i64 (cA s).db,.slice iE (cA s).bw.length iS,.slice (some ⟨ew,0,none⟩) (cA s).aD.length Y,.slice (some ⟨d,0,none⟩) rs.length l,.int .i64 (cA s).al] 29)).heap[N.heap.size]? =some (.cells #[.string (cA s).nm,.int .i64 (cA s).db,.slice iE (cA s).bw.length iS,.slice (some ⟨ew,0,none⟩) (cA s).aD.length Y,.slice (some ⟨d,0,none⟩) rs.length l,.int .i64 (cA s).al] 29 (0,0)):=cW _ _;have O6:J.heap.size<=N.heap.size:=bf.size;have aP:13<=J.heap.size:=by have:=RY.out.b.size;omega
   clear az bf L2 RX ts RZ cm Pa aQ hv eD e' hw j6 ma RR;generalize (N.alloc (.cells #[.string (cA s).nm,.int .i64 (cA s).db,.slice iE (cA s).bw.length iS,.slice (some ⟨ew,0,none⟩) (cA s).aD.length Y,.slice (some ⟨d,0,none⟩) rs.length l,.int .i64 (cA s).al] 29))=C at D V m⊢;generalize N.heap.size=f at m O6⊢;go_cut [] (fun cY=>Jb (cA s) k f J cY);case first=>
    obtain⟨-,-,-,bq,cI⟩:=ai1 m;have z4:C.frozen? ⟨f,4,none⟩=false:=by simp[World.frozen?,m]
    have Ck:=c8 m;by_cases b4:Z=1
    ·subst b4;have Cm:((rs.length:Int)==0)=false:=by rw[lp];omega
     go_upto_region 12 with fail
     rw[show(E:Int)%(rs.length:Int)=((E%rs.length:Nat):Int)from rfl];have ai:=zu E ng;generalize E%rs.length=t at ai⊢;obtain⟨arr,ax,K⟩:=D.fX;have kE:=D.rl;have L:=G (D.hN (iR.K (lh C)));have R:Hid (C.drew.heap[d]? =some (Obj.cells arr 96 (0,0))):=G ax;have bp:rs.length<=40:=cO Q.length_le O.df;have dI:(0:Int)<=(t:Int):=z;have cG:(t:Int)<=(l:Int):=z;have t3:(t:Int)+1<=(rs.length:Int):=z;have t4:(t:Int)+1<=(l:Int):=z;have t5:IntKind.i64.wrap ((t:Int)+1)=(t:Int)+1:=pw _ ⟨z,z⟩;have ky:(rs.length:Int)<=(l:Int):=z;have Fb:(0:Int)<=(t:Int)+1:=z;have Lm:(t:Int)<=(t:Int)+1:=z;have t9:t<=t+1:=z;clear ax;have aH:f≠d:=fun e=>by rw[e]at m;have:=R.out;rw[show C.drew.heap[d]? =C.heap[d]? from rfl,m]at this;cases this
     by_cases kt:l=t+1
     ·subst kt
      go_region_law (first|(refine step_append_room (by rfl) _ _ _ (by rfl) 96 Um 4 aeY TT jn d 0 t (t+1) (by rfl) ⟨d,0,none⟩ 0 0 (n3 arr t rs.length) (by rfl) (by rw[H9 L.out K ai];omega) (fun j u aa=>by have ae:=H9 L.out K ai;have H:=(k2.1 aa).1;omega) (asd L.out R.out K ai) z (arI L.out R.out K ai) ?_;have KI:(C.drew.setCells d (t*4) (n3 arr t rs.length)).cell? ⟨f,4,none⟩=some (.slice (some ⟨d,0,none⟩) rs.length (t+1)):=(by rw[ae4 _ _ _ _ _ (fun e _=>absurd e aH)];exact cI);have z9:(C.drew.setCells d (t*4) (n3 arr t rs.length)).frozen? ⟨f,4,none⟩=false:=(by rw[asR];exact z4)))
      all_goals(
       go_wp2_with fail
       go_meet
       exact api V.drew m O6 L.out R.out K ai z g Q de)
     ·go_region_law (first|(refine step_append_room (by rfl) _ _ _ (by rfl) 96 Um 4 aeY TT jn d 0 t (l) (by rfl) ⟨d,(t+1)*4,none⟩ (rs.length-(t+1)) (l-(t+1)) (n3 arr t rs.length) (by rfl) (by rw[H9 L.out K ai];omega) (aJ2 L.out R.out K ai) (asd L.out R.out K ai) z (arI L.out R.out K ai) ?_;have KI:(C.drew.setCells d (t*4) (n3 arr t rs.length)).cell? ⟨f,4,none⟩=some (.slice (some ⟨d,0,none⟩) rs.length (l)):=(by rw[ae4 _ _ _ _ _ (fun e _=>absurd e aH)];exact cI);have z9:(C.drew.setCells d (t*4) (n3 arr t rs.length)).frozen? ⟨f,4,none⟩=false:=(by rw[asR];exact z4)))
      all_goals(
       go_wp2_with fail
       go_meet
       exact api V.drew m O6 L.out R.out K ai z g Q de)
    by_cases dF:Z=2
    ·subst dF;have aV:=O.xI;have Cm:(((cA s).aD.length:Int)==0)=false:=by rw[lp];omega
     go_upto_region 15 with fail
     rw[show(E:Int)%((cA s).aD.length:Int)=((E%(cA s).aD.length:Nat):Int)from rfl];have ai:=zu E O.xI;generalize E%(cA s).aD.length=t at ai⊢;have r4:=O.aD;obtain⟨aX,ad⟩:=D.bP;obtain⟨bc,bb,s3,_,kF⟩:=D.s;cases s3;have ba:=(kF t ai).2.2;simp only[gP]at ba;have dE:C.frozen? ⟨ew,t*3+2,none⟩=false:=by simp[World.frozen?,ad]
     have gp:=(g t).1;have a':=(g t).2;have dI:(0:Int)<=(t:Int):=z;have cG:(t:Int)<((cA s).aD.length:Int):=z;have t3:(t:Int)<=1000:=z;have t4:(M t:Int)<=5:=z;have t5:(1:Int)<=(M t:Int):=z;clear kF
     go_region
     all_goals(
      go_wp2_with fail
      go_meet
      rw[show max (1:Int) ((M t:Int)-1)=((max 1 (M t-1):Nat):Int) by omega]
      exact(apj V m D ai z g Q de).drew)
    by_cases gL:Z=3
    ·subst gL;have aV:=O.xI;have Cm:(((cA s).aD.length:Int)==0)=false:=by rw[lp];omega
     go_upto_region 18 with fail
     rw[show(E:Int)%((cA s).aD.length:Int)=((E%(cA s).aD.length:Nat):Int)from rfl];have ai:=zu E O.xI;generalize E%(cA s).aD.length=t at ai⊢;have r4:=O.aD;obtain⟨aX,ad⟩:=D.bP;obtain⟨bc,bb,s3,_,kF⟩:=D.s;cases s3;have ba:=(kF t ai).2.2;simp only[gP]at ba;have dE:C.frozen? ⟨ew,t*3+2,none⟩=false:=by simp[World.frozen?,ad]
     have gp:=(g t).1;have a':=(g t).2;have dI:(0:Int)<=(t:Int):=z;have cG:(t:Int)<((cA s).aD.length:Int):=z;have t3:(t:Int)<=1000:=z;have t4:(M t:Int)<=5:=z;have t5:(1:Int)<=(M t:Int):=z;clear kF
     go_region
     all_goals(
      go_wp2_with fail
      go_meet
      rw[show min (5:Int) ((M t:Int)+1)=((min 5 (M t+1):Nat):Int) by omega]
      exact(apj V m D ai z g Q de).drew)
    have hA:((Z:Int)==1)=false:=bz;have gU:((Z:Int)==2)=false:=bz;have kf:((Z:Int)==3)=false:=bz
    go_wp2_with fail;go_meet;exact⟨V,M,rs,iE,iS,ew,Y,d,l,m,D,g,Q,z⟩
   case rest=>
    obtain⟨hB,zM,T,SD,SH,ag,Vx,aj,Vj,T6,GE,ay,af,aU⟩:=hcut;clear D V m;obtain⟨ae,H,I,ah,aM,b3⟩:=f_ T6;have bl:13<=wc.heap.size:=cO aP hB.size;have FL:=G GE;obtain⟨bg,aw⟩:∃bI:Nat->Nat->Nat,zP bI T/\∀j,j<=zM (cA s).al->bI (cA s).al j≠0->yj T zM (cA s).al:=⟨_,axR O.need aD.out af,fun j H I=>aJw aD.out H I⟩;have an:=G aw;clear GE aw
    go_wp2
    go_region_held3 (fun W=>W.cell? ⟨f,0,none⟩=some (.string (cA s).nm)/\W.cell? ⟨f,1,none⟩=some (.int .i64 (cA s).db)/\W.cell? ⟨f,2,none⟩=some (.slice SD (cA s).bw.length SH)/\W.cell? ⟨f,3,none⟩=some (.slice (some ⟨ag,0,none⟩) (cA s).aD.length Vx)/\W.cell? ⟨f,4,none⟩=some (.slice (some ⟨aj,0,none⟩) T.length Vj)/\W.cell? ⟨f,5,none⟩=some (.int .i64 (cA s).al))
     (first|exact⟨ae,H,I,ah,aM,b3⟩|exact⟨eN,dv,dy,gj,hF,hQ⟩|exact⟨t0,dI,cG,t3,t4,t5⟩)
     (first
      |(go_at_call 18;refine(aie _ (by show 13<=wc.heap.size;omega)).mono ?_;rintro e bi ⟨⟨bv,rfl,aF⟩,dm⟩;have T7:bi.heap[f]? =some (.cells #[.string (cA s).nm,.int .i64 (cA s).db,.slice SD (cA s).bw.length SH,.slice (some ⟨ag,0,none⟩) (cA s).aD.length Vx,.slice (some ⟨aj,0,none⟩) T.length Vj,.int .i64 (cA s).al] 29 (0,0)):=(by rw[dm.block f (c8 T6)];exact T6);have FM:=G (FL.out.hN (iR.trans (iR.K (lh wc)) (iR.K dm)));obtain⟨eN,dv,dy,gj,hF,hQ⟩:=f_ T7)
      |(go_at_call 17;refine(axk (cA s) O Au.out bg g7 bi zM ay T af an.out.1 SD _ _ SH Vx Vj FM.out.c FM.out.s.at FM.out.r.at bv aF).mono ?_;rintro e w7 ⟨⟨bx,ti,rfl,Kg⟩,iu⟩;have bh:=G Kg;clear Kg;have aI:w7.heap[f]? =some (.cells #[.string (cA s).nm,.int .i64 (cA s).db,.slice SD (cA s).bw.length SH,.slice (some ⟨ag,0,none⟩) (cA s).aD.length Vx,.slice (some ⟨aj,0,none⟩) T.length Vj,.int .i64 (cA s).al] 29 (0,0)):=(by rw[iu.block f (c8 T7)];exact T7);obtain⟨t0,dI,cG,t3,t4,t5⟩:=f_ aI))
    have gy:β wc bi:=(lh wc).trans dm;have WH:β J w7:=(cj hB gy).trans (iu.mono (cO hB.size gy.size));have P:=RY.out.K WH;have aG:=lO.out.hN (iR.K WH);have Ts:=FM.out.hN (iR.K iu);obtain⟨hv,eD,e',hw,j6,ma⟩:=f_ P.g;have dX:w7.frozen? ⟨gs,0,none⟩=false:=by simp[World.frozen?,P.g]
    have dl:w7.frozen? ⟨gs,1,none⟩=false:=by simp[World.frozen?,P.g]
    have dE:w7.frozen? ⟨gs,2,none⟩=false:=by simp[World.frozen?,P.g]
    have cH:w7.frozen? ⟨gs,3,none⟩=false:=by simp[World.frozen?,P.g]
    have ja:w7.frozen? ⟨gs,4,none⟩=false:=by simp[World.frozen?,P.g]
    have jS:w7.frozen? ⟨gs,5,none⟩=false:=by simp[World.frozen?,P.g]
    have MO:Hid (Sb (cA s) w a n gs (k+1) w7):=G ⟨_,M,rs,P,aG,g,Q,z,al.out⟩;have Sg:=G (fun yw:yj T zM (cA s).al=>aEA P Ts.azC ay af aU yw);clear P aG Ts FM FL gy WH hB T6 T7 aI ae H I ah aM b3 eN dv dy gj hF hQ RY lO aF;by_cases aB:ti=0
    ·subst aB;have Sg:=G (Sg.out (by obtain⟨aY,aT,mM⟩:=bh.out rfl;exact an.out.2 aY aT mM))
     go_wp2;go_roundw;case rel=>first|exact⟨k+1,z,bG,Sg.out⟩|((repeat apply Exists.intro);refine⟨?_,rfl⟩;exact⟨k+1,z,bG,Sg.out⟩)
     case measure=>simp[RowKit.intOf];omega
    ·have AO:(ti==0)=false:=by simpa using aB
     go_wp2;go_roundw;case rel=>first|exact⟨k+1,z,bG,MO.out⟩|((repeat apply Exists.intro);refine⟨?_,rfl⟩;exact⟨k+1,z,bG,MO.out⟩)
     case measure=>simp[RowKit.intOf];omega
  ·have mP:¬(k:Int)<3:=z;obtain⟨hv,eD,e',hw,j6,ma⟩:=f_ B.g;obtain⟨eN,dv,dy,gj,hF,hQ⟩:=f_ B.q;have dX:wr.frozen? ⟨w.heap.size,0,none⟩=false:=by simp[World.frozen?,B.q]
   have dl:wr.frozen? ⟨w.heap.size,1,none⟩=false:=by simp[World.frozen?,B.q]
   have dE:wr.frozen? ⟨w.heap.size,2,none⟩=false:=by simp[World.frozen?,B.q]
   have cH:wr.frozen? ⟨w.heap.size,3,none⟩=false:=by simp[World.frozen?,B.q]
   have ja:wr.frozen? ⟨w.heap.size,4,none⟩=false:=by simp[World.frozen?,B.q]
   have jS:wr.frozen? ⟨w.heap.size,5,none⟩=false:=by simp[World.frozen?,B.q]
   have Mi:=G (am8 B.q (.string (cA s).nm) (.int .i64 (cA s).db) (.slice ca (cA s).bw.length cc) (.slice U (cA s).aD.length X) (.slice ra rs.length rc) (.int .i64 (cA s).al));have fy:=G (Yo B.b (b:=w.heap.size) (aZ _) (.string (cA s).nm) (.int .i64 (cA s).db) (.slice ca (cA s).bw.length cc) (.slice U (cA s).aD.length X) (.slice ra rs.length rc) (.int .i64 (cA s).al));have jH:=G S;clear B S vr Ox Ou
   go_wp2;refine jT (ae7 (fn:=f5) rfl _ _ w.heap.size 29 _ (0,0) _ rfl Mi.out.2 underlying29 rfl arz) rfl ?_;exact⟨⟨s,M,rs,_,rfl,jH.out.hN Mi.out.1,g,Q,z,al.out⟩,fy.out⟩
end Go.bh.N
namespace Go.aJ
open Go Go.Proofs.Tryz Go.cv Go.Proofs Go.RowKit
def ks:Value:=.agg #[.int .i64 1,.int .i64 12]
def Ln(r:Bool):PanicEntry:={v:=.iface 226 ks,recovered:=r}
variable{P:Program}{ops:Array Oper}{i:Nat}{rest:List Nat}{a a':Act}{w w':World}{o:Oper}{v:Value}
theorem xz{dY:Exit->Act->List Frame->World->Prop}{cs:List Frame}(c:ops[i]? =some o)(d:Region.wanted o (yielded ops a.tmps)=true)(b:(execOp a.eval o).run P w=.ok (.value v) w')(aH:a.put o.dst v=a')(h:wpOpsS P ops dY rest a' cs w'):wpOpsS P ops dY (i::rest) a cs w:=by
 simp only[wpOpsS,c,d,ox,b,Oper.upon];rw[aH];exact h
theorem apK{dY:Exit->Act->List Frame->World->Prop}{cs:List Frame}(c:ops[i]? =some o)(d:Region.wanted o (yielded ops a.tmps)=true)(b:(execOp a.eval o).run P w=.ok .skip w')(aH:a.put o.dst undef=a')(h:wpOpsS P ops dY rest a' cs w'):wpOpsS P ops dY (i::rest) a cs w:=by
 simp only[wpOpsS,c,d,ox,b,Oper.upon];rw[aH];exact h
theorem aGa{dY:Exit->Act->List Frame->World->Prop}{cs b:List Frame}(d:ops[i]? =some o)(e:Region.wanted o (yielded ops a.tmps)=true)(c:(execOp a.eval o).run P w=.ok .recover w')(hd:recoverD cs=some (v,b))(aH:a.put o.dst v=a')(h:wpOpsS P ops dY rest a' b w'):wpOpsS P ops dY (i::rest) a cs w:=by
 simp only[wpOpsS,d,e,ox,c,hd];rw[aH];exact h
theorem aF'{dY:Exit->Act->List Frame->World->Prop}{cs:List Frame}(c:ops[i]? =some o)(d:Region.wanted o (yielded ops a.tmps)=true)(b:(execOp a.eval o).run P w=.ok .recover w')(hd:recoverD cs=none)(aH:a.put o.dst .nilIface=a')(h:wpOpsS P ops dY rest a' cs w'):wpOpsS P ops dY (i::rest) a cs w:=by
 simp only[wpOpsS,c,d,ox,b,hd];rw[aH];exact h
def ob(g f h:Nat)(e j k i d b c a:Value):Act:={tmps:=#[.pointer (some ⟨g,0,none⟩),.pointer (some ⟨f,0,none⟩),.pointer (some ⟨h,0,none⟩),e,j,k,i,d,b,c,a,undef,undef,undef,undef],defers:=[]}
theorem aw8(w:World)(c a d:Nat)(s va r:Value)(ag:w.heap[c]? =some (.cells #[s] 149 (0,0)))(aH:w.heap[a]? =some (.cells #[va] 3 (0,0)))(aO:w.heap[d]? =some (.cells #[r] 50 (0,0))): CallsD prog 162 #[.pointer (some ⟨c,0,none⟩),.pointer (some ⟨a,0,none⟩),.pointer (some ⟨d,0,none⟩)] (.panicking [Ln false]) w fun e C w'=> e=.returned (.tuple #[])/\C=.panicking [Ln true]/\w'.cell? ⟨c,0,none⟩=some (.slice none 0 0)/\w'.cell? ⟨a,0,none⟩=some (.int .i64 1)/\w'.cell? ⟨d,0,none⟩=some (.int .i64 12)/\∀base,base<=c->base<=a->base<=d->base<=w.heap.size->Below base w w':=by
 refine callsD_of_wpS func162 rfl fun k cs hu=>?_;apply wpS_seq;apply wpS_region;have hd:recoverD (k::cs)=some (.iface 226 ks,{k with mode:=.panicking [Ln true]}::cs):=by simp[recoverD,hu,Ln]
 rw[ntmps162];generalize B:{k with mode:=.panicking [Ln true]}::cs=M;have a0:({tmps:=#[.pointer (some ⟨c,0,none⟩),.pointer (some ⟨a,0,none⟩),.pointer (some ⟨d,0,none⟩)]++Array.replicate (15-(#[Value.pointer (some ⟨c,0,none⟩),.pointer (some ⟨a,0,none⟩),.pointer (some ⟨d,0,none⟩)]:Array Value).size) undef,defers:=[]}:Act)=ob c a d undef undef undef undef undef undef undef undef:=av;rw[a0];rw[aeO];simp only[afi,l7,uJ,Nat.reduceAdd];rw[show List.range' 0 8=[0,1,2,3,4,5,6,7]from rfl];generalize f:(#[_,_,_,_,_,_,_,_]:Array Oper)=ops;refine aGa (ops:=ops) (a':=ob c a d undef undef undef (.iface 226 ks) undef undef undef undef) (w':=w) (by subst f;rfl) (by subst f;kernel_rfl) av hd av ?_;refine xz (v:=.tuple #[ks,.bool true]) (a':=ob c a d undef undef undef (.iface 226 ks) (.tuple #[ks,.bool true]) undef undef undef) (w':=w) (by subst f;rfl) (by subst f;kernel_rfl) av av ?_;refine xz (v:=.tuple #[ks,.bool true]) (a':=ob c a d undef undef (.tuple #[ks,.bool true]) (.iface 226 ks) (.tuple #[ks,.bool true]) undef undef undef) (w':=w) (by subst f;rfl) (by subst f;kernel_rfl) av av ?_;refine xz (v:=ks) (a':=ob c a d undef undef (.tuple #[ks,.bool true]) (.iface 226 ks) (.tuple #[ks,.bool true]) ks undef undef) (w':=w) (by subst f;rfl) (by subst f;kernel_rfl) av av ?_;refine xz (v:=.bool true) (a':=ob c a d undef undef (.tuple #[ks,.bool true]) (.iface 226 ks) (.tuple #[ks,.bool true]) ks (.bool true) undef) (w':=w) (by subst f;rfl) (by subst f;kernel_rfl) av av ?_;refine xz (v:=.pointer (some ⟨w,0,none⟩)) (a':=ob c a d (.pointer (some ⟨w,0,none⟩)) undef (.tuple #[ks,.bool true]) (.iface 226 ks) (.tuple #[ks,.bool true]) ks (.bool true) undef) (w':=w.alloc (.cells #[.int .i64 0,.int .i64 0] 226 (0,0))) (by subst f;rfl) (by subst f;kernel_rfl) av av ?_;refine apK (a':=ob c a d (.pointer (some ⟨w,0,none⟩)) undef (.tuple #[ks,.bool true]) (.iface 226 ks) (.tuple #[ks,.bool true]) ks (.bool true) undef) (w':=w.alloc (.cells #[.int .i64 1,.int .i64 12] 226 (0,0))) (by subst f;rfl) (by subst f;kernel_rfl) (by simp[go_sem,execOp,ob,Act.eval,ks]) av ?_;refine xz (v:=.bool true) (a':=ob c a d (.pointer (some ⟨w,0,none⟩)) (.bool true) (.tuple #[ks,.bool true]) (.iface 226 ks) (.tuple #[ks,.bool true]) ks (.bool true) undef) (w':=w.alloc (.cells #[.int .i64 1,.int .i64 12] 226 (0,0))) (by subst f;rfl) (by subst f;kernel_rfl) av av ?_;clear f a0 hd;show Code.wpS _ _ _ _ _ _;refine wpS_of_wp ?_;unfold ob;have n:c<w.heap.size:=(g6.1 ag).1;have l:a<w.heap.size:=(g6.1 aH).1;have m:d<w.heap.size:=(g6.1 aO).1;have bo:w.cell? ⟨c,0,none⟩=some s:=by simp[World.cell?,ag]
 have c1:w.cell? ⟨a,0,none⟩=some va:=by simp[World.cell?,aH]
 have c2:w.cell? ⟨d,0,none⟩=some r:=by simp[World.cell?,aO]
 have z0:w.frozen? ⟨c,0,none⟩=false:=by simp[World.frozen?,ag]
 have u:w.frozen? ⟨a,0,none⟩=false:=by simp[World.frozen?,aH]
 have x:w.frozen? ⟨d,0,none⟩=false:=by simp[World.frozen?,aO]
 have b5:c≠a:=fun e=>by subst e;rw[ag]at aH;simp at aH
 have eK:c≠d:=fun e=>by subst e;rw[ag]at aO;simp at aO
 have g0:a≠d:=fun e=>by subst e;rw[aH]at aO;simp at aO
 have D:c≠w.heap.size:=z;have n5:a≠w.heap.size:=z;have E:d≠w.heap.size:=z;have g:=Re (br w w) (aZ _) (.cells #[.int .i64 1,.int .i64 12] 226 (0,0));have c3:(w.alloc (.cells #[.int .i64 1,.int .i64 12] 226 (0,0))).cell? ⟨w,0,none⟩=some (.int .i64 1):=aK 0 (cW w _);have c4:(w.alloc (.cells #[.int .i64 1,.int .i64 12] 226 (0,0))).cell? ⟨w,1,none⟩=some (.int .i64 12):=aK 1 (cW w _);have rQ:=az g n bo;have ve:=az g l c1;have q1:=az g m c2;have F:=rj g n z0;have K:=rj g l u;have L:=rj g m x;have A:=G g;clear g;generalize w.alloc (.cells #[.int .i64 1,.int .i64 12] 226 (0,0))=W at*;obtain⟨j,o⟩:∃j,Hid (j=w.heap.size):=⟨_,rfl⟩;rw[←o.out]at c3 c4 D n5 E;rw[←o.out];clear ag aH aO B bo c1 c2 z0 u x n l m
 go_wp2
 go_region_held3 (fun W=>W.cell? ⟨j,0,none⟩=some (.int .i64 1)/\W.cell? ⟨j,1,none⟩=some (.int .i64 12)) (go_keep) (fail);show bodyPostS _ _ _ _ _ _ _ _ _;refine⟨rfl,_,rfl,.tuple #[],by simp[results,results162],rfl,rfl,?_,?_,?_,?_⟩;exact acG;exact acG;exact acG;intro base H I y q;rw[o.out]at q;exact(Below.setCell (Below.setCell (Below.setCell (A.out.mono q) (p:=⟨c,0,none⟩) H _) (p:=⟨a,0,none⟩) I _) (p:=⟨d,0,none⟩) y _).drew
def ow:Value:=.agg #[.int .i64 0,.int .i64 0]
theorem aw7(w:World)(c b d:Nat): CallsD prog 162 #[.pointer (some ⟨c,0,none⟩),.pointer (some ⟨b,0,none⟩),.pointer (some ⟨d,0,none⟩)] .returning w fun e g w'=> e=.returned (.tuple #[])/\g=.returning/\β w w':=by
 refine callsD_of_wpS func162 rfl fun f cs hu=>?_;apply wpS_seq;apply wpS_region;have hd:recoverD (f::cs)=none:=by simp[recoverD,hu]
 rw[ntmps162];have a0:({tmps:=#[.pointer (some ⟨c,0,none⟩),.pointer (some ⟨b,0,none⟩),.pointer (some ⟨d,0,none⟩)]++Array.replicate (15-(#[Value.pointer (some ⟨c,0,none⟩),.pointer (some ⟨b,0,none⟩),.pointer (some ⟨d,0,none⟩)]:Array Value).size) undef,defers:=[]}:Act)=ob c b d undef undef undef undef undef undef undef undef:=av;rw[a0];rw[aeO];simp only[afi,l7,uJ,Nat.reduceAdd];rw[show List.range' 0 8=[0,1,2,3,4,5,6,7]from rfl];generalize a:(#[_,_,_,_,_,_,_,_]:Array Oper)=ops;refine aF' (ops:=ops) (a':=ob c b d undef undef undef .nilIface undef undef undef undef) (w':=w) (by subst a;rfl) (by subst a;kernel_rfl) av hd av ?_;refine xz (v:=.tuple #[ow,.bool false]) (a':=ob c b d undef undef undef .nilIface (.tuple #[ow,.bool false]) undef undef undef) (w':=w) (by subst a;rfl) (by subst a;kernel_rfl) av av ?_;refine xz (v:=.tuple #[ow,.bool false]) (a':=ob c b d undef undef (.tuple #[ow,.bool false]) .nilIface (.tuple #[ow,.bool false]) undef undef undef) (w':=w) (by subst a;rfl) (by subst a;kernel_rfl) av av ?_;refine xz (v:=ow) (a':=ob c b d undef undef (.tuple #[ow,.bool false]) .nilIface (.tuple #[ow,.bool false]) ow undef undef) (w':=w) (by subst a;rfl) (by subst a;kernel_rfl) av av ?_;refine xz (v:=.bool false) (a':=ob c b d undef undef (.tuple #[ow,.bool false]) .nilIface (.tuple #[ow,.bool false]) ow (.bool false) undef) (w':=w) (by subst a;rfl) (by subst a;kernel_rfl) av av ?_;refine xz (v:=.pointer (some ⟨w,0,none⟩)) (a':=ob c b d (.pointer (some ⟨w,0,none⟩)) undef (.tuple #[ow,.bool false]) .nilIface (.tuple #[ow,.bool false]) ow (.bool false) undef) (w':=w.alloc (.cells #[.int .i64 0,.int .i64 0] 226 (0,0))) (by subst a;rfl) (by subst a;kernel_rfl) av av ?_;refine apK (a':=ob c b d (.pointer (some ⟨w,0,none⟩)) undef (.tuple #[ow,.bool false]) .nilIface (.tuple #[ow,.bool false]) ow (.bool false) undef) (w':=w.alloc (.cells #[.int .i64 0,.int .i64 0] 226 (0,0))) (by subst a;rfl) (by subst a;kernel_rfl) (by simp[go_sem,execOp,ob,Act.eval,ow]) av ?_;refine xz (v:=.bool false) (a':=ob c b d (.pointer (some ⟨w,0,none⟩)) (.bool false) (.tuple #[ow,.bool false]) .nilIface (.tuple #[ow,.bool false]) ow (.bool false) undef) (w':=w.alloc (.cells #[.int .i64 0,.int .i64 0] 226 (0,0))) (by subst a;rfl) (by subst a;kernel_rfl) av av ?_;clear a a0 hd;show Code.wpS _ _ _ _ _ _;refine wpS_of_wp ?_;unfold ob
 go_wp2;refine⟨rfl,.returning,?_,.tuple #[],by simp[results,results162],rfl,rfl,(br _ _).alloc (aZ _) _⟩;cases f
 simp_all
theorem fb.ee{base g:Nat}{a b c:World}(h:Below base a b)(k:fb g b c)(an:base<=g)(A:base<=b.heap.size):Below base a c:=
 ⟨k.os.trans h.os,k.tape.trans h.tape,k.output.trans h.output,cO h.size k.size,fun r d=>(k.block r z z).trans (h.block r d)⟩
structure atp (w W:World) (s:ByteArray) (et eI fc g:Nat):Prop where
 p:W.heap[et]? =some (.cells #[.slice none 0 0] 149 (0,0))
 a:W.heap[eI]? =some (.cells #[.int .i64 0] 3 (0,0))
 e:W.heap[fc]? =some (.cells #[.int .i64 0] 50 (0,0))
 r:W.heap[g]? =some (.cells #[.string s,.int .i64 0,.slice none 0 0] 230 (0,0))
 h:β w W
 ag:w.heap.size<=et
 aH:w.heap.size<=eI
 aO:w.heap.size<=fc
 an:w.heap.size<=g
 lt:et<g/\eI<g/\fc<g/\g<W.heap.size
theorem aj0(w:World)(s:ByteArray):atp w ((((w.alloc (.cells #[.slice none 0 0] 149 (0,0))).alloc (.cells #[.int .i64 0] 3 (0,0))).alloc (.cells #[.int .i64 0] 50 (0,0))).alloc (.cells #[s,.int .i64 0,.slice none 0 0] 230 (0,0))) s w (w.heap.size+1) (w.heap.size+1+1) (w.heap.size+1+1+1):=by
 have q:=i_ w (.cells #[.slice none 0 0] 149 (0,0));have H:=cW w (.cells #[.slice none 0 0] 149 (0,0));have m:=Re (br w w) (aZ _) (.cells #[.slice none 0 0] 149 (0,0));generalize w.alloc (.cells #[.slice none 0 0] 149 (0,0))=a at*;have t:=i_ a (.cells #[.int .i64 0] 3 (0,0));have I:=cW a (.cells #[.int .i64 0] 3 (0,0));have n:=fun {k}=>tT a (.cells #[.int .i64 0] 3 (0,0)) (k:=k);have j:=m.alloc z (.cells #[.int .i64 0] 3 (0,0));generalize a.alloc (.cells #[.int .i64 0] 3 (0,0))=b at*;have u:=i_ b (.cells #[.int .i64 0] 50 (0,0));have i:=cW b (.cells #[.int .i64 0] 50 (0,0));have e:=fun {k}=>tT b (.cells #[.int .i64 0] 50 (0,0)) (k:=k);have cw:=j.alloc z (.cells #[.int .i64 0] 50 (0,0));generalize b.alloc (.cells #[.int .i64 0] 50 (0,0))=c at*;have x:=i_ c (.cells #[s,.int .i64 0,.slice none 0 0] 230 (0,0));have g:=cW c (.cells #[s,.int .i64 0,.slice none 0 0] 230 (0,0));have d:=fun {k}=>tT c (.cells #[s,.int .i64 0,.slice none 0 0] 230 (0,0)) (k:=k);have o:=cw.alloc z (.cells #[s,.int .i64 0,.slice none 0 0] 230 (0,0));generalize c.alloc (.cells #[s,.int .i64 0,.slice none 0 0] 230 (0,0))=r at*;have aj:a.heap.size=w.heap.size+1:=z;have f:b.heap.size=w.heap.size+1+1:=z;have l:c.heap.size=w.heap.size+1+1+1:=z;refine⟨?_,?_,?_,?_,o,z,z,z,z,z⟩;rw[d z,e z,n z];exact H;rw[d z,e z,←aj];exact I;rw[d z,←f];exact i;rw[←l];exact g
theorem aGy(w:World):χ 83 #[.string (eU [120,43])] w fun e w'=>e=.returned (.tuple #[.slice none 0 0,.int .i64 1,.int .i64 12]):=by
 have J:∀(fn:Fn) (first cap:Array Value) (w:World),(Instr.makeFunc fn first cap).run prog w=.ok (.func fn first cap) w:=fun _ _ _ _=>rfl;have L:(eU [120,43]).size=2:=rfl;have F:=aj0 w (eU [120,43]);generalize m:eU [120,43]=bP at*
 go_enter_defers func83,ntmps83
 go_wp2;generalize ((((w.alloc (.cells #[.slice none 0 0] 149 (0,0))).alloc (.cells #[.int .i64 0] 3 (0,0))).alloc (.cells #[.int .i64 0] 50 (0,0))).alloc (.cells #[bP,.int .i64 0,.slice none 0 0] 230 (0,0)))=W at*;generalize H:w.heap.size+1+1+1=g at*;generalize N:w.heap.size+1+1=i at*;generalize I:w.heap.size+1=d at*;obtain⟨b,j⟩:∃b,Hid (b=w.heap.size):=⟨_,rfl⟩;have a:=G F;rw[←j.out]at F;rw[←j.out];have c1:W.cell? ⟨g,1,none⟩=some (.int .i64 0):=by simp[World.cell?,F.r]
 refine Bn 2 ?_;rw[py]
 go_wp2_with (go_at_call 163;refine(aE9 g _ (by rw[m];exact F.r)).mono ?_;rintro e n ⟨rfl,C,x,o,D,k⟩;rw[m]at k;have c2:n.cell? ⟨g,1,none⟩=some (.int .i64 1):=(by simp[World.cell?,k]));rw[py];have r:g<n.heap.size:=(g6.1 k).1
 go_wp2_with (go_at_call 163;refine(aE_ g _ x o D r (by rw[m];exact k)).mono ?_;rintro e K ⟨rfl,s⟩);have c:=C.trans s;have q:b≠g/\d≠g/\i≠g:=by have:=a.out.lt;have:=j.out;omega
 have l:b<W/\d<W/\i<W.heap.size:=by have:=a.out.lt;have:=j.out;omega
 refine leaves_cons (f:=162) (args:=#[.pointer (some ⟨b,0,none⟩),.pointer (some ⟨d,0,none⟩),.pointer (some ⟨i,0,none⟩)]) ao (by simp[go_sem]) ?_;refine(aw8 _ b d i _ _ _ ((c.block b l.1 q.1).trans F.p) ((c.block d l.2.1 q.2.1).trans F.a) ((c.block i l.2.2 q.2.2).trans F.e)).mono ?_;rintro e M E ⟨rfl,rfl,A,z,B,u⟩;have t:=u w (by rw[j.out];exact aZ _) a.out.aH a.out.aO (cO a.out.h.size c.size);have y:Hid (β w E):=(fb.ee a.out.h c a.out.an a.out.h.size).trans t;simp[Leaves,settle,results,results83,go_sem,Ln,A,z,B];exact y.out
theorem aGx(w:World):Calls prog 83 #[.string (eU [92,108,43])] w fun e w'=>∃b del tot,e=.returned (.tuple #[.slice (some ⟨b,del,none⟩) 1 (tot/4),.int .i64 0,.int .i64 0])/\w.heap.size<=b/\WZ w' b del tot/\β w w':=by
 have S:∀(fn:Fn) (first cap:Array Value) (w:World),(Instr.makeFunc fn first cap).run prog w=.ok (.func fn first cap) w:=fun _ _ _ _=>rfl;have X:(eU [92,108,43]).size=3:=rfl;have F:=aj0 w (eU [92,108,43]);generalize x:eU [92,108,43]=bP at*
 go_enter_defers func83,ntmps83
 go_wp2;generalize ((((w.alloc (.cells #[.slice none 0 0] 149 (0,0))).alloc (.cells #[.int .i64 0] 3 (0,0))).alloc (.cells #[.int .i64 0] 50 (0,0))).alloc (.cells #[bP,.int .i64 0,.slice none 0 0] 230 (0,0)))=W at*;generalize Q:w.heap.size+1+1+1=g at*;generalize pN:w.heap.size+1+1=d at*;generalize R:w.heap.size+1=c at*;obtain⟨a,k⟩:∃a,Hid (a=w.heap.size):=⟨_,rfl⟩;have j:=G F;rw[←k.out]at F;rw[←k.out];have c1:W.cell? ⟨g,1,none⟩=some (.int .i64 0):=by simp[World.cell?,F.r]
 have b5:a≠c:=by have:=k.out;omega
 have eK:a≠d:=by have:=k.out;omega
 have g0:c≠d:=z;refine Bn 2 ?_;rw[py]
 go_wp2_with (go_at_call 163;refine(aE6 g _ j.out.lt.2.2.2 (by rw[x];exact F.r)).mono ?_;rintro e l ⟨rfl,o,i,m,n,P,u,y,t⟩;rw[x]at u;have c2:l.cell? ⟨g,1,none⟩=some (.int .i64 3):=(by simp[World.cell?,u]);have c3:l.cell? ⟨g,2,none⟩=some (.slice (some ⟨i,m,none⟩) 1 (n/4)):=(by simp[World.cell?,u]);have c4:l.cell? ⟨a,0,none⟩=some (.slice none 0 0):=(by have:=o.block a (by have:=j.out.lt;have:=k.out;omega) (by have:=j.out.lt;have:=k.out;omega);simp[World.cell?,this,F.p]);have c5:l.cell? ⟨c,0,none⟩=some (.int .i64 0):=(by have:=o.block c (by have:=j.out.lt;have:=k.out;omega) (by have:=j.out.lt;have:=k.out;omega);simp[World.cell?,this,F.a]);have fe:l.cell? ⟨d,0,none⟩=some (.int .i64 0):=(by have:=o.block d (by have:=j.out.lt;have:=k.out;omega) (by have:=j.out.lt;have:=k.out;omega);simp[World.cell?,this,F.e]);have z4:l.frozen? ⟨a,0,none⟩=false:=(by have:=o.block a (by have:=j.out.lt;have:=k.out;omega) (by have:=j.out.lt;have:=k.out;omega);simp[World.frozen?,this,F.p]);have z5:l.frozen? ⟨c,0,none⟩=false:=(by have:=o.block c (by have:=j.out.lt;have:=k.out;omega) (by have:=j.out.lt;have:=k.out;omega);simp[World.frozen?,this,F.a]);have Y:l.frozen? ⟨d,0,none⟩=false:=(by have:=o.block d (by have:=j.out.lt;have:=k.out;omega) (by have:=j.out.lt;have:=k.out;omega);simp[World.frozen?,this,F.e]));rw[py]
 go_wp2;have q:a<W/\c<W/\d<W.heap.size:=by have:=j.out.lt;have:=k.out;omega
 have T:=o.size;have B:=fb.ee j.out.h o j.out.an j.out.h.size;have H:β w (((l.setCell ⟨a,0,none⟩ (.slice (some ⟨i,m,none⟩) 1 (n/4))).setCell ⟨c,0,none⟩ (.int .i64 0)).setCell ⟨d,0,none⟩ (.int .i64 0)):=
  ((B.setCell (p:=⟨a,0,none⟩) (by rw[k.out];exact aZ _) _).setCell (p:=⟨c,0,none⟩) j.out.aH _).setCell (p:=⟨d,0,none⟩) j.out.aO _
 have E:(((l.setCell ⟨a,0,none⟩ (.slice (some ⟨i,m,none⟩) 1 (n/4))).setCell ⟨c,0,none⟩ (.int .i64 0)).setCell ⟨d,0,none⟩ (.int .i64 0)).cell? ⟨a,0,none⟩=some (.slice (some ⟨i,m,none⟩) 1 (n/4)):=by exact acu
 have D:(((l.setCell ⟨a,0,none⟩ (.slice (some ⟨i,m,none⟩) 1 (n/4))).setCell ⟨c,0,none⟩ (.int .i64 0)).setCell ⟨d,0,none⟩ (.int .i64 0)).cell? ⟨c,0,none⟩=some (.int .i64 0):=by exact acu
 have K:(((l.setCell ⟨a,0,none⟩ (.slice (some ⟨i,m,none⟩) 1 (n/4))).setCell ⟨c,0,none⟩ (.int .i64 0)).setCell ⟨d,0,none⟩ (.int .i64 0)).cell? ⟨d,0,none⟩=some (.int .i64 0):=by exact acu
 have U:i<l.heap.size:=by obtain⟨arr,bb,h,_⟩:=t.sF;exact(g6.1 h).1
 have M:(((l.setCell ⟨a,0,none⟩ (.slice (some ⟨i,m,none⟩) 1 (n/4))).setCell ⟨c,0,none⟩ (.int .i64 0)).setCell ⟨d,0,none⟩ (.int .i64 0)).heap[i]? =l.heap[i]? :=by rw[g_ _ _ _ _ (by show i≠d;omega),g_ _ _ _ _ (by show i≠c;omega),g_ _ _ _ _ (by show i≠a;omega)]
 have ma:(((l.setCell ⟨a,0,none⟩ (.slice (some ⟨i,m,none⟩) 1 (n/4))).setCell ⟨c,0,none⟩ (.int .i64 0)).setCell ⟨d,0,none⟩ (.int .i64 0)).heap.size=l.heap.size:=ao;generalize ((l.setCell ⟨a,0,none⟩ (.slice (some ⟨i,m,none⟩) 1 (n/4))).setCell ⟨c,0,none⟩ (.int .i64 0)).setCell ⟨d,0,none⟩ (.int .i64 0)=V at*;refine leaves_cons (f:=162) (args:=#[.pointer (some ⟨a,0,none⟩),.pointer (some ⟨c,0,none⟩),.pointer (some ⟨d,0,none⟩)]) ao (by simp[go_sem]) ?_;refine(aw7 _ a c d).mono ?_;rintro e Z s ⟨rfl,rfl,r⟩;have J:=az r (by show a<_;omega) E;have L:=az r (by show c<_;omega) D;have f3:=az r (by show d<_;omega) K;have C:Hid (β w s):=cj H r;have A:Hid (WZ s i m n):=by obtain⟨arr,bb,h,I⟩:=t.sF;exact⟨⟨arr,bb,by rw[r.block i z,M];exact h,I⟩,t.tot⟩
 have N:Hid (w.heap.size<=i):=by have:=j.out.h.size;exact cO this y
 have O:(results f83 #[bP,undef,.pointer (some ⟨a,0,none⟩),.pointer (some ⟨c,0,none⟩),.pointer (some ⟨d,0,none⟩),.pointer (some ⟨g,0,none⟩),bP,.int .i64 3,.bool false,.func (.func 162) #[] #[.pointer (some ⟨a,0,none⟩),.pointer (some ⟨c,0,none⟩),.pointer (some ⟨d,0,none⟩)],bP,.agg #[bP,.int .i64 0,.slice none 0 0],.pointer (some ⟨g,0,none⟩),.pointer (some ⟨g,0,none⟩),.pointer (some ⟨g,0,none⟩),.pointer (some ⟨g,1,none⟩),.int .i64 3,bP,.int .i64 3,.bool false,.pointer (some ⟨g,0,none⟩),.tuple #[],.pointer (some ⟨g,0,none⟩),.pointer (some ⟨g,0,none⟩),.pointer (some ⟨g,2,none⟩),.slice (some ⟨i,m,none⟩) 1 (n/4)]).run prog s=.ok (.tuple #[.slice (some ⟨i,m,none⟩) 1 (n/4),.int .i64 0,.int .i64 0]) s:=by simp[results,results83,go_sem,J,L,f3]
 exact⟨_,O,i,m,n,rfl,N,A,C⟩
end Go.aJ
namespace Go.aJ
open Go Go.cv Go.Proofs
def ada:List O->aw->Option (O×aw)
 |[.str [120,43]],h=>some (.tup [.dH,.int .i64 (.ofNat 1),.int .i64 (.ofNat 12)],h)
 |[.str [92,108,43]],h=>bif Nat.blt h.nx eB then some (.tup [.slice h.nx 0 1 4 none,.int .i64 (.ofNat 0),.int .i64 (.ofNat 0)],h.add (.cells 298 [.int .i64 (.ofNat 3),.int .i64 (.ofNat 1),.int .i64 (.ofNat 200),.str []] false true))else none
 |_,_=>none
def tP:C7:=fun f=>bif Nat.beq f 83 then some ada else j8 f
def aJ6:List O:=[.int .i64 (.ofNat 1),.int .i64 (.ofNat 10),.int .i64 (.ofNat 100),.int .i64 (.ofNat 1000),.int .i64 (.ofNat 10000),.int .i64 (.ofNat 100000),.int .i64 (.ofNat 1000000)]
def np:eC:=.aE 303 aJ6
def aGU:List O:=[.int .u64 (.ofNat 1),.int .u64 (.ofNat 10),.int .u64 (.ofNat 100),.int .u64 (.ofNat 1000),.int .u64 (.ofNat 10000),.int .u64 (.ofNat 100000),.int .u64 (.ofNat 1000000),.int .u64 (.ofNat 10000000),.int .u64 (.ofNat 100000000),.int .u64 (.ofNat 1000000000),.int .u64 (.ofNat 10000000000),.int .u64 (.ofNat 100000000000),.int .u64 (.ofNat 1000000000000),.int .u64 (.ofNat 10000000000000),.int .u64 (.ofNat 100000000000000),.int .u64 (.ofNat 1000000000000000),.int .u64 (.ofNat 10000000000000000),.int .u64 (.ofNat 100000000000000000),.int .u64 (.ofNat 1000000000000000000),.int .u64 (.ofNat 10000000000000000000)]
def nk:eC:=.aE 357 aGU
def ae:aw:=((⟨.e,13⟩:aw).c' 0 (some np)).c' 1 (some nk)
end Go.aJ
namespace Go.aJ
open Go Go.Proofs.Tryz Go.cv Go.Proofs Go.RowKit
theorem aE4{ρ:cd}{σ:b6}{h:aw}{w w':World}(r:cZ ρ σ h w)(A:β w w'){g del tot:Nat}{o:Obj}{x:eC}(an:w.heap.size<=g)(bU:w'.heap[g]? =some o)(c:h.nx<eB)(dO:kn ρ (dZ σ h.nx ⟨g,del,tot⟩) ⟨g,del,tot⟩ (some o) x): cZ ρ (dZ σ h.nx ⟨g,del,tot⟩) (h.add x) w'/\jF σ h w (dZ σ h.nx ⟨g,del,tot⟩) (h.add x) w':=by
 have d:=r.j9 h.nx (aZ _);have aO:mw σ (dZ σ h.nx ⟨g,del,tot⟩):=mw.c' d;have og:=fun j=>aw.Tj h j x c;have kC:∀b p,b≠h.nx->(dZ σ h.nx ⟨g,del,tot⟩) b=some p->σ b=some p:=fun b p bT a=>by unfold dZ at a;rw[bs bT]at a;exact a
 have ee:(dZ σ h.nx ⟨g,del,tot⟩) h.nx=some ⟨g,del,tot⟩:=by unfold dZ;rw[co rfl]
 exact aEi
theorem ayE(cs:Array Value)(w:World):(callFunc 83 cs).run prog w=.ok (.enter 83 cs) w:=ayF func83 ak av
theorem aGv{ρ:cd}:nw prog ρ 83 ada:=by
 intro σ args h v t cs w an g f J;refine .inr ⟨ayE _ _,?_⟩;unfold ada at J;split at J
 ·simp only[cq,iA]at J;obtain⟨rfl,rfl⟩:=J;obtain⟨c,a,rfl⟩:=iT g;rw[tc _ ak]at a;cases a;refine tz.hP ((aGy w).mono ?_);rintro e w' ⟨rfl,A⟩;exact⟨_,rfl,σ,rfl,f.K A,jF.K A⟩
 ·cases d:Nat.blt h.nx eB with
  |false=>rw[d]at J;cases J
  |true=>
   rw[d]at J;simp only[eP,cq,iA]at J;obtain⟨rfl,rfl⟩:=J;have d:h.nx<eB:=by simpa using d
   obtain⟨c,a,rfl⟩:=iT g;rw[tc _ ak]at a;cases a;refine tz.hP ((aGx w).mono ?_);rintro e w' ⟨b,del,tot,rfl,r,⟨⟨arr,bb,j,l,o,q⟩,s⟩,A⟩;have m:kn ρ (dZ σ h.nx ⟨b,del,tot⟩) ⟨b,del,tot⟩ (some (.cells arr 298 bb)) (.cells 298 [.int .i64 (.ofNat 3),.int .i64 (.ofNat 1),.int .i64 (.ofNat 200),.str []] false true):=
    ⟨arr,bb,rfl,l,s,fun h=>by(cases h),⟨_,rfl,fun i hi=>o i hi⟩,fun _=>q⟩
   obtain⟨k,n⟩:=aE4 f A (del:=del) (tot:=tot) r j d m;refine⟨_,rfl,_,?_,k,n⟩;have:(dZ σ h.nx ⟨b,del,tot⟩) h.nx=some ⟨b,del,tot⟩:=by unfold dZ;rw[co rfl]
   simp[aN,bY,this,jv]
 ·cases J
theorem ajO{ρ:cd}(f:FuncId)(F:List O->aw->Option (O×aw))(h:tP f=some F):nw prog ρ f F:=by
 unfold tP at h;simp only[zY]at h;split at h;rename_i e;subst e;cases h;exact aGv;exact tO f F h
theorem ayG{ρ:cd}(a:ρ.pY=ni prog)(n:Nat):uO prog ρ (iF prog tP jO.find n):=
 Zl follows a (kP.q4 td) ajO n
end Go.aJ
namespace Go.aJ
open Go Go.Proofs.Tryz Go.cv Go.Proofs
def UJ:qk:=⟨[.str [103,114,97,109,109,97,114,32,103,32,49,10,99,111,108,117,109,110,32,97,32,116,101,120,116,10,115,121,109,98,111,108,32,84,32,116,101,120,116,32,51,10,114,117,108,101,32,84,32,99,111,108,32,39,97,39,10,114,117,108,101,32,84,32,99,111,110,99,97,116,32,39,39,32,84,32,84,10,115,116,97,114,116,32,84,10]],[(0,np),(1,nk)],14,.tup [.agg [.str [103],.int .i64 (.ofNat 1),.slice 80 0 1 2 none,.slice 141 0 1 3 none,.slice 206 0 2 4 none,.int .i64 (.ofNat 0)],.int .i64 (.ofNat 0),.int .i64 (.ofNat 0)],[(0,np),(1,nk),(80,.cells 136 [.str [97],.int .i64 (.ofNat 1)] false true),(141,.cells 61 [.str [84],.int .i64 (.ofNat 1),.int .i64 (.ofNat 3)] false true),(160,.cells 3 [.int .i64 (.ofNat 0)] false true),(201,.cells 3 [.int .i64 (.ofNat 0),.int .i64 (.ofNat 0),.int .i64 (.ofNat 0)] false true),(206,.cells 96 [.int .i64 (.ofNat 0),.str [99,111,108],.str [97],.lA 160 0 1 1,.int .i64 (.ofNat 0),.str [99,111,110,99,97,116],.str [],.slice 201 1 2 1 none] false true)],211⟩
theorem aEq:xu UJ ((iF prog tP jO.find 3000).call 13 UJ.args UJ.heap)=true:=av
def UK:qk:=⟨[.agg [.str [103],.int .i64 (.ofNat 1),.slice 80 0 1 2 none,.slice 141 0 1 3 none,.slice 206 0 2 4 none,.int .i64 (.ofNat 0)],.dH,.agg [.int .i64 (.ofNat 5),.int .i64 (.ofNat 1),.int .i64 (.ofNat 2),.int .i64 (.ofNat 3),.int .i64 (.ofNat 1),.slice 213 0 1 7 none,.int .i64 (.ofNat 1),.str [120,120],.int .i64 (.ofNat 0),.int .i64 (.ofNat 0),.int .i64 (.ofNat 0),.dH,.dH,.str [],.str [],.dH],.slice 220 0 3 1 none],[(0,np),(1,nk),(80,.cells 136 [.str [97],.int .i64 (.ofNat 1)] false true),(141,.cells 61 [.str [84],.int .i64 (.ofNat 1),.int .i64 (.ofNat 3)] false true),(160,.cells 3 [.int .i64 (.ofNat 0)] false true),(201,.cells 3 [.int .i64 (.ofNat 0),.int .i64 (.ofNat 0),.int .i64 (.ofNat 0)] false true),(206,.cells 96 [.int .i64 (.ofNat 0),.str [99,111,108],.str [97],.lA 160 0 1 1,.int .i64 (.ofNat 0),.str [99,111,110,99,97,116],.str [],.slice 201 1 2 1 none] false true),(213,.cells 42 [.int .i64 (.ofNat 1),.str [120],.int .i64 (.ofNat 0),.int .i64 (.ofNat 0),.int .i64 (.ofNat 0),.dH,.dH] true true),(220,.cells 3 [.int .i64 (.ofNat 1),.int .i64 (.ofNat 0),.int .i64 (.ofNat 0)] true true)],222,.bool true,[(0,np),(1,nk),(80,.cells 136 [.str [97],.int .i64 (.ofNat 1)] false true),(141,.cells 61 [.str [84],.int .i64 (.ofNat 1),.int .i64 (.ofNat 3)] false true),(160,.cells 3 [.int .i64 (.ofNat 0)] false true),(201,.cells 3 [.int .i64 (.ofNat 0),.int .i64 (.ofNat 0),.int .i64 (.ofNat 0)] false true),(206,.cells 96 [.int .i64 (.ofNat 0),.str [99,111,108],.str [97],.lA 160 0 1 1,.int .i64 (.ofNat 0),.str [99,111,110,99,97,116],.str [],.slice 201 1 2 1 none] false true),(213,.cells 42 [.int .i64 (.ofNat 1),.str [120],.int .i64 (.ofNat 0),.int .i64 (.ofNat 0),.int .i64 (.ofNat 0),.dH,.dH] true true),(220,.cells 3 [.int .i64 (.ofNat 1),.int .i64 (.ofNat 0),.int .i64 (.ofNat 0)] true true)],854⟩
theorem aEr:xu UK ((iF prog tP jO.find 3000).call 10 UK.args UK.heap)=true:=av
def UL:qk:=⟨[.agg [.str [103],.int .i64 (.ofNat 1),.slice 80 0 1 2 none,.slice 141 0 1 3 none,.slice 206 0 2 4 none,.int .i64 (.ofNat 0)],.dH,.agg [.int .i64 (.ofNat 5),.int .i64 (.ofNat 1),.int .i64 (.ofNat 2),.int .i64 (.ofNat 3),.int .i64 (.ofNat 1),.slice 213 0 1 7 none,.int .i64 (.ofNat 1),.str [120,120],.int .i64 (.ofNat 0),.int .i64 (.ofNat 0),.int .i64 (.ofNat 0),.dH,.dH,.str [],.str [],.dH],.slice 221 0 1 1 none],[(0,np),(1,nk),(80,.cells 136 [.str [97],.int .i64 (.ofNat 1)] false true),(141,.cells 61 [.str [84],.int .i64 (.ofNat 1),.int .i64 (.ofNat 3)] false true),(160,.cells 3 [.int .i64 (.ofNat 0)] false true),(201,.cells 3 [.int .i64 (.ofNat 0),.int .i64 (.ofNat 0),.int .i64 (.ofNat 0)] false true),(206,.cells 96 [.int .i64 (.ofNat 0),.str [99,111,108],.str [97],.lA 160 0 1 1,.int .i64 (.ofNat 0),.str [99,111,110,99,97,116],.str [],.slice 201 1 2 1 none] false true),(213,.cells 42 [.int .i64 (.ofNat 1),.str [120],.int .i64 (.ofNat 0),.int .i64 (.ofNat 0),.int .i64 (.ofNat 0),.dH,.dH] true true),(221,.cells 3 [.int .i64 (.ofNat 0)] true true)],854,.bool false,[(0,np),(1,nk),(80,.cells 136 [.str [97],.int .i64 (.ofNat 1)] false true),(141,.cells 61 [.str [84],.int .i64 (.ofNat 1),.int .i64 (.ofNat 3)] false true),(160,.cells 3 [.int .i64 (.ofNat 0)] false true),(201,.cells 3 [.int .i64 (.ofNat 0),.int .i64 (.ofNat 0),.int .i64 (.ofNat 0)] false true),(206,.cells 96 [.int .i64 (.ofNat 0),.str [99,111,108],.str [97],.lA 160 0 1 1,.int .i64 (.ofNat 0),.str [99,111,110,99,97,116],.str [],.slice 201 1 2 1 none] false true),(213,.cells 42 [.int .i64 (.ofNat 1),.str [120],.int .i64 (.ofNat 0),.int .i64 (.ofNat 0),.int .i64 (.ofNat 0),.dH,.dH] true true),(221,.cells 3 [.int .i64 (.ofNat 0)] true true)],1364⟩
theorem aEs:xu UL ((iF prog tP jO.find 3000).call 10 UL.args UL.heap)=true:=av
def UM:qk:=⟨[.agg [.str [103],.int .i64 (.ofNat 1),.slice 80 0 1 2 none,.slice 141 0 1 3 none,.slice 206 0 2 4 none,.int .i64 (.ofNat 0)],.agg [.int .i64 (.ofNat 5),.int .i64 (.ofNat 1),.int .i64 (.ofNat 0),.int .i64 (.ofNat 0),.int .i64 (.ofNat 3),.slice 213 0 1 7 none,.int .i64 (.ofNat 0),.str [],.int .i64 (.ofNat 0),.int .i64 (.ofNat 0),.int .i64 (.ofNat 0),.dH,.dH,.str [115,104,97,112,101],.str [120,43],.dH]],[(0,np),(1,nk),(80,.cells 136 [.str [97],.int .i64 (.ofNat 1)] false true),(141,.cells 61 [.str [84],.int .i64 (.ofNat 1),.int .i64 (.ofNat 3)] false true),(160,.cells 3 [.int .i64 (.ofNat 0)] false true),(201,.cells 3 [.int .i64 (.ofNat 0),.int .i64 (.ofNat 0),.int .i64 (.ofNat 0)] false true),(206,.cells 96 [.int .i64 (.ofNat 0),.str [99,111,108],.str [97],.lA 160 0 1 1,.int .i64 (.ofNat 0),.str [99,111,110,99,97,116],.str [],.slice 201 1 2 1 none] false true),(213,.cells 42 [.int .i64 (.ofNat 1),.str [120],.int .i64 (.ofNat 0),.int .i64 (.ofNat 0),.int .i64 (.ofNat 0),.dH,.dH] true true)],1364,.int .i64 (.ofNat 11),[(0,np),(1,nk),(80,.cells 136 [.str [97],.int .i64 (.ofNat 1)] false true),(141,.cells 61 [.str [84],.int .i64 (.ofNat 1),.int .i64 (.ofNat 3)] false true),(160,.cells 3 [.int .i64 (.ofNat 0)] false true),(201,.cells 3 [.int .i64 (.ofNat 0),.int .i64 (.ofNat 0),.int .i64 (.ofNat 0)] false true),(206,.cells 96 [.int .i64 (.ofNat 0),.str [99,111,108],.str [97],.lA 160 0 1 1,.int .i64 (.ofNat 0),.str [99,111,110,99,97,116],.str [],.slice 201 1 2 1 none] false true),(213,.cells 42 [.int .i64 (.ofNat 1),.str [120],.int .i64 (.ofNat 0),.int .i64 (.ofNat 0),.int .i64 (.ofNat 0),.dH,.dH] true true)],1495⟩
theorem aEt:xu UM ((iF prog tP jO.find 3000).call 11 UM.args UM.heap)=true:=av
def UN:qk:=⟨[.agg [.str [103],.int .i64 (.ofNat 1),.slice 80 0 1 2 none,.slice 141 0 1 3 none,.slice 206 0 2 4 none,.int .i64 (.ofNat 0)],.dH,.agg [.int .i64 (.ofNat 5),.int .i64 (.ofNat 1),.int .i64 (.ofNat 0),.int .i64 (.ofNat 0),.int .i64 (.ofNat 3),.slice 213 0 1 7 none,.int .i64 (.ofNat 0),.str [],.int .i64 (.ofNat 0),.int .i64 (.ofNat 0),.int .i64 (.ofNat 0),.dH,.dH,.str [115,104,97,112,101],.str [92,108,43],.dH],.slice 220 0 3 1 none],[(0,np),(1,nk),(80,.cells 136 [.str [97],.int .i64 (.ofNat 1)] false true),(141,.cells 61 [.str [84],.int .i64 (.ofNat 1),.int .i64 (.ofNat 3)] false true),(160,.cells 3 [.int .i64 (.ofNat 0)] false true),(201,.cells 3 [.int .i64 (.ofNat 0),.int .i64 (.ofNat 0),.int .i64 (.ofNat 0)] false true),(206,.cells 96 [.int .i64 (.ofNat 0),.str [99,111,108],.str [97],.lA 160 0 1 1,.int .i64 (.ofNat 0),.str [99,111,110,99,97,116],.str [],.slice 201 1 2 1 none] false true),(213,.cells 42 [.int .i64 (.ofNat 1),.str [120],.int .i64 (.ofNat 0),.int .i64 (.ofNat 0),.int .i64 (.ofNat 0),.dH,.dH] true true),(220,.cells 3 [.int .i64 (.ofNat 1),.int .i64 (.ofNat 0),.int .i64 (.ofNat 0)] true true)],1495,.bool true,[(0,np),(1,nk),(80,.cells 136 [.str [97],.int .i64 (.ofNat 1)] false true),(141,.cells 61 [.str [84],.int .i64 (.ofNat 1),.int .i64 (.ofNat 3)] false true),(160,.cells 3 [.int .i64 (.ofNat 0)] false true),(201,.cells 3 [.int .i64 (.ofNat 0),.int .i64 (.ofNat 0),.int .i64 (.ofNat 0)] false true),(206,.cells 96 [.int .i64 (.ofNat 0),.str [99,111,108],.str [97],.lA 160 0 1 1,.int .i64 (.ofNat 0),.str [99,111,110,99,97,116],.str [],.slice 201 1 2 1 none] false true),(213,.cells 42 [.int .i64 (.ofNat 1),.str [120],.int .i64 (.ofNat 0),.int .i64 (.ofNat 0),.int .i64 (.ofNat 0),.dH,.dH] true true),(220,.cells 3 [.int .i64 (.ofNat 1),.int .i64 (.ofNat 0),.int .i64 (.ofNat 0)] true true)],2239⟩
theorem aEu:xu UN ((iF prog tP jO.find 3000).call 10 UN.args UN.heap)=true:=av
def UO:qk:=⟨[.agg [.str [103],.int .i64 (.ofNat 1),.slice 80 0 1 2 none,.slice 141 0 1 3 none,.slice 206 0 2 4 none,.int .i64 (.ofNat 0)],.dH,.agg [.int .i64 (.ofNat 5),.int .i64 (.ofNat 1),.int .i64 (.ofNat 0),.int .i64 (.ofNat 0),.int .i64 (.ofNat 3),.slice 213 0 1 7 none,.int .i64 (.ofNat 0),.str [],.int .i64 (.ofNat 0),.int .i64 (.ofNat 0),.int .i64 (.ofNat 0),.dH,.dH,.str [115,104,97,112,101],.str [92,108,43],.dH],.slice 221 0 1 1 none],[(0,np),(1,nk),(80,.cells 136 [.str [97],.int .i64 (.ofNat 1)] false true),(141,.cells 61 [.str [84],.int .i64 (.ofNat 1),.int .i64 (.ofNat 3)] false true),(160,.cells 3 [.int .i64 (.ofNat 0)] false true),(201,.cells 3 [.int .i64 (.ofNat 0),.int .i64 (.ofNat 0),.int .i64 (.ofNat 0)] false true),(206,.cells 96 [.int .i64 (.ofNat 0),.str [99,111,108],.str [97],.lA 160 0 1 1,.int .i64 (.ofNat 0),.str [99,111,110,99,97,116],.str [],.slice 201 1 2 1 none] false true),(213,.cells 42 [.int .i64 (.ofNat 1),.str [120],.int .i64 (.ofNat 0),.int .i64 (.ofNat 0),.int .i64 (.ofNat 0),.dH,.dH] true true),(221,.cells 3 [.int .i64 (.ofNat 0)] true true)],2239,.bool true,[(0,np),(1,nk),(80,.cells 136 [.str [97],.int .i64 (.ofNat 1)] false true),(141,.cells 61 [.str [84],.int .i64 (.ofNat 1),.int .i64 (.ofNat 3)] false true),(160,.cells 3 [.int .i64 (.ofNat 0)] false true),(201,.cells 3 [.int .i64 (.ofNat 0),.int .i64 (.ofNat 0),.int .i64 (.ofNat 0)] false true),(206,.cells 96 [.int .i64 (.ofNat 0),.str [99,111,108],.str [97],.lA 160 0 1 1,.int .i64 (.ofNat 0),.str [99,111,110,99,97,116],.str [],.slice 201 1 2 1 none] false true),(213,.cells 42 [.int .i64 (.ofNat 1),.str [120],.int .i64 (.ofNat 0),.int .i64 (.ofNat 0),.int .i64 (.ofNat 0),.dH,.dH] true true),(221,.cells 3 [.int .i64 (.ofNat 0)] true true)],2855⟩
theorem aEv:xu UO ((iF prog tP jO.find 3000).call 10 UO.args UO.heap)=true:=av
def UP:qk:=⟨[.agg [.str [103],.int .i64 (.ofNat 1),.slice 80 0 1 2 none,.slice 141 0 1 3 none,.slice 206 0 2 4 none,.int .i64 (.ofNat 0)],.agg [.int .i64 (.ofNat 5),.int .i64 (.ofNat 1),.int .i64 (.ofNat 0),.int .i64 (.ofNat 0),.int .i64 (.ofNat 3),.slice 213 0 1 7 none,.int .i64 (.ofNat 0),.str [],.int .i64 (.ofNat 0),.int .i64 (.ofNat 0),.int .i64 (.ofNat 0),.dH,.dH,.str [97,116,108,101,97,115,116],.str [51],.dH]],[(0,np),(1,nk),(80,.cells 136 [.str [97],.int .i64 (.ofNat 1)] false true),(141,.cells 61 [.str [84],.int .i64 (.ofNat 1),.int .i64 (.ofNat 3)] false true),(160,.cells 3 [.int .i64 (.ofNat 0)] false true),(201,.cells 3 [.int .i64 (.ofNat 0),.int .i64 (.ofNat 0),.int .i64 (.ofNat 0)] false true),(206,.cells 96 [.int .i64 (.ofNat 0),.str [99,111,108],.str [97],.lA 160 0 1 1,.int .i64 (.ofNat 0),.str [99,111,110,99,97,116],.str [],.slice 201 1 2 1 none] false true),(213,.cells 42 [.int .i64 (.ofNat 1),.str [120],.int .i64 (.ofNat 0),.int .i64 (.ofNat 0),.int .i64 (.ofNat 0),.dH,.dH] true true)],2855,.int .i64 (.ofNat 14),[(0,np),(1,nk),(80,.cells 136 [.str [97],.int .i64 (.ofNat 1)] false true),(141,.cells 61 [.str [84],.int .i64 (.ofNat 1),.int .i64 (.ofNat 3)] false true),(160,.cells 3 [.int .i64 (.ofNat 0)] false true),(201,.cells 3 [.int .i64 (.ofNat 0),.int .i64 (.ofNat 0),.int .i64 (.ofNat 0)] false true),(206,.cells 96 [.int .i64 (.ofNat 0),.str [99,111,108],.str [97],.lA 160 0 1 1,.int .i64 (.ofNat 0),.str [99,111,110,99,97,116],.str [],.slice 201 1 2 1 none] false true),(213,.cells 42 [.int .i64 (.ofNat 1),.str [120],.int .i64 (.ofNat 0),.int .i64 (.ofNat 0),.int .i64 (.ofNat 0),.dH,.dH] true true)],2992⟩
theorem aEw:xu UP ((iF prog tP jO.find 3000).call 11 UP.args UP.heap)=true:=av
def UQ:qk:=⟨[.agg [.str [103],.int .i64 (.ofNat 1),.slice 80 0 1 2 none,.slice 141 0 1 3 none,.slice 206 0 2 4 none,.int .i64 (.ofNat 0)],.dH,.agg [.int .i64 (.ofNat 5),.int .i64 (.ofNat 1),.int .i64 (.ofNat 2),.int .i64 (.ofNat 3),.int .i64 (.ofNat 4),.dH,.int .i64 (.ofNat 0),.str [],.int .i64 (.ofNat 0),.int .i64 (.ofNat 0),.int .i64 (.ofNat 0),.dH,.dH,.str [],.str [],.slice 218 0 3 1 none],.slice 220 0 3 1 none],[(0,np),(1,nk),(80,.cells 136 [.str [97],.int .i64 (.ofNat 1)] false true),(141,.cells 61 [.str [84],.int .i64 (.ofNat 1),.int .i64 (.ofNat 3)] false true),(160,.cells 3 [.int .i64 (.ofNat 0)] false true),(201,.cells 3 [.int .i64 (.ofNat 0),.int .i64 (.ofNat 0),.int .i64 (.ofNat 0)] false true),(206,.cells 96 [.int .i64 (.ofNat 0),.str [99,111,108],.str [97],.lA 160 0 1 1,.int .i64 (.ofNat 0),.str [99,111,110,99,97,116],.str [],.slice 201 1 2 1 none] false true),(218,.cells 3 [.int .i64 (.ofNat 1),.int .i64 (.negSucc 0),.int .i64 (.ofNat 0)] true true),(220,.cells 3 [.int .i64 (.ofNat 1),.int .i64 (.ofNat 0),.int .i64 (.ofNat 0)] true true)],2992,.bool true,[(0,np),(1,nk),(80,.cells 136 [.str [97],.int .i64 (.ofNat 1)] false true),(141,.cells 61 [.str [84],.int .i64 (.ofNat 1),.int .i64 (.ofNat 3)] false true),(160,.cells 3 [.int .i64 (.ofNat 0)] false true),(201,.cells 3 [.int .i64 (.ofNat 0),.int .i64 (.ofNat 0),.int .i64 (.ofNat 0)] false true),(206,.cells 96 [.int .i64 (.ofNat 0),.str [99,111,108],.str [97],.lA 160 0 1 1,.int .i64 (.ofNat 0),.str [99,111,110,99,97,116],.str [],.slice 201 1 2 1 none] false true),(218,.cells 3 [.int .i64 (.ofNat 1),.int .i64 (.negSucc 0),.int .i64 (.ofNat 0)] true true),(220,.cells 3 [.int .i64 (.ofNat 1),.int .i64 (.ofNat 0),.int .i64 (.ofNat 0)] true true)],3667⟩
theorem aEx:xu UQ ((iF prog tP jO.find 3000).call 10 UQ.args UQ.heap)=true:=av
def UR:qk:=⟨[.agg [.str [103],.int .i64 (.ofNat 1),.slice 80 0 1 2 none,.slice 141 0 1 3 none,.slice 206 0 2 4 none,.int .i64 (.ofNat 0)],.dH,.agg [.int .i64 (.ofNat 5),.int .i64 (.ofNat 1),.int .i64 (.ofNat 2),.int .i64 (.ofNat 3),.int .i64 (.ofNat 4),.dH,.int .i64 (.ofNat 0),.str [],.int .i64 (.ofNat 0),.int .i64 (.ofNat 0),.int .i64 (.ofNat 0),.dH,.dH,.str [],.str [],.slice 218 0 3 1 none],.slice 221 0 1 1 none],[(0,np),(1,nk),(80,.cells 136 [.str [97],.int .i64 (.ofNat 1)] false true),(141,.cells 61 [.str [84],.int .i64 (.ofNat 1),.int .i64 (.ofNat 3)] false true),(160,.cells 3 [.int .i64 (.ofNat 0)] false true),(201,.cells 3 [.int .i64 (.ofNat 0),.int .i64 (.ofNat 0),.int .i64 (.ofNat 0)] false true),(206,.cells 96 [.int .i64 (.ofNat 0),.str [99,111,108],.str [97],.lA 160 0 1 1,.int .i64 (.ofNat 0),.str [99,111,110,99,97,116],.str [],.slice 201 1 2 1 none] false true),(218,.cells 3 [.int .i64 (.ofNat 1),.int .i64 (.negSucc 0),.int .i64 (.ofNat 0)] true true),(221,.cells 3 [.int .i64 (.ofNat 0)] true true)],3667,.bool false,[(0,np),(1,nk),(80,.cells 136 [.str [97],.int .i64 (.ofNat 1)] false true),(141,.cells 61 [.str [84],.int .i64 (.ofNat 1),.int .i64 (.ofNat 3)] false true),(160,.cells 3 [.int .i64 (.ofNat 0)] false true),(201,.cells 3 [.int .i64 (.ofNat 0),.int .i64 (.ofNat 0),.int .i64 (.ofNat 0)] false true),(206,.cells 96 [.int .i64 (.ofNat 0),.str [99,111,108],.str [97],.lA 160 0 1 1,.int .i64 (.ofNat 0),.str [99,111,110,99,97,116],.str [],.slice 201 1 2 1 none] false true),(218,.cells 3 [.int .i64 (.ofNat 1),.int .i64 (.negSucc 0),.int .i64 (.ofNat 0)] true true),(221,.cells 3 [.int .i64 (.ofNat 0)] true true)],4276⟩
theorem aEy:xu UR ((iF prog tP jO.find 3000).call 10 UR.args UR.heap)=true:=av
def US:qk:=⟨[.agg [.int .i64 (.ofNat 5),.int .i64 (.ofNat 1),.int .i64 (.ofNat 2),.int .i64 (.ofNat 3),.int .i64 (.ofNat 4),.dH,.int .i64 (.ofNat 0),.str [],.int .i64 (.ofNat 0),.int .i64 (.ofNat 0),.int .i64 (.ofNat 0),.dH,.dH,.str [],.str [],.slice 218 0 3 1 none]],[(0,np),(1,nk),(218,.cells 3 [.int .i64 (.ofNat 1),.int .i64 (.negSucc 0),.int .i64 (.ofNat 0)] true true)],4276,.str [105,116,101,109,32,53,32,49,32,50,32,51,32,52,32,48,58,32,50,58,33,48,32,48,58,32,48,58,32,49,44,45,49,44,48],[(0,np),(1,nk),(218,.cells 3 [.int .i64 (.ofNat 1),.int .i64 (.negSucc 0),.int .i64 (.ofNat 0)] true true)],4345⟩
theorem aEz:xu US ((iF prog tP jO.find 3000).call 12 US.args US.heap)=true:=av
end Go.aJ
