/- ItemLatest, one part of the proof. -/
import Derived.Test.YtdioggbficfibaaGreatDoorP18
set_option linter.all false
set_option maxRecDepth 100000
set_option maxHeartbeats 16000000
namespace Go.aJ
open Go Go.Proofs.Tryz Go.cv Go.Proofs Go.RowKit
def atK(e:Ending):Prop:=e=.returned (.bool true)
def F1(w:World):Prop:=∃bb,w.heap[0]? =some (.cells #[.int .i64 1,.int .i64 10,.int .i64 100,.int .i64 1000,.int .i64 10000,.int .i64 100000,.int .i64 1000000] 303 bb)
variable{w w':World}
theorem F1.K(h:F1 w)(A:β w w'):F1 w':=by
 obtain⟨bb,h⟩:=h;exact⟨bb,(A.block 0 (g6.1 h).1).trans h⟩
def FS(w:World):Prop:=∃bb,w.heap[1]? =some (.cells (Lib.pow10Tab.map fun af=>Value.int .u64 af).toArray 357 bb)
theorem FS.K(h:FS w)(A:β w w'):FS w':=by
 obtain⟨bb,h⟩:=h;exact⟨bb,(A.block 1 (g6.1 h).1).trans h⟩
variable{b:Nat}{arr:Array Value}{t:TypeId}{bb:Nat×Nat}
theorem aiT(h:w.heap[b]? =some (.cells arr t bb)):m7 w b=arr:=by simp[m7,h]
theorem aqW{ρ:cd}{σ:b6}{del tot:Nat}{vs:List O}(ai:ρ.Bc=m7 w)(c:ρ.bb=qq w)(h:w.heap[b]? =some (.cells arr t bb)){cs:List Value}(a:bY ρ σ vs=some cs)(aH:arr=cs.toArray)(hd:del=0):kn ρ σ ⟨b,del,tot⟩ w.heap[b]? (.aE t vs):=by
 subst hd;refine⟨cs,a,?_,fun i hi=>?_⟩
 ·rw[ai,c];have aj:m7 w b=arr:=aiT h;have d:qq w b=bb:=by simp[qq,h]
  show w.heap[b]? =some (.cells (m7 w b) t (qq w b));rw[aj,d];exact h
 rw[ai];show(m7 w b)[0+i]? =cs[i]?;rw[aiT h,aH,gP];simp
theorem ayW{ρ:cd}(b:ρ.pY=ni prog)(f:FuncId)(F:List O->aw->Option (O×aw))(h:Zw f=some F):nw prog ρ f F:=by
 have E:=ayG b 3000;unfold Zw at h;simp only[zY]at h;split at h;rename_i e;subst e;cases h;refine PQ fun q a=>?_;simp only[gl,Rp,x2]at a;subst a;exact AV (E.call _) aEq
 split at h
 ·rename_i e;subst e;cases h;refine PQ fun q a=>?_;simp only[gl,Rp,x2]at a;rcases a with rfl|rfl|rfl|rfl|rfl|rfl
  exact AV (E.call _) aEr;exact AV (E.call _) aEs;exact AV (E.call _) aEu;exact AV (E.call _) aEv;exact AV (E.call _) aEx;exact AV (E.call _) aEy
 split at h
 ·rename_i e;subst e;cases h;refine PQ fun q a=>?_;simp only[gl,Rp,x2]at a;rcases a with rfl|rfl
  exact AV (E.call _) aEt;exact AV (E.call _) aEw
 split at h;rename_i e;subst e;cases h;refine PQ fun q a=>?_;simp only[gl,Rp,x2]at a;subst a;exact AV (E.call _) aEz;exact ajO f F h
def nZ:b6:=fun b=>if b<13 then some ⟨b,0,0⟩else none
theorem atM:kA prog nZ:=fun k a=>⟨0,by rw[ZZ]at a;simp[nZ,a]⟩
def Nc:l8:=[(0,np),(1,nk)]
theorem azL:ae=hl ⟨.e,13⟩ Nc:=rfl
theorem atN{ρ:cd}(f:F1 w)(i:FS w)(ai:ρ.Bc=m7 w)(c:ρ.bb=qq w):cZ ρ nZ (hl ⟨.e,13⟩ Nc) w:=by
 have n:pu Nc=true:=rfl;obtain⟨t,t0⟩:=f;obtain⟨s,g⟩:=i;have mo:∀b x,(hl ⟨.e,13⟩ Nc).cR b=some x->(b=0/\x=np)∨(b=1/\x=nk):=fun b x A=>by have:=A2 n A;simpa[Nc]using this
 have ew:∀b p,nZ b=some p->(b=0∨b=1)->(b=0/\p.aY=0)∨(b=1/\p.aY=1):=fun b p ag A=>by rcases A with rfl|rfl<;>simp[nZ]at ag<;>subst ag<;>simp
 refine⟨fun b x A=>?_,fun b a x e p d A k ag j o=>?_,fun b A=>?_⟩
 ·rcases mo b x A with⟨rfl,rfl⟩|⟨rfl,rfl⟩
  exact⟨⟨0,0,0⟩,rfl,aqW ai c t0 (cs:=[.int .i64 1,.int .i64 10,.int .i64 100,.int .i64 1000,.int .i64 10000,.int .i64 100000,.int .i64 1000000]) rfl rfl rfl⟩;exact⟨⟨1,0,0⟩,rfl,aqW ai c g (cs:=Lib.pow10Tab.map fun af=>Value.int .u64 af) rfl rfl rfl⟩
 ·have l:b=0∨b=1:=by rcases mo b x A with⟨h,_⟩|⟨h,_⟩<;>omega
  have m:a=0∨a=1:=by rcases mo a e k with⟨h,_⟩|⟨h,_⟩<;>omega
  have q:=ew b p ag l;have r:=ew a d j m;omega
 ·have A:13<=b:=by rw[HA]at A;exact A
  unfold nZ;rw[bs z]
theorem aIe(w:World)(h:F1 w)(i:FS w):χ 4 #[] w fun e w'=>atK e:=by
 obtain⟨ρ,d,g,ai⟩:∃ρ:cd,ρ.pY=ni prog/\ρ.bb=qq w/\ρ.Bc=m7 w:=⟨⟨fun _=>undef,ni prog,qq w,m7 w⟩,rfl,rfl,rfl⟩;have a:=aIf;rw[azL]at a;unfold am0 at a;split at a;rename_i j J;refine(A7 follows d (kP.q4 td) (ayW d) (f:=4) rfl atM (args:=[]) (cs:=[]) rfl rfl rfl (atN h i ai g) J a).mono ?_;rintro e w' ⟨c,k,rfl,b⟩;have:c=.bool true:=gQ (b.v.symm.trans rfl);subst this;exact⟨rfl,b.b⟩;cases a
end Go.aJ
namespace Go.bS
open Go Go.Proofs.Tryz Go.Proofs Go.RowKit Go.da Go.bh Go.Maps
open Go.aJ (kR)
theorem aI0(s:Nat):((N.cA s).aD[(N.cA s).al]'(N.Qz s).al).2=1∨((N.cA s).aD[(N.cA s).al]'(N.Qz s).al).2=2∨((N.cA s).aD[(N.cA s).al]'(N.Qz s).al).2=3:=by
 have h:∀S:cU,(h:S.al<S.aD)->(S.aD[S.al]?.map fun p=>Nat.ble 1 p.2&&Nat.ble p.2 3)=some true->(S.aD[S.al]'h).2=1∨(S.aD[S.al]'h).2=2∨(S.aD[S.al]'h).2=3:=fun S h A=>by rw[jU h]at A;simp at A;omega
 refine h _ _ ?_;exact aoR
theorem aIZ(s:Nat):∀x∈(N.cA s).bw,1<=x.2/\x.2<=5:=by
 have h:∀S:cU,(S.bw.all fun p=>Nat.ble 1 p.2&&Nat.ble p.2 5)=true->∀x∈S.bw,1<=x.2/\x.2<=5:=fun S A x a=>by have:=h6.1 A x a;simp at this;exact this
 refine h _ ?_;exact aoR
theorem azz{s:Nat}{M:Nat->Nat}{rs:List bA}{w:World}{F:Array Value}(h:N.x5 (N.cA s) M rs w F)(n:∀i,1<=M i/\M i<=5)(e:rs.Sublist (N.cA s).df)(l:yj rs M (N.cA s).al):∃ca d cc a rb aE rc,F=eg (N.cA s) rs ca d cc a rb aE rc/\Bz (N.cA s) M rs ca d cc a rb aE rc w:=by
 obtain⟨ca,cc,d,a,ra,rc,rfl,g,j,c,b4,dF,gL⟩:=h;have k:=c.at;obtain⟨b,o,rfl,ai,m⟩:=c;refine⟨ca,d,cc,a,b,o,rc,rfl,⟨⟨N.Qz s,N.arB s,n,e,g,j.at,k,b4,dF,gL⟩,⟨ai.lt,fun i hi p ac f=>?_⟩,cO e.length_le (N.aI1 s),l,fun r c=>aFR s r (e.subset c),aI0 s,aIZ s⟩⟩;obtain⟨q,t,H,_,I⟩:=m i hi;rw[H.c3]at f;cases f;exact I
theorem aDz(w:World)(L:Go.aJ.F1 w)(e1:Go.aJ.FS w)(dV:13<=w.heap.size)(Z:Option Addr)(V hj:Nat)(U:Go.aJ.kR w Z V)(GZ:∀q,Z=some q->q.block<w.heap.size)(Ch:V<=maxLen)(h3:Option Addr)(nS ij:Nat)(c0:FR w h3 nS): Calls prog 3 #[.slice Z V hj,.slice h3 nS ij] w fun e w'=>oD e/\Below w.heap.size w w':=by
 have ap:=G (fun W (d:Below w.heap.size w W)=>Go.aJ.aIe W (L.K d) (e1.K d));have aF:=G (fun W (d:Below w.heap.size w W)=>N.aD8 W Z V hj (cO dV d.size) (by
  rcases U with U|⟨b,o,rfl,aY⟩
  ·exact .inl U
  ·exact .inr ⟨b,o,rfl,fun i hi=>by obtain⟨x,g⟩:=aY i hi;have iX:b<w.heap.size:=GZ _ rfl;exact⟨x,by rw[d.cell iX];exact g⟩⟩) (fun q aC _=>iK (GZ q aC) d.size) Ch)
 have aG:=G c0;clear L e1 U GZ Ch c0;go_enter func3,ntmps3;go_upto_region 3 with(first
  |(have _:=X;go_at_call 5;refine(aF.out _ X).mono ?_;rintro e Y ⟨⟨s,M,rs,F,rfl,ce,nL,gS,ng,GH⟩,bp⟩;obtain⟨ca,bd,cc,aW,rb,aE,rc,rfl,aN⟩:=azz ce nL gS GH;have ax:=G aN;have lN:=G (cj X bp);clear ce nL gS ng GH aN)
  |(go_at_call 4;refine(ap.out _ (br w.heap.size w)).mono ?_;rintro e am ⟨n,X⟩;cases (show e=.returned (.bool true)from n)))
 generalize N.cA s=S at*;have xg:=e4 Y (.cells (eg S rs ca bd cc aW rb aE rc) 29);have tq:=G (cj lN.out xg);have AD:=cW Y (.cells (eg S rs ca bd cc aW rb aE rc) 29);have ay:=G (ax.out.K xg);clear xg ap aF ax X bp;generalize (Y.alloc (.cells (eg S rs ca bd cc aW rb aE rc) 29))=bX at*;generalize Y.heap.size=gs at*;obtain⟨cQ,aX,ba,bx,dt,dS⟩:=f_ AD;have KC:=tq.out.size;have zC:=G (aLv ay.out (cO dV KC) h3 nS ij (aG.out.K tq.out));go_upto_region 4 with(go_at_call 6;(with_reducible refine zC.out.mono ?_);rintro e bn ⟨⟨a,c,l,rfl,sY,aJ,aO⟩,bu⟩;have RW:=G sY;have Xf:=G aJ;have I:=G aO;have qf:=G (tq.out.trans (bu.mono KC));clear sY aJ aO bu)
 clear cQ aX ba bx dt dS zC tq AD ay aG lN;have ad:=G (abR bn a c l (Xf.out.low fun _ _=>g') (fun x g=>(I.out x g).1));go_upto_region 5 with(go_at_call 7;(with_reducible refine ad.out.mono ?_);rintro e f ⟨⟨B,O,R,rfl,Tv,Oh⟩,bD⟩;have al:=G Tv;have A:=G Oh;have P:=G (cj qf.out bD);have W3:=G ((Xf.out.low (fun _ _=>g'):iQ aV bn a l).K bD);clear Tv Oh bD)
 have bk:=P.out.size;have Xr:=G (al.out.low fun _ _=>g':iQ aV f B R);have RO:=G (show ∀x∈l,WK x from fun x g=>⟨(I.out x g).1,asQ (by have:=(I.out x g).2.1;omega),asQ (by have:=(I.out x g).2.2;omega)⟩);clear Xf al qf ad;have bb:= @run_makeMap prog;go_upto_region 6 with fail
 obtain⟨j,H⟩:∃j,j=f.heap.size:=⟨_,rfl⟩;have R7:=G (H▸sy.start f l:sy (f.alloc (.map #[] 0)) j l 0);have fy:=G (H▸e4 f (.map #[] 0):Below j f (f.alloc (.map #[] 0)));have J:=G (show(f.alloc (.map #[] 0)).heap.size=j+1 by rw[H];simp);rw[←H];have Xl:=G H;clear H;generalize f.alloc (.map #[] 0)=r at*;have R8:=G (J.out▸sz.start r l:sz (r.alloc (.map #[] 0)) (j+1) l 0);have uS:=G (R7.out.K (e4 r (.map #[] 0)));have fK:=G (fy.out.trans ((e4 r (.map #[] 0)).mono (by have:=J.out;omega)));have ai:=G (show j+2<=(r.alloc (.map #[] 0)).heap.size by have:=J.out;simp;omega);go_cut [10] (fun x cY=>x=.map (some (j+1))/\cY=r.alloc (.map #[] 0));case first=>go_wp2_with fail;go_meet;rw[J.out];exact⟨rfl,rfl⟩
 case rest=>
  obtain⟨rfl,rfl⟩:=hcut;clear bb;generalize r.alloc (.map #[] 0)=w7 at*;go_step;go_step;refine aDD f j (j+1) Xl.out rfl a B c O l R W3.out Xr.out A.out RO.out w7 ai.out fK.out uS.out R8.out fun dc yO gh aK aI=>?_;have Mo:=G aK;have Mz:=G aI;have qg:=G (Xl.out▸gh:Below f.heap.size f dc);have FK:=G (W3.out.K qg.out);have Xs:=G (Xr.out.K qg.out);have aD:=G (show ∀m (h:m+1<R.length),(R[m]'z).id<R[m+1].id from fun m h=>by
   have:=(Rs.1 A.out.Ej) m (m+1) (by rw[IC];omega) (by rw[IC];omega) z
   simpa[cf.vs]using this)
  clear aK aI gh yO R7 uS R8 fy fK J ai RO W3 Xr;go_step;go_step;refine aDA B O R dc Xs.out aD.out fun gG C=>?_;have Mp:=G (Mo.out.K C);have MA:=G (Mz.out.K C);have ae:=G (FK.out.K C);have an:=G (Xs.out.K C);have Mk:=G (cj qg.out C);clear C Mo Mz FK Xs qg aD;dsimp only;go_upto_region 26 with fail
  go_cut [17] (fun x cY=>x=.slice none 0 0/\cY=gG);case first=>go_wp2_with fail;go_meet;exact⟨rfl,rfl⟩
  case rest=>
   obtain⟨rfl,rfl⟩:=hcut;go_step;go_step;refine aDB a c l wc ae.out fun hS QJ=>fun xN Q L=>?_;have az:=G (Mp.out.K Q);have av:=G (MA.out.K Q);have Xq:=G (an.out.K Q);have au:=G L;have af:=G (cj Mk.out Q);have aP:∀x∈R,1<=x.id/\x.id<=4:=fun x g=>by obtain⟨y,aB,e⟩:=nv.1 (A.out.mo (nv.2 ⟨x,g,rfl⟩));have e:y.id=x.id:=hU i2.id e;have:=I.out y aB;omega
   have aa:=G (abR xN B O R Xq.out aP);clear Q L Mp MA ae an Mk aP;dsimp only;go_upto_region 32 with(go_at_call 7;(with_reducible refine aa.out.mono ?_);rintro e D ⟨⟨aR,bc,tB,rfl,bm,aL⟩,E⟩;obtain rfl:R=tB:=(azi A.out aL).symm;have Mw:=G (bm.low fun _ _=>g':iQ aV D aR R);have aA:=G (az.out.K E);have aw:=G (av.out.K E);have ak:=G (Xq.out.K E);have bf:=G (au.out.K E);have ag:=G (cj af.out E);clear bm aL E)
   obtain⟨iB,bj,di,_,bV,b5,_,b4⟩:=aA.out.o;have aj:Maps.size iB=R.length:=by rw[bV];exact(azj A.out b5 (fun x=>by rw[b4,tk])).symm
   have nd:=fun ty=>di.len (t:=34) underlying34 ty;rw[aj]at nd;clear di bV b5 b4 aj;obtain⟨qd,dL,_,gN,eK,_⟩:=aw.out.o;have Xj:=G fun W (d:Below D.heap.size D W) ty=>(dL.kept (row:=none) ⟨d.os,d.tape,d.output,d.size,fun k aU _=>d.block k aU⟩ ao).len (t:=35) underlying35 ty;obtain⟨K,aQ⟩:∃K,K=Maps.size qd:=⟨_,rfl⟩;rw[←aQ]at Xj gN eK;have Xm:=G eK;clear dL eK aQ aA aw az av af au Xq aa;have FE:=G (ark D aR B bc O R Mw.out ak.out);have fo:((R.length:Int)==(R.length:Int))=true:=afs _;have ab:Hid (∀W,Below D.heap.size D W->Calls prog 7 #[.slice hS l.length QJ] W fun e w'=>(∃a' fd R,e=.returned (.slice a' (R:List cf).length fd)/\iQ (fa W.heap.size) w' a' R/\l_ (l.reverse.map cf.vs) (R.map cf.vs))/\Below W.heap.size W w'):=G fun W d=>by have h:=abR W hS QJ l.reverse (bf.out.K d) (fun x g=>(I.out x (List.mem_reverse.1 g)).1);rw[LR]at h;exact h
   by_cases hu:K<l.length
   ·have hv:decide ((K:Int)<l.length)=true:=bz;clear ab
    go_wp2_with (go_at_call 8;(with_reducible refine FE.out.mono ?_);rintro e CM ⟨n,u⟩;cases (show e=.returned (.bool true)from n);have t_:=Xj.out CM u;have T:=G u;clear u);go_ret;exact⟨rfl,P.out.trans ((cj ag.out T.out).mono P.out.size)⟩
   ·have x8:=G (Xm.out z);have hv:decide ((K:Int)<l.length)=false:=bz
    go_wp2_with (first
     |(go_at_call 8;(with_reducible refine FE.out.mono ?_);rintro e CM ⟨n,u⟩;cases (show e=.returned (.bool true)from n);have t_:=Xj.out CM u;have T:=G u;clear u)
     |(go_at_call 7;(with_reducible refine(ab.out _ T.out).mono ?_);rintro e VW ⟨⟨aT,aZ,bh,rfl,b',aM⟩,aH⟩;obtain rfl:R=bh:=(azk (by have h:=x8.out;rw[tk]at h;exact h) A.out aM).symm;have bg:=G (b'.low fun _ _=>g':iQ aV VW aT R);have ah:=G (cj T.out aH);have RD:=G (ark VW aT B aZ O R bg.out (ak.out.K ah.out));clear b' aM aH)
     |(go_at_call 8;(with_reducible refine RD.out.mono ?_);rintro e VX ⟨n,DT⟩;cases (show e=.returned (.bool true)from n);have be:=G (cj ah.out DT);clear DT))
    go_ret;exact⟨rfl,P.out.trans ((cj ag.out be.out).mono P.out.size)⟩
end Go.bS
