/- ItemLatest, one part of the proof. -/
import Derived.Test.YtdioggbficfibaaGreatDoorP14
set_option linter.all false
set_option maxRecDepth 100000
set_option maxHeartbeats 16000000
namespace Go.bS
open Go Go.Proofs.Tryz Go.Proofs Go.RowKit Go.da Go.bh
open Go.bh.N (lM)
open Go.aJ (el kR fb pZ hn)
theorem aD7{S:cU}{M:Nat->Nat}{rs:List bA}{ca u:Option Addr}{cc r rb aE rc:Nat}{w:World}(h:Bz S M rs ca u cc r rb aE rc w)(dV:13<=w.heap.size)(id:Int)(a:Option Addr)(n c:Nat)(ae:kR w a n)(aA:∀q,a=some q->0<n->q.block<w.heap.size)(ap:n<=maxLen): χ 46 #[.agg (eg S rs ca u cc r rb aE rc),id,.slice a n c] w (MT w):=by
 have By:=G fun(m:Int) (H:0<m) (I:m<=2000000000000001) W (ah:el W (w.heap.size+2) a n)=>pZ W (w.heap.size+2) a n m H I ap ah;have zA:=G fun W (A:β w W) x=>aGK (h.K A).oe (h.K A).cap h.apl h.al x;have RC:=G fun W (A:β w W) (aG:Option Addr) (bB k:Nat) (p:List Int) (ag:lu W aG p) (e1:pF rs M S.al k p) (ab:p.length<=bB) (hd:bB<=9223372036854775807) x=>apJ (h.K A).oe aG bB k p ag e1 ab hd x;have IM:=G fun W (A:β w W) (a':Option Addr) (fd:Nat) (Ko:kR W a' 5) (G9:∀q,a'=some q->0<5->q.block<W.heap.size)=>aHY (.string S.nm) S.db (.slice u S.aD r) (.slice (some ⟨rb,aE,none⟩) rs rc) S.al ca cc S.bw a' 5 fd W (h.K A).oe.c h.oe.ok.bw h.tG Ko G9 ak;have Bw:=G fun W (A:β w W)=>Go.bh.N.aie W (cO dV A.size);have C2:=G fun W (A:β w W) (K:Value) (kU:lM W K) (ra:Option Addr) (o:Nat) (R:List bC) (bm:cz aV (aU aV 1) W ra R) (J7:R.length=S.bw.length) (Tu:∀v∈R,e0 1 v) (aG:Option Addr) (bB k:Nat) (p:List Int) (ag:lu W aG p) (e1:pF rs M S.al k p) (ab:p.length<=bB) (b3:p.length<=5)=>aHL (rwc:=o) p S.al aG bB W ⟨(h.K A).oe,h.ok,kU,bm,J7.symm,Tu⟩ ag ⟨by rw[e1.len];exact e1.gm,e1.CC⟩ ab b3;obtain⟨Y,ku⟩:∃Y:Int,Y=(((S.aD[S.al]'h.oe.ok.al).2:Nat):Int):=⟨_,rfl⟩;have GV:Hid (Y=1∨Y=2∨Y=3):=G (by have:=h.kd;omega);have WN:Hid (∀W,β w W->χ 117 #[.agg (eg S rs ca u cc r rb aE rc)] W fun e w'=>e=.returned Y):=G fun W A=>by rw[ku];exact aDl (h.K A).oe
 clear ku;have aJ:=G fun W (ah:el W (w.heap.size+2) a n) (k:Int) (aa:k=1∨k=2∨k=3)=>aLs W (w.heap.size+2) a n ap ah k aa;have RD:=G fun(W:World) (k:Int) (s:ByteArray) (N D n:Int) (va:Option Addr) (ct:Nat) (jQ:Option Addr) (wc:Nat) (J:qX (.mk k s N D n [] []))=>aeb J W (bM k s N D n va 0 ct jQ 0 wc) (aU.iW aV 1 W _ _ _ _ _ _ _ _ _);have GN:Hid (∀x,ca=some x->x.block≠w.heap.size+2):=G fun x V=>by exact anM
 have be:=G fun W (A:β w W) (ah:el W (w.heap.size+2) a n)=>fun id c_ gq dj kd h3 nS ij en bP km m3 hk jj jk i0 js fm e5 dD rp ep k s N D m va xM ct jQ uF wc aa=>apM (h.K A).oe (w.heap.size+2) a n ap ah GN.out id c_ gq dj kd h3 nS ij en bP km m3 hk jj jk i0 js fm e5 dD rp ep k s N D m va xM ct jQ uF wc aa;have eR:=G ae;have oB:=G aA;have I1:=G h;have aL:=G (mZ.start w a n c (eg S rs ca u cc r rb aE rc));clear h ae aA;go_enter func46,ntmps46;go_upto_region 2 with fail
 generalize (((w.alloc (.cells (eg S rs ca u cc r rb aE rc) 29)).alloc (.cells uh 44)).alloc (.cells #[.slice a n c,.int .i64 0] 54))=am at aL⊢;go_upto_region 3 with(first
  |(go_at_call 15;(with_reducible refine(By.out 3 ak ak _ (aL.out.num eR.out oB.out)).mono ?_);rintro e aq ⟨⟨cn,ii,hM,rfl⟩,f,g⟩;have j3:=G (aL.out.next f g);clear f g)
  |(go_at_call 15;(with_reducible refine(By.out 5 ak ak _ (j3.out.num eR.out oB.out)).mono ?_);rintro e bX ⟨⟨dw,oO,nQ,rfl⟩,f,g⟩;have hZ:=G (j3.out.next f g);clear f g)
  |(go_at_call 15;(with_reducible refine(By.out 9 ak ak _ (hZ.out.num eR.out oB.out)).mono ?_);rintro e bn ⟨⟨er,jK,vD,rfl⟩,f,g⟩;have hp:=G (hZ.out.next f g);clear f g)
  |(go_at_call 15;(with_reducible refine(By.out 5 ak ak _ ((hp.out.alloc _).num eR.out oB.out)).mono ?_);rintro e a_ ⟨⟨j0,AL,Pa,rfl⟩,f,g⟩;have i3:=G ((hp.out.alloc _).next f g);obtain⟨m,rfl⟩:∃k:Nat,j0=(k:Int):=⟨j0.toNat,z⟩;obtain⟨kd,GW,AE⟩:=aDo m z bn;have c4:a_.cell? ⟨bn,m,none⟩=some (.int .i64 kd):=(by rw[nt (g.block bn ao (by have:=bF hp.out.m.choose_spec.choose_spec;omega))];exact GW);have aP:=G AE;clear f g GW AE))
 have aR:=i3.out.b.size;have OY:w.heap.size+3<=a_.heap.size:=bF i3.out.m.choose_spec.choose_spec;have rO:Hid (n9 w a n (eg S rs ca u cc r rb aE rc) a_ (gY id (1+cn) dw er kd none 0 0 0 bO 0 0 0 none 0 none 0 bO bO none 0 0) (a_.alloc (.cells (gY id (1+cn) dw er kd none 0 0 0 bO 0 0 0 none 0 none 0 bO bO none 0 0) 44))):=G ⟨i3.out.alloc _,cW _ _,OY⟩;clear j3 hZ hp i3 aL c4;have GL:1<=1+cn/\1+cn<=3:=z;have re:0<=er/\er<=8:=z;generalize 1+cn=c_ at*;generalize a_.heap.size=l at*;generalize (a_.alloc (.cells (gY id c_ dw er kd none 0 0 0 bO 0 0 0 none 0 none 0 bO bO none 0 0) 44))=bi at*;obtain⟨O,E,F,L,T,P⟩:=f_ rO.out.x.g;have Sf:=G (zA.out)
 go_region_held3 (fun X=>X.cell? ⟨w,0,none⟩=some (.string S.nm)/\X.cell? ⟨w,1,none⟩=some (.int .i64 S.db)/\X.cell? ⟨w,2,none⟩=some (.slice ca S.bw cc)/\X.cell? ⟨w,3,none⟩=some (.slice u S.aD r)/\X.cell? ⟨w,4,none⟩=some (.slice (some ⟨rb,aE,none⟩) rs rc)/\X.cell? ⟨w,5,none⟩=some (.int .i64 S.al)) (first|with_reducible exact⟨O,E,F,L,T,P⟩|with_reducible exact⟨u0,u1,u2,u3,u4,u5⟩|with_reducible exact⟨v0,Q,U,v3,v4,v5⟩|go_keep) (first
  |(have _:=u0;go_at_call 113;(with_reducible refine(zA.out _ M3.out.x.b _).mono ?_);rintro e dc ⟨⟨aG,bB,bc,p,rfl,hE,h0,Ea,aD,vC⟩,gh⟩;have uR:=G (fun(x:Addr) (V:aG=some x)=>(iK (bF M3.out.i) (vC x V):l<x.block));clear vC;have vc:=G (M3.out.K gh);have BD:=G hE;have o2:=G h0;clear hE h0 gh;obtain⟨v0,Q,U,v3,v4,v5⟩:=f_ vc.out.x.g)
  |(go_at_call 15;(with_reducible refine(By.out 3000 ak ak _ (rO.out.drew.x.num eR.out oB.out)).mono ?_);rintro e w7 ⟨⟨uq,aH,yJ,rfl⟩,f,g⟩;have M3:=G (rO.out.drew.next f g);clear f g;obtain⟨u0,u1,u2,u3,u4,u5⟩:=f_ M3.out.x.g))
 clear Sf O E F L T P u0 u1 u2 u3 u4 u5 rO M3;have Kb:l<dc.heap.size:=bF vc.out.i;obtain⟨-,-,-,-,mn,-,-,-,-,-,-,-,-,-,-,uf⟩:=sD vc.out.i;by_cases aM:kd=4
 ·subst aM;go_upto_if 35 with fail
  exact aGz I1.out id a n eR.out oB.out ap vc.out BD.out o2.out Ea aD uR.out OY GL re _ _ _ _ _ _ _ _ _ _ _ _ _ _ _ _ _ _ _ _ _ _ _ _ _ _ _ _ _ _ _ _ _ _ _ _ _ _ _ _ _ _ _ _ _ _ _ _ _ _ _ _ _ _ _ _ _ _ _ _ _ _ _ _ _ _ _ _ _ _ _ _ _ _ _ _ _ _ _ _ _ _ _ _ _ _ _ _
 ·have i9:(kd==4)=false:=by rw[lp];exact aM
  have Du:=G vc.out.drew;have R4:=G (BD.out.K ((br _ _).drew));have FN:Hid (p.length<=5):=G (by rw[o2.out.len];exact cO o2.out.le (I1.out.oe.yS _).2);go_upto_region 7 with fail
  clear mn uf Kb vc BD
  go_region_held3 (fun X=>X.cell? ⟨w,0,none⟩=some (.string S.nm)/\X.cell? ⟨w,1,none⟩=some (.int .i64 S.db)/\X.cell? ⟨w,2,none⟩=some (.slice ca S.bw cc)/\X.cell? ⟨w,3,none⟩=some (.slice u S.aD r)/\X.cell? ⟨w,4,none⟩=some (.slice (some ⟨rb,aE,none⟩) rs rc)/\X.cell? ⟨w,5,none⟩=some (.int .i64 S.al)) (first|with_reducible exact⟨v0,Q,U,v3,v4,v5⟩|with_reducible exact⟨u0,u1,u2,u3,u4,u5⟩|exact⟨(vi z).trans O,(vi z).trans E,(vi z).trans F,(vi z).trans L,(vi z).trans T,(vi z).trans P⟩|go_keep) (first
   |(go_at_call 115;refine(IM.out _ (Du.out.alloc _).x.b _ _ (aFs _ _ _ _ _ _) (fun q aC _=>by cases aC;simp)).mono ?_;rintro e C ⟨⟨ra,o,R,rfl,J7,an,Tu⟩,m9⟩;have wW:=G ((Du.out.alloc _).K m9);have ai:=G ((R4.out.K ((br _ _).alloc (aZ _) _)).K m9);have zL:=G J7;have R5:=G Tu;obtain⟨cV,DP,jm,jZ⟩:=aIk m9 an (Du.out.alloc _);have af:=G DP;clear J7 an Tu m9 DP;obtain⟨O,E,F,L,T,P⟩:=f_ wW.out.x.g;have m9:l<C.heap.size:=bF wW.out.i;have AT:C.cell? ⟨l,5,none⟩=some (.slice none 0 0):=aK 5 wW.out.i;have f5:=Go.aJ.cJ (i:=5) wW.out.i)
   |(go_at_call 15;(with_reducible refine(By.out 96 ak ak _ (Du.out.x.num eR.out oB.out)).mono ?_);rintro e C ⟨⟨uq,aH,yJ,rfl⟩,f,g⟩;have Du:=G (Du.out.next f g);have R4:=G (ant R4.out g (fun x V=>by have:=uR.out x V;omega));clear f g;obtain⟨u0,u1,u2,u3,u4,u5⟩:=f_ Du.out.x.g))
  have tC:Hid (n9 w a n (eg S rs ca u cc r rb aE rc) l (gY id c_ dw er kd ra R o 0 bO 0 0 0 none 0 none 0 bO bO none 0 0) (C.setCell ⟨l,5,none⟩ (.slice ra R o))):=G (wW.out.set 5 _);have ad:Hid ((C.setCell ⟨l,5,none⟩ (.slice ra R o)).heap.size=C.heap.size):=G ao;have Xx:Hid (rL cV C (C.setCell ⟨l,5,none⟩ (.slice ra R o)) ra R):=G (af.out.Jn ((eQ.refl _ C).set (fun V=>by have:=V.1;omega) 5 _));have Xo:Hid (lu (C.setCell ⟨l,5,none⟩ (.slice ra R o)) aG p):=G (aDV ai.out (fun x V=>uR.out x V) 5 _);clear O E F L T P u0 u1 u2 u3 u4 u5 v0 Q U v3 v4 v5 AT f5 wW af ai Du R4;generalize (C.setCell ⟨l,5,none⟩ (.slice ra R o))=xN at*;have Ke:l<C.heap.size:=m9;clear m9;generalize C.heap.size=h4 at*;go_upto_region 8 with fail
  go_cut [10]from 93 (fun x cY=>∃K j Z j7 lT kr mb lV mc md lX me,x=.pointer (some ⟨K,0,none⟩)/\lR w a n (eg S rs ca u cc r rb aE rc) l (gY id c_ dw er kd ra R o 0 bO 0 0 0 none 0 none 0 bO bO none 0 0) cV h4 ra R K (bM j Z j7 lT kr mb lV mc md lX me) cY/\(j=1∨j=2∨j=3->lV=0/\lX=0/\qX (.mk j Z j7 lT kr [] [])))
  case first=>
   obtain⟨O,E,F,L,T,P⟩:=f_ tC.out.x.g;have hf:xN.cell? ⟨l,5,none⟩=some (.slice ra R o):=aK 5 tC.out.i
   go_region_held3 (fun X=>X.cell? ⟨w,0,none⟩=some (.string S.nm)/\X.cell? ⟨w,1,none⟩=some (.int .i64 S.db)/\X.cell? ⟨w,2,none⟩=some (.slice ca S.bw cc)/\X.cell? ⟨w,3,none⟩=some (.slice u S.aD r)/\X.cell? ⟨w,4,none⟩=some (.slice (some ⟨rb,aE,none⟩) rs rc)/\X.cell? ⟨w,5,none⟩=some (.int .i64 S.al)/\X.cell? ⟨l,5,none⟩=some (.slice ra R o)) (first|with_reducible exact⟨v0,Q,U,v3,v4,v5,g1⟩|with_reducible exact⟨u0,u1,u2,u3,u4,u5,u6⟩|with_reducible exact⟨O,E,F,L,T,P,hf⟩|with_reducible exact⟨(e_ z).trans v0,(e_ z).trans Q,(e_ z).trans U,(e_ z).trans v3,(e_ z).trans v4,(e_ z).trans v5,(e_ z).trans g1⟩|go_keep) (first
    |(have _:=Jl;go_at_call 116;(with_reducible refine(C2.out _ Jl.out.y.y.x.b _ RP.out _ _ _ Jl.out.s.all zL.out R5.out _ _ _ _ R3.out o2.out Ea FN.out).mono ?_);rintro e CM ⟨⟨j,Z,j7,lT,kr,mb,lV,mc,md,lX,me,rfl,B⟩,qt⟩;have d:=G (Jl.out.K qt);have rF:=G B;clear qt B;obtain⟨v0,Q,U,v3,v4,v5⟩:=f_ d.out.y.y.x.g;have g1:CM.cell? ⟨l,5,none⟩=some (.slice ra R o):=aK 5 d.out.y.y.i;have aw:=bF d.out.y.v;have Kf:=d.out.y.J;have ax:=d.out.ai;have hC:=d.out.A;have hk:=aK 0 d.out.y.v;have z0:=Go.aJ.cJ (i:=0) d.out.y.v;have f:=aK 1 d.out.y.v;have cy:=Go.aJ.cJ (i:=1) d.out.y.v;have eK:=aK 2 d.out.y.v;have dz:=Go.aJ.cJ (i:=2) d.out.y.v;have g0:=aK 3 d.out.y.v;have z3:=Go.aJ.cJ (i:=3) d.out.y.v;have lj:=aK 4 d.out.y.v;have z4:=Go.aJ.cJ (i:=4) d.out.y.v;have n5:=aK 5 d.out.y.v;have z5:=Go.aJ.cJ (i:=5) d.out.y.v;have rm:=aK 6 d.out.y.v;have eO:=Go.aJ.cJ (i:=6) d.out.y.v;have Sh:=G (d.out.put j (.string Z) j7 lT kr (.slice mb lV mc) (.slice md lX me)))
    |(have _:=F4;go_at_call 116;(with_reducible refine(C2.out _ X7.out.y.y.x.b _ (RP.out.K ((br _ _).alloc (aZ _) _)) _ _ _ X7.out.s.all zL.out R5.out _ _ _ _ (R3.out.K ((br _ _).alloc (aZ _) _)) o2.out Ea FN.out).mono ?_);rintro e CM ⟨⟨j,Z,j7,lT,kr,mb,lV,mc,md,lX,me,rfl,B⟩,qt⟩;have d:=G (X7.out.K qt);have rF:=G B;clear qt B;obtain⟨v0,Q,U,v3,v4,v5⟩:=f_ d.out.y.y.x.g;have g1:CM.cell? ⟨l,5,none⟩=some (.slice ra R o):=aK 5 d.out.y.y.i;have aw:=bF d.out.y.v;have Kf:=d.out.y.J;have ax:=d.out.ai;have hC:=d.out.A;have hk:=aK 0 d.out.y.v;have z0:=Go.aJ.cJ (i:=0) d.out.y.v;have f:=aK 1 d.out.y.v;have cy:=Go.aJ.cJ (i:=1) d.out.y.v;have eK:=aK 2 d.out.y.v;have dz:=Go.aJ.cJ (i:=2) d.out.y.v;have g0:=aK 3 d.out.y.v;have z3:=Go.aJ.cJ (i:=3) d.out.y.v;have lj:=aK 4 d.out.y.v;have z4:=Go.aJ.cJ (i:=4) d.out.y.v;have n5:=aK 5 d.out.y.v;have z5:=Go.aJ.cJ (i:=5) d.out.y.v;have rm:=aK 6 d.out.y.v;have eO:=Go.aJ.cJ (i:=6) d.out.y.v;have Sh:=G (d.out.put j (.string Z) j7 lT kr (.slice mb lV mc) (.slice md lX me)))
    |(have _:=F4;go_at_call 116;(with_reducible refine(C2.out _ F4.out.x.b _ RP.out _ _ _ Mw.out.all zL.out R5.out _ _ _ _ R3.out o2.out Ea FN.out).mono ?_);rintro e CM ⟨⟨j,Z,j7,lT,kr,mb,lV,mc,md,lX,me,rfl,B⟩,qt⟩;have X8:=G (F4.out.K qt);have rF:=G B;have aQ:=qt.size;have Sh:=G (lR.Er X8.out (Mw.out.M_ qt) z ⟨jm,jZ,Ke⟩ (bM j Z j7 lT kr mb lV mc md lX me));clear qt B;obtain⟨v0,Q,U,v3,v4,v5⟩:=f_ X8.out.x.g;have g1:CM.cell? ⟨l,5,none⟩=some (.slice ra R o):=aK 5 X8.out.i)
    |(go_at_call 18;(with_reducible refine(Bw.out _ tC.out.drew.x.b).mono ?_);rintro e ns ⟨⟨aN,rfl,kU⟩,rZ⟩;have F4:=G (tC.out.drew.K rZ);have RP:=G kU;have Mw:=G ((Xx.out.M_ ((br _ _).drew)).M_ rZ);have R3:=G ((Xo.out.K ((br _ _).drew)).K rZ);have az:h4<=ns.heap.size:=(by have:=rZ.size;have:=ad.out;simp at*;omega);have X7:=G (lR.Er F4.out Mw.out az ⟨jm,jZ,Ke⟩ fh);clear kU rZ;obtain⟨u0,u1,u2,u3,u4,u5⟩:=f_ F4.out.x.g;have u6:ns.cell? ⟨l,5,none⟩=some (.slice ra R o):=aK 5 F4.out.i)
    |(go_at_call 18;(with_reducible refine(Bw.out _ (tC.out.alloc (.cells fh 42)).drew.x.b).mono ?_);rintro e ns ⟨⟨aN,rfl,kU⟩,rZ⟩;have Jl:=G ((lR.Er tC.out Xx.out (Nat.le_of_eq ad.out.symm) ⟨jm,jZ,Ke⟩ fh).drew.K rZ);have RP:=G kU;have R3:=G (((Xo.out.K ((br _ _).alloc (aZ _) _)).K ((br _ _).drew)).K rZ);clear kU rZ;obtain⟨u0,u1,u2,u3,u4,u5⟩:=f_ Jl.out.y.y.x.g;have u6:ns.cell? ⟨l,5,none⟩=some (.slice ra R o):=aK 5 Jl.out.y.y.i))
   all_goals
    first|(go_step;go_meet;exact⟨_,_,_,_,_,_,_,_,_,_,_,_,rfl,Sh.out,rF.out⟩)|(go_wp2;go_meet;exact⟨_,_,_,_,_,_,_,_,_,_,_,_,rfl,Sh.out,rF.out⟩)
  case rest=>
   obtain⟨K,j,Z,j7,lT,kr,mb,lV,mc,md,lX,me,rfl,xc,B⟩:=hcut;have XU:=G xc;have rF:=G B;clear xc B tC Xx Xo C2 Bw o2 uR FN zL R5 ad;go_upto_region 10 with(go_at_call 15;(with_reducible refine(By.out 8 ak ak _ (XU.out.y.y.x.num eR.out oB.out)).mono ?_);rintro e VW ⟨⟨aB,Pb,ay,rfl⟩,f,g⟩;have FT:=G (XU.out.next f g);clear f g)
   generalize (aB==7)=aS;clear Pb ay;obtain⟨O,E,F,L,T,P⟩:=f_ FT.out.y.y.x.g;have hf:VW.cell? ⟨K,0,none⟩=some (.int .i64 j):=aK 0 FT.out.y.v;go_cut [73]from 93 (fun x cY=>∃q:Bool,x=.bool q/\(q=false->j=Y)/\lR w a n (eg S rs ca u cc r rb aE rc) l (gY id c_ dw er kd ra R o 0 bO 0 0 0 none 0 none 0 bO bO none 0 0) cV h4 ra R K (bM j Z j7 lT kr mb lV mc md lX me) cY)
   case first=>
    by_cases DZ:j=Y
    ·have yZ:(j !=Y)=false:=by simp[DZ]
     go_region_held3 (fun X=>X.cell? ⟨w,0,none⟩=some (.string S.nm)/\X.cell? ⟨w,1,none⟩=some (.int .i64 S.db)/\X.cell? ⟨w,2,none⟩=some (.slice ca S.bw cc)/\X.cell? ⟨w,3,none⟩=some (.slice u S.aD r)/\X.cell? ⟨w,4,none⟩=some (.slice (some ⟨rb,aE,none⟩) rs rc)/\X.cell? ⟨w,5,none⟩=some (.int .i64 S.al)/\X.cell? ⟨K,0,none⟩=some (.int .i64 j)) (first|with_reducible exact⟨v0,Q,U,v3,v4,v5,g1⟩|with_reducible exact⟨O,E,F,L,T,P,hf⟩|go_keep) (first|(go_at_call 117;(with_reducible refine(WN.out _ FT.out.drew.y.y.x.b).mono ?_);rintro e VX ⟨rfl,DT⟩;have BK:=G (FT.out.drew.K DT);clear DT;obtain⟨v0,Q,U,v3,v4,v5⟩:=f_ BK.out.y.y.x.g;have g1:VX.cell? ⟨K,0,none⟩=some (.int .i64 j):=aK 0 BK.out.y.v));first|(go_step;go_meet;exact⟨_,rfl,fun _=>DZ,BK.out⟩)|(go_wp2;go_meet;exact⟨_,rfl,fun _=>DZ,BK.out⟩)
    ·have yZ:(j !=Y)=true:=by simp[DZ]
     clear DZ;refine wp_region_held_drew (S:=(fun X=>X.cell? ⟨w,0,none⟩=some (.string S.nm)/\X.cell? ⟨w,1,none⟩=some (.int .i64 S.db)/\X.cell? ⟨w,2,none⟩=some (.slice ca S.bw cc)/\X.cell? ⟨w,3,none⟩=some (.slice u S.aD r)/\X.cell? ⟨w,4,none⟩=some (.slice (some ⟨rb,aE,none⟩) rs rc)/\X.cell? ⟨w,5,none⟩=some (.int .i64 S.al)/\X.cell? ⟨K,0,none⟩=some (.int .i64 j))) (by kernel_rfl) ⟨O,E,F,L,T,P,hf⟩ (fun H0=>?_)
     refine ase (i:=0) (d:=some 66) (v:=?_) rfl rfl (by kernel_rfl) (by kernel_rfl) (by kernel_rfl) (fun _ _ _ h=>h) (Or.inl ⟨by rfl,?_⟩) (by assumption) ?_
     rotate_left
     ·intro W hW;(try dsimp only at hW);(go_simp<;>with_reducible rfl)
     try simp only[Act.put,List.setIfInBounds_toArray,List.set_cons_zero,List.set_cons_succ]
     refine ase (i:=1) (d:=some 67) (v:=?_) rfl rfl (by kernel_rfl) (by kernel_rfl) (by kernel_rfl) (fun _ _ _ h=>h) (Or.inl ⟨by rfl,?_⟩) (by assumption) ?_
     rotate_left
     ·intro W hW;(try dsimp only at hW);(go_simp<;>with_reducible rfl)
     try simp only[Act.put,List.setIfInBounds_toArray,List.set_cons_zero,List.set_cons_succ]
     refine ase (i:=2) (d:=some 68) (v:=?_) rfl rfl (by kernel_rfl) (by kernel_rfl) (by kernel_rfl) (fun _ _ _ h=>h) (Or.inl ⟨by rfl,?_⟩) (by assumption) ?_
     rotate_left
     ·intro W hW;(try dsimp only at hW);(go_simp<;>with_reducible rfl)
     try simp only[Act.put,List.setIfInBounds_toArray,List.set_cons_zero,List.set_cons_succ]
     refine wpAnyH_ready (rs:=[3]) (by kernel_rfl) (by simp) ?_;refine AllReadyH.cons (o:=_) rfl (fun K0 hK=>?_) AllReadyH.nil;go_simp;go_at_call 117;(with_reducible refine(WN.out _ FT.out.drew.y.y.x.b).mono ?_);rintro e VX ⟨rfl,DT⟩;have BK:=G (FT.out.drew.K DT);clear DT;obtain⟨v0,Q,U,v3,v4,v5⟩:=f_ BK.out.y.y.x.g;have g1:VX.cell? ⟨K,0,none⟩=some (.int .i64 j):=aK 0 BK.out.y.v;refine hK.out _ _ ⟨v0,Q,U,v3,v4,v5,g1⟩ (fun H1=>?_);clear hK K0 H0;try simp only[Act.put,List.setIfInBounds_toArray,List.set_cons_zero,List.set_cons_succ]
     refine ase (i:=4) (d:=some 70) (v:=?_) rfl rfl (by kernel_rfl) (by kernel_rfl) (by kernel_rfl) (fun _ _ _ h=>h) (Or.inl ⟨by rfl,?_⟩) (by assumption) ?_
     rotate_left
     ·intro W hW;(try dsimp only at hW);(go_simp<;>with_reducible rfl)
     try simp only[Act.put,List.setIfInBounds_toArray,List.set_cons_zero,List.set_cons_succ]
     refine ase (i:=5) (d:=some 71) (v:=?_) rfl rfl (by kernel_rfl) (by kernel_rfl) (by kernel_rfl) (fun _ _ _ h=>h) (Or.inl ⟨by rfl,?_⟩) (by assumption) ?_
     rotate_left
     ·intro W hW;(try dsimp only at hW);(go_simp<;>with_reducible rfl)
     try simp only[Act.put,List.setIfInBounds_toArray,List.set_cons_zero,List.set_cons_succ]
     refine ase (i:=6) (d:=some 72) (v:=undef) rfl rfl (by kernel_rfl) (by kernel_rfl) (by kernel_rfl) (fun _ _ _ h=>h) (Or.inr ⟨by rfl,rfl⟩) (by assumption) ?_
     try simp only[Act.put,List.setIfInBounds_toArray,List.set_cons_zero,List.set_cons_succ]
     refine ase (i:=7) (d:=some 73) (v:=?_) rfl rfl (by kernel_rfl) (by kernel_rfl) (by kernel_rfl) (fun _ _ _ h=>h) (Or.inl ⟨by rfl,?_⟩) (by assumption) ?_
     rotate_left
     ·intro W hW;(try dsimp only at hW);(go_simp<;>with_reducible rfl)
     try simp only[Act.put,List.setIfInBounds_toArray,List.set_cons_zero,List.set_cons_succ]
     refine wpAnyH_done (by kernel_rfl) ?_ _
     first|(go_step;go_meet;exact⟨_,rfl,fun h=>absurd h ao,BK.out⟩)|(go_wp2;go_meet;exact⟨_,rfl,fun h=>absurd h ao,BK.out⟩)
   case rest=>
    clear O E F L T P hf XU FT;obtain⟨q,rfl,aC,xc⟩:=hcut;have MP:=G xc;clear xc;go_upto_if 73 with fail
    go_cut []from 93 (fun cY=>∃k s N D m va ct jQ wc,lR w a n (eg S rs ca u cc r rb aE rc) l (gY id c_ dw er kd ra R o 0 bO 0 0 0 none 0 none 0 bO bO none 0 0) cV h4 ra R K (bM k s N D m va 0 ct jQ 0 wc) cY/\qX (.mk k s N D m [] [])/\(k=1∨k=2∨k=3))
    case first=>
     cases q
     ·have DZ:=aC rfl;obtain⟨aj,aF,ch⟩:=rF.out (by rw[DZ];exact GV.out);subst aj;subst aF
      go_wp2;go_meet;exact⟨_,_,_,_,_,_,_,_,_,MP.out,ch,by rw[DZ];exact GV.out⟩
     ·obtain⟨O,E,F,L,T,P⟩:=f_ MP.out.y.y.x.g
      go_wp2_with (first
       |(go_at_call 117;(with_reducible refine(WN.out _ MP.out.y.y.x.b).mono ?_);rintro e aT ⟨rfl,av⟩;have al:=G (MP.out.K av);clear av)
       |(go_at_call 118;(with_reducible refine(aJ.out _ (al.out.y.y.x.num eR.out oB.out) Y GV.out).mono ?_);rintro e aY ⟨⟨ie,ajP,aO,fn,rfl,au⟩,_,f,g⟩;have y:=G (al.out.next f g);have aI:=G au;clear f g au;have hk:=aK 0 y.out.y.v;have z0:=Go.aJ.cJ (i:=0) y.out.y.v;have f:=aK 1 y.out.y.v;have cy:=Go.aJ.cJ (i:=1) y.out.y.v;have eK:=aK 2 y.out.y.v;have dz:=Go.aJ.cJ (i:=2) y.out.y.v;have g0:=aK 3 y.out.y.v;have z3:=Go.aJ.cJ (i:=3) y.out.y.v;have lj:=aK 4 y.out.y.v;have z4:=Go.aJ.cJ (i:=4) y.out.y.v;have n5:=aK 5 y.out.y.v;have z5:=Go.aJ.cJ (i:=5) y.out.y.v;have rm:=aK 6 y.out.y.v;have eO:=Go.aJ.cJ (i:=6) y.out.y.v;have aw:=bF y.out.y.v))
      go_meet;exact⟨_,_,_,_,_,_,_,_,_,y.out.put _ _ _ _ _ _ _,aI.out,GV.out⟩
    case rest=>clear rF aC MP;obtain⟨k,s,N,D,m,va,ct,jQ,th,xc,B,aa⟩:=hcut;have mB:=G xc;have rF:=G B;have gz:=G aa;clear xc B aa;go_step;exact aJ1 I1.out id a n eR.out oB.out ap mB.out rF.out gz.out GL re _ _ _ _ _ _ _ _ _ _ _ _ _ _ _ _ _ _ _ _ _ _ _ _ _ _ _ _ _ _ _ _ _ _ _ _ _ _ _ _ _ _ _ _ _ _ _ _ _ _ _ _ _ _ _ _ _ _ _ _ _ _ _ _ _ _ _ _ _ _ _ _ _ _ _ _ _ _ _ _ _ _ _ _ _ _ _ _
end Go.bS
namespace Go.bS
open Go Go.Proofs.Tryz Go.Proofs Go.RowKit Go.Lib Go.aJ
theorem abP:(prog.info? 44).map (fun i=>(i.zero,i.size,i.bytes))=some (some (.agg uh),16,216):=av
variable{B:Nat->Prop}{w w':World}{F:Array Value}{x:cf}
theorem iP.ex(h:iP B w F x)(A:eQ B w w'):iP B w' F x:=by
 obtain⟨d,e,k,s,N,S,n,ca,cc,ra,rc,aG,c,H,I,b,a⟩:=h;exact⟨d,e,k,s,N,S,n,ca,cc,ra,rc,aG,c,H,I,b.ex (aU.mono B 1) A,a.ex A⟩
theorem iP.low{c:Nat->Prop}(a:∀b,B b->c b)(h:iP B w F x):iP c w F x:=by
 obtain⟨g,i,k,s,N,S,n,ca,cc,ra,rc,aG,f,H,I,e,d⟩:=h;exact⟨g,i,k,s,N,S,n,ca,cc,ra,rc,aG,f,H,I,e.low a (fun _ _ _ J=>J.low a),d.low a⟩
theorem iP.lt(h:iP B w F x):iP (fun b=>B b/\b<w) w F x:=by
 obtain⟨e,f,k,s,N,S,n,ca,cc,ra,rc,aG,d,H,I,c,a⟩:=h;exact⟨e,f,k,s,N,S,n,ca,cc,ra,rc,aG,d,H,I,c.lt (fun _ _ J=>J.lt),a.lt⟩
theorem iP.size(h:iP B w F x):F.size=16:=by
 obtain⟨b,c,k,s,N,S,n,ca,cc,ra,rc,aG,a,rfl,_⟩:=h;rfl
variable{n cap:Nat}{o:Obj}{v:Value}{u:cf}
theorem iP.push{base g:Nat}(an:(w.alloc o).grownBy w' v.ownBlock)(fv:v.ownBlock=some g∨g=w.heap.size+1)(h:iP (jh base v) w F u):iP (jh base (.slice (some ⟨g,0,none⟩) n cap)) w' F u:=by
 exact aEh
theorem ajW:∀(a:List (Array Value)) (_:∀F∈a,F.size=16) (j:Nat) (b:j<a) (i:Nat) (_:i<16),(a.flatMap Array.toList)[j*16+i]? =a[j][i]?
 |F::a,h,0,_,i,hi=>by
  have c:=h F ao
  rw[Bo,CX (by rw[jC];omega)]
  simp
 |F::a,h,j+1,b,i,hi=>by
  have c:=h F ao
  rw[Bo,Fs (by rw[jC];omega),jC,c]
  rw[show(j+1)*16+i-16=j*16+i by omega]
  exact ajW a (fun d e=>h d (jD _ e)) j (by simpa using b) i hi
structure mx (base:Nat) (w:World) (v:Value) (l:List cf):Prop where
 o:∃e6:List (Array Value),e6.length=l.length/\w.ownsRow base 44 16 v l.length (e6.flatMap Array.toList)/\∀j (H:j<e6.length) (I:j<l.length),iP (jh base v) w e6[j] l[j]
theorem mx.nil(base:Nat)(w:World):mx base w (.slice none 0 0) []:=⟨[],rfl,mT _ _ _ _,fun j H=>by cases H⟩
variable{l:List cf}
theorem mx.gX{base:Nat}(h:mx base w v l):∃a c,v=.slice a l c:=by
 exact UI
theorem mx.lt{base:Nat}(h:mx base w v l):∀g,v.ownBlock=some g->base<=g/\g<w.heap.size:=by
 obtain⟨b,H,I,a⟩:=h.o;exact I.lt
theorem mx.ex{base:Nat}(h:mx base w v l)(L:eQ (fa base) w w'):mx base w' v l:=by
 exact aoM
theorem mx.K{base:Nat}(h:mx base w v l)(A:β w w'):mx base w' v l:=h.ex (.hP A)
theorem mx.p1{base:Nat}(h:mx base w v l)(c:w.heap.size<=n)(A:base<=n)(J:iP (fa n) w' F u):iP (jh base v) w' F u:=
 J.low fun b a=>⟨cO A a,fun e=>by have:=(h.lt b e.symm).2;have:n<=b:=a;omega⟩
theorem mx.push{base:Nat}{w w':World}{v:Value}{l:List cf}(h:mx base w v l){F:Array Value}{u:cf}(i:iP (jh base v) w F u){o:Obj}{g cap:Nat}(an:(w.alloc o).grownBy w' v.ownBlock)(d:v.ownBlock=some g∨g=w.heap.size+1){a:List (Array Value)}(e:a.length=l.length)(f:∀j (H:j<a.length) (I:j<l.length),iP (jh base v) w a[j] l[j]) (k:w'.ownsRow base 44 16 (.slice (some ⟨g,0,none⟩) (l.length+1) cap) (l.length+1) (a.flatMap Array.toList++F.toList)):mx base w' (.slice (some ⟨g,0,none⟩) (l.length+1) cap) (l++[u]):=by
 refine⟨a++[F],by simp[e],by simpa using k,fun j a' m=>?_⟩;by_cases c:j<a.length
 ·have b:j<l.length:=z;rw[xW c,xW b];exact(f j c b).push an d
 ·have b:¬j<l.length:=z;rw[xX z,xX z];simp only[LP];exact i.push an d
def iQ(B:Nat->Prop)(w:World)(a:Option Addr)(l:List cf):Prop:=l.length<=12/\(0<l.length->∃b,a=some ⟨b,0,none⟩/\B b/\(∃c,w.heap[b]? =some (.cells c 44 (0,0)))/\∀j (d:j<l.length),∃F,iP (fun x=>B x/\x≠b) w F l[j]/\∀i,i<16->w.cell? ⟨b,j*16+i,none⟩=F[i]?)
variable{a:Option Addr}
theorem iQ.ex(h:iQ B w a l)(c:eQ B w w'):iQ B w' a l:=
 ⟨h.1,fun ae=>by
  obtain⟨b,e,d,⟨m,f⟩,k⟩:=h.2 ae
  have g:=bF f
  refine⟨b,e,d,⟨m,(c.2 b d g).trans f⟩,fun j n=>?_⟩
  obtain⟨F,H,I⟩:=k j n
  exact⟨F,H.ex (c.zq fun _ h=>h.1),fun i hi=>(c.cell d g).trans (I i hi)⟩⟩
theorem iQ.K(h:iQ B w a l)(A:β w w'):iQ B w' a l:=h.ex (.hP A)
theorem iQ.low{d:Nat->Prop}(c:∀b,B b->d b)(h:iQ B w a l):iQ d w a l:=
 ⟨h.1,fun ae=>by
  obtain⟨b,e,H,I,g⟩:=h.2 ae
  refine⟨b,e,c _ H,I,fun j k=>?_⟩
  obtain⟨F,i,f⟩:=g j k
  exact⟨F,i.low fun _ h=>⟨c _ h.1,h.2⟩,f⟩⟩
theorem mx.Ut{base:Nat}(h:mx base w v l)(m:l.length<=12):∃a c,v=.slice a l c/\iQ (fa base) w a l:=by
 obtain⟨e6,H,I,ah⟩:=h.o;obtain⟨a,c,rfl⟩:=h.gX;refine⟨a,c,rfl,m,fun ae=>?_⟩;have e8:∀F∈e6,F.size=16:=fun F b_=>by exact an4
 have qr:=I;rcases I.2 with⟨n,o⟩|⟨g,cap,k,aj,d,f,q,r,s,t⟩
 omega
 ·injection aj with lU _ _
  refine⟨g,lU,d,⟨k,f⟩,fun j aa=>?_⟩;have b_:=ah j z aa;refine⟨e6[j],b_.low fun b A=>⟨A.1,fun e=>A.2 (by rw[lU,e];rfl)⟩,fun i hi=>?_⟩;exact anK
def cf.Fk(x:cf)(i:Int):cf:={x with id:=i}
theorem iQ.ars{b:Nat}(h:iQ B w (some ⟨b,0,none⟩) l)(k:Nat)(D:k<l)(x:Int):iQ B (w.setCell ⟨b,k*16,none⟩ x) (some ⟨b,0,none⟩) (l.set k (l[k].Fk x)):=by
 refine⟨by rw[zr];exact h.1,fun _=>?_⟩;obtain⟨E,e,r,⟨G,g⟩,m⟩:=h.2 z;cases e;refine⟨b,rfl,r,⟨_,hT g _⟩,fun j f=>?_⟩;rw[zr]at f;obtain⟨F,H,I⟩:=m j f;have a:eQ (fun x=>B x/\x≠b) w (w.setCell ⟨b,k*16,none⟩ x):=(eQ.refl _ w).set (fun h=>h.2 rfl) _ _;by_cases d:k=j
 ·subst d;obtain⟨A,C,y,s,N,S,n,ca,cc,ra,rc,aG,o,rfl,q,t,u⟩:=H;refine⟨_,⟨A,C,y,s,N,S,n,ca,cc,ra,rc,aG,o,rfl,by rw[IB];exact q,by rw[IB];exact t.ex (aU.mono _ 1) a,by rw[IB];exact u.ex a⟩,fun i hi=>?_⟩;simp only[IB];rcases Ru i with rfl|ae
  have c:=I 0 hi;rw[h7]at c⊢;rw[ae3 _ _ _ c];rfl
  ·rw[Wl _ _ _ _ (fun e=>by injection e with _ e _;omega),I i hi];rcases i with _|i
   omega;rfl
 refine⟨F,by rw[Rn d];exact H.ex a,fun i hi=>?_⟩;rw[Wl _ _ _ _ (fun e=>by injection e with _ e _;omega),I i hi]
theorem axF(w:World)(a:Option Addr)(c:Nat)(l:List bC)(h:cz aV (aU aV 1) w a l): χ 49 #[.slice a l c] w (XW 1 w l):=by
 have lP:=G (fun W (ar:β w W)=>(cz.K (aU.mono aV 1) h ar).2);have Z:=h.1;have gU:(l.length:Int)<=8:=z;clear h;go_enter func49,ntmps49
 go_wp2;go_loopw [3,8] (fun s i L=>∃k:Nat,k<=l.length/\i=.int .i64 k/\kQ w 1 L s (l.take k)/\β w L) (fun _ i _=>l.length-(RowKit.intOf i).toNat);case atStart=>exact⟨0,dx _,rfl,kQ.nil _ _ _,br _ _⟩
 case round=>
  obtain⟨i,hi,rfl,an,A⟩:=hrel;obtain⟨bd,aW,H⟩:=an.gX;have u:(l.take i).length=i:=by rw[nu];omega
  rw[u]at H;subst H;by_cases V:i<l
  ·obtain⟨ad,Zm,rfl,_,aa,E⟩:=lP.out _ A z;obtain⟨b4,g,b,j,f,m,r,n,o,t,q,ag,Y⟩:=E i V;obtain⟨O,M,N,Q,R,S,T⟩:=Y;have C:=e4 wr (.cells (bM b4 g b j f m r n o t q) 42);have gz:=G (axH _ _ _ (ag.K C));have wN:Hid (l.take (i+1)=l.take i++[l[i]]):=G (p9 V);have r1:(l.take i).length<=100:=z;have U:=G an;have B:=G C;have ab:=G u;have gZ:(0:Int)<=(i:Int):=z;have X:(i:Int)<l.length:=z;have dT:=A.size;have P:=cW wr (.cells (bM b4 g b j f m r n o t q) 42);have XD:=G P;clear E ag an C u P;go_upto_region 5 with fail
   clear O M N Q R S T;generalize l[i]=x at*;obtain⟨QU,aP,QR,QS,QV,QT,QW⟩:=x;have pQ:wr.heap.size<(wr.alloc (.cells (bM b4 g b j f m r n o t q) 42)).heap.size:=ao;have hb:=G (A.trans (B.out.mono dT));generalize (wr.alloc (.cells (bM b4 g b j f m r n o t q) 42))=w7 at*;obtain⟨O,M,N,Q,R,S,T⟩:=eX XD
   go_wp2_with (first|(go_at_call 50;refine gz.out.mono ?_;rintro e dc ⟨⟨F,rfl,J⟩,D⟩;obtain⟨iE,iS,kJ,kh,rfl,_⟩:=J.gX;have g2:=G J;have yO:=D.size;clear J)|(at_builtin;refine Lr rfl _ _ rfl (base:=w.heap.size) (d:=1) (l:=l.take i) (y:=.mk QU aP QR QS QV QT QW) (v:=.slice bd i aW) rfl ((U.out.K B).K D) rfl ((U.out.K B).p1 (aZ _) z g2) r1 z ?_;intro v9 gG I _ K;have RI:=G I;have uM:=G ((hb.out.trans (D.mono z)).trans K);clear I K))
   exact ao1
  ·obtain rfl:i=l.length:=z;have X:¬(l.length:Int)<l.length:=z;rw[tk]at an;obtain⟨a',fd,cg,Tw⟩:=an.Qu Z;cases cg
   go_wp2;go_ret;exact⟨⟨_,_,rfl,Tw⟩,A⟩
structure wO (w:World) (F:Array Value) (wr:World):Prop where
 b:β w wr
 g:wr.heap[w.heap.size]? =some (.cells F 44 (0,0))
 o:wr.heap[w.heap.size+1]? =some (.cells uh 44 (0,0))
variable{wr:World}
theorem wO.K(h:wO w F wr)(A:β wr w'):wO w F w':=
 ⟨cj h.b A,by rw[A.block _ (bF h.g)];exact h.g,by rw[A.block _ (bF h.o)];exact h.o⟩
theorem wO.set(h:wO w F wr)(i:Nat)(u:Value):wO w (F.setIfInBounds i u) (wr.setCell ⟨w,i,none⟩ u):=
 ⟨h.b.setCell (p:=⟨w,i,none⟩) (aZ _) u,hT h.g u,(g_ _ _ _ _ (by show w.heap.size+1≠w.heap.size;omega)).trans h.o⟩
theorem wO.start(w:World)(F:Array Value):wO w F ((w.alloc (.cells F 44)).alloc (.cells uh 44)):=by
 have T:=lm w (.cells F 44) (.cells uh 44);exact⟨T.h,T.p,T.q⟩
theorem axG(w:World)(F:Array Value)(x:cf)(h:iP aV w F x): χ 22 #[.agg F] w fun e w'=>(∃aI,e=.returned (.agg aI)/\iP (fa w) w' aI x):=by
 obtain⟨y,C,k,s,N,D,n,ca,cc,ra,rc,aG,m,rfl,ml,gc,aa⟩:=h;have p:=G (wO.start w (gY x.id x.c_ x.gq x.dj x.kd y x.hh C k s N D n ca cc ra rc x.fm x.e5 aG x.prog m));have bl:=G fun W (M:β w W)=>axF W y C x.hh (cz.K (aU.mono aV 1) gc M);have bH:=G fun W=>aiZ W (bM k s N D n ca 0 cc ra 0 rc) (.mk k s N D n [] []) (aU.iW aV 0 W _ _ _ _ _ _ _ _ _);have hV:=G fun W (M:β w W)=>axn W aG m x.prog (aa.ex (.hP M));clear gc aa;go_enter func22,ntmps22;go_upto_region 1 with fail
 generalize ((w.alloc (.cells (gY x.id x.c_ x.gq x.dj x.kd y x.hh C k s N D n ca cc ra rc x.fm x.e5 aG x.prog m) 44)).alloc (.cells uh 44))=c at p⊢;have T:c.cell? ⟨w,5,none⟩=some (.slice y x.hh C):=aK 5 p.out.g;have iB:=G (bl.out c p.out.b);go_upto_region 2 with(go_at_call 49;(with_reducible refine iB.out.mono ?_);rintro e u ⟨⟨pW,d,rfl,iH⟩,O⟩;have H:=G (p.out.K O);have uS:=G iH;have kY:=O.size;clear O iH;have T:u.cell? ⟨w,5,none⟩=some (.slice y x.hh C):=aK 5 H.out.g;have f5:=kg 5 H.out.g;have I:=bF H.out.g)
 have Q:Hid (wO w (gY x.id x.c_ x.gq x.dj x.kd pW x.hh d k s N D n ca cc ra rc x.fm x.e5 aG x.prog m) (u.setCell ⟨w,5,none⟩ (.slice pW x.hh d))):=G (H.out.set 5 _);have ag:=bF p.out.o;have Dq:Hid (cz (fa c) (aU (fa c) 1) (u.setCell ⟨w,5,none⟩ (.slice pW x.hh d)) pW x.hh):=G (cz.ex (aU.mono _ 1) uS ((eQ.refl _ u).set (by show ¬(c.heap.size<=w.heap.size);omega) 5 _));clear H uS iB p T f5 I;generalize (u.setCell ⟨w,5,none⟩ (.slice pW x.hh d))=bX at*;obtain⟨-,-,-,-,-,-,R,S,Y,Z,V,X,xr⟩:=Y2 Q.out.g;go_upto_region 3 with(go_at_call 50;(with_reducible refine(bH.out bX).mono ?_);rintro e K ⟨⟨ae,rfl,ab⟩,P⟩;obtain⟨_,g,j,rb,f,rfl,_⟩:=ab;have z:=G (Q.out.K P);have MX:=G (cz.K (aU.mono _ 1) Dq P);clear P;obtain⟨-,-,-,-,-,-,R,S,Y,Z,V,X,xr⟩:=Y2 z.out.g;obtain⟨-,-,-,-,-,-,B5,f7,f8,Gs,f10,f11,f12⟩:=azu z.out.g;have I:=bF z.out.g)
 have B:Hid (wO w (gY x.id x.c_ x.gq x.dj x.kd pW x.hh d k s N D n g j rb f x.fm x.e5 aG x.prog m) (((((((K.setCell ⟨w,6,none⟩ k).setCell ⟨w,7,none⟩ (.string s)).setCell ⟨w,8,none⟩ N).setCell ⟨w,9,none⟩ D).setCell ⟨w,10,none⟩ n).setCell ⟨w,11,none⟩ (.slice g 0 j)).setCell ⟨w,12,none⟩ (.slice rb 0 f))):=G (((((((z.out.set 6 _).set 7 _).set 8 _).set 9 _).set 10 _).set 11 _).set 12 _);have Dr:Hid (cz (fa c) (aU (fa c) 1) (((((((K.setCell ⟨w,6,none⟩ k).setCell ⟨w,7,none⟩ (.string s)).setCell ⟨w,8,none⟩ N).setCell ⟨w,9,none⟩ D).setCell ⟨w,10,none⟩ n).setCell ⟨w,11,none⟩ (.slice g 0 j)).setCell ⟨w,12,none⟩ (.slice rb 0 f)) pW x.hh):=G (cz.ex (aU.mono _ 1) MX ((((((((eQ.refl _ K).set (by show ¬(c.heap.size<=w.heap.size);omega) 6 _).set (by show ¬(c.heap.size<=w.heap.size);omega) 7 _).set (by show ¬(c.heap.size<=w.heap.size);omega) 8 _).set (by show ¬(c.heap.size<=w.heap.size);omega) 9 _).set (by show ¬(c.heap.size<=w.heap.size);omega) 10 _).set (by show ¬(c.heap.size<=w.heap.size);omega) 11 _).set (by show ¬(c.heap.size<=w.heap.size);omega) 12 _));clear Q Dq z MX R B5 S f7 Y f8 Z Gs V f10 X f11 xr f12 I;generalize (((((((K.setCell ⟨w,6,none⟩ k).setCell ⟨w,7,none⟩ (.string s)).setCell ⟨w,8,none⟩ N).setCell ⟨w,9,none⟩ D).setCell ⟨w,10,none⟩ n).setCell ⟨w,11,none⟩ (.slice g 0 j)).setCell ⟨w,12,none⟩ (.slice rb 0 f))=q at*;have U:q.cell? ⟨w,15,none⟩=some (.slice aG x.prog m):=aK 15 B.out.g;have zC:=G (hV.out q B.out.b);go_upto_region 4 with(go_at_call 51;(with_reducible refine zC.out.mono ?_);rintro e o ⟨⟨pb,l,rfl,Ec⟩,L⟩;have E:=G (B.out.K L);have Sl:=G (cz.K (aU.mono _ 1) Dr L);have Sf:=G Ec;have AP:=L.size;clear L Ec;have U:o.cell? ⟨w,15,none⟩=some (.slice aG x.prog m):=aK 15 E.out.g;have f15:=kg 15 E.out.g;have I:=bF E.out.g)
 have a:Hid (wO w (gY x.id x.c_ x.gq x.dj x.kd pW x.hh d k s N D n g j rb f x.fm x.e5 pb x.prog l) (o.setCell ⟨w,15,none⟩ (.slice pb x.prog l))):=G (E.out.set 15 _);have af:=bF B.out.o;have FX:Hid (cz (fa c) (aU (fa c) 1) (o.setCell ⟨w,15,none⟩ (.slice pb x.prog l)) pW x.hh):=G (cz.ex (aU.mono _ 1) Sl ((eQ.refl _ o).set (by show ¬(c.heap.size<=w.heap.size);omega) 15 _));have ad:Hid (qj (fa q) (o.setCell ⟨w,15,none⟩ (.slice pb x.prog l)) pb x.prog):=G (Sf.out.ex ((eQ.refl _ o).set (by show ¬(q.heap.size<=w.heap.size);omega) 15 _));clear B Dr E Sl Sf zC U f15 I;generalize (o.setCell ⟨w,15,none⟩ (.slice pb x.prog l))=w7 at*;obtain⟨ei,hA,gU,kf,mn,T,R,S,Y,Z,V,X,xr,s7,xs,U⟩:=sD a.out.g;have g3:=aK 0 a.out.o;have z0:=kg 0 a.out.o;have di:=aK 1 a.out.o;have cy:=kg 1 a.out.o;have dL:=aK 2 a.out.o;have dz:=kg 2 a.out.o;have fN:=aK 3 a.out.o;have z3:=kg 3 a.out.o;have gt:=aK 4 a.out.o;have z4:=kg 4 a.out.o;have g4:=aK 5 a.out.o;have z5:=kg 5 a.out.o;have g9:=aK 6 a.out.o;have eO:=kg 6 a.out.o;have P2:=aK 7 a.out.o;have CR:=kg 7 a.out.o;have P3:=aK 8 a.out.o;have ry:=kg 8 a.out.o;have P4:=aK 9 a.out.o;have z9:=kg 9 a.out.o;have PW:=aK 10 a.out.o;have QX:=kg 10 a.out.o;have PX:=aK 11 a.out.o;have QY:=kg 11 a.out.o;have PY:=aK 12 a.out.o;have Ij:=kg 12 a.out.o;have PZ:=aK 13 a.out.o;have Ik:=kg 13 a.out.o;have P0:=aK 14 a.out.o;have QZ:=kg 14 a.out.o;have P1:=aK 15 a.out.o;have Il:=kg 15 a.out.o;have kb:w.heap.size+1<w7.heap.size:=bF a.out.o;have nd:w.heap.size<w7.heap.size:=bF a.out.g;have cK:=G (Qd a.out.o [x.id,x.c_,x.gq,x.dj,x.kd,.slice pW x.hh d,k,s,N,D,n,.slice g 0 j,.slice rb 0 f,x.fm,x.e5,.slice pb x.prog l] rfl);have b_:=G (Hz (qQ w) [x.id,x.c_,x.gq,x.dj,x.kd,.slice pW x.hh d,k,s,N,D,n,.slice g 0 j,.slice rb 0 f,x.fm,x.e5,.slice pb x.prog l] 0 w7 a.out.b);have bm:=G (cz.ex (aU.mono _ 1) FX (M6 (r:=w.heap.size+1) (by show ¬(c.heap.size<=w.heap.size+1);omega) [x.id,x.c_,x.gq,x.dj,x.kd,.slice pW x.hh d,k,s,N,D,n,.slice g 0 j,.slice rb 0 f,x.fm,x.e5,.slice pb x.prog l] 0 w7));have e1:=G (ad.out.ex (M6 (r:=w.heap.size+1) (by show ¬(q.heap.size<=w.heap.size+1);omega) [x.id,x.c_,x.gq,x.dj,x.kd,.slice pW x.hh d,k,s,N,D,n,.slice g 0 j,.slice rb 0 f,x.fm,x.e5,.slice pb x.prog l] 0 w7))
 go_wp2;refine jT (CA (fn:=f22) rfl _ _ (w.heap.size+1) 44 _ (0,0) _ rfl cK LG rfl Li) rfl ?_;exact⟨⟨_,rfl,pW,d,k,s,N,D,n,g,j,rb,f,pb,l,rfl,ml,cz.low (fun b (A:c.heap.size<=b)=>(by show w.heap.size<=b;omega)) (fun _ _ _ J=>J.low fun b (A:c.heap.size<=b)=>(by show w.heap.size<=b;omega)) bm,e1.out.low fun b (A:q.heap.size<=b)=>(by show w.heap.size<=b;omega)⟩,b_⟩
end Go.bS
namespace Go.bS
open Go Go.Proofs.Tryz Go.Proofs Go.RowKit Go.Lib Go.aJ Go.Maps
open Go.bh (gF)
def n1(zs:List Int):List Int:=zs.mergeSort fun x y=>decide (x<=y)
theorem aI'(w:World)(base:Nat)(a:Option Addr)(c:Nat)(zs:List Int)(h:w.ownsRow base 3 1 (.slice a zs c) zs (gF zs))(j:zs.length<=100): Calls prog 21 #[.slice a zs c] w fun e w'=>e=.returned (.tuple #[])/\w'.ownsRow base 3 1 (.slice a zs c) zs (gF (n1 zs))/\w.grownBy w' (Value.slice a zs c).ownBlock:=by
 rcases h.2 with⟨e,ae⟩|⟨g,cap,i,e,an,A,H,I,d,ai⟩
 have b:zs=[]:=CW ae;subst b;cases e;refine(AnyM.slices_Sort_int_none sortA none 0 w).mono ?_;rintro e w' ⟨rfl,rfl⟩;exact⟨rfl,by simpa[n1]using h,⟨rfl,rfl,rfl,aZ _,fun _ _ _=>rfl⟩⟩;cases e;have f:=holds_of_blockI (ss:=zs) A (by rw[tm]at ai;exact ai);refine(AnyM.slices_Sort_int sortA g 0 c zs w f (bF A) z).mono ?_;rintro e w' ⟨rfl,n,os,rfl⟩;exact⟨rfl,ownsRow_sortedI (ss:=zs) (as3 zs) an A H I d,grownBy_sortedI _⟩
structure pD (w:World) (b n:Nat) (f:Int->Option Int):Prop where
 o:∃D:DataW Unit,w.ownsMap prog 3 (plainElem prog 3) b n D/\Tidy D/\(∀x:Int,has D (.int .i64 x)=(f x).isSome)/\∀x c:Int,f x=some c->D.atKey (.int .i64 x) (.lit (.int .i64 0))=.lit (.int .i64 c)
theorem pD.PM(w:World):pD (w.alloc (.map #[] 0)) w 0 (fun _=>none):=⟨.map [],ae5 w _ _ _,tidy_empty,fun x=>rfl,fun x c h=>by cases h⟩
variable{w w':World}{b n:Nat}{f:Int->Option Int}
theorem pD.kept{row:Option Nat}(h:pD w b n f)(an:w.grownBy w' row)(a:some b≠row):pD w' b n f:=by
 obtain⟨D,H,I⟩:=h.o;exact⟨D,H.kept an a,I⟩
theorem pD.K(h:pD w b n f)(A:β w w'):pD w' b n f:=
 h.kept (row:=none) ⟨A.os,A.tape,A.output,A.size,fun k a _=>A.block k a⟩ ao
theorem pD.mono{n':Nat}(h:pD w b n f)(a:n<=n'):pD w b n' f:=by
 obtain⟨D,H,I⟩:=h.o;exact⟨D,H.mono a,I⟩
theorem KH(x:Int):WideAt.IsKeyLit (.int .i64 x):=by constructor
def c'(f:Int->Option Int)(k c:Int):Int->Option Int:=fun x=>if x=k then some c else f x
theorem aHe{D:DataW Unit}{f:Int->Option Int}(H:Tidy D)(I:∀x:Int,has D (.int .i64 x)=(f x).isSome)(d:∀x c:Int,f x=some c->D.atKey (.int .i64 x) (.lit (.int .i64 0))=.lit (.int .i64 c))(k c:Int): Tidy (D.put (.int .i64 k) (.lit (.int .i64 c)))/\(∀x:Int,has (D.put (.int .i64 k) (.lit (.int .i64 c))) (.int .i64 x)=(c' f k c x).isSome)/\∀x b:Int,c' f k c x=some b->(D.put (.int .i64 k) (.lit (.int .i64 c))).atKey (.int .i64 x) (.lit (.int .i64 0))=.lit (.int .i64 b):=by
 refine⟨H.put (KH k) _,fun x=>?_,fun x b a=>?_⟩
 ·by_cases e:x=k
  ·subst e;rw[V6 H.isMap (KH _)];simp[c']
  ·rw[has_put_other (fun h=>e (by injection h)),I];simp[c',e]
 ·by_cases e:x=k
  ·subst e;simp[c']at a;subst a;exact atKey_put_same H.isMap (KH _) _ _
  ·simp[c',e]at a;rw[atKey_put_other (fun h=>e (by injection h))];exact d x b a
end Go.bS
namespace Go.bS
open Go Go.Proofs Go.RowKit Go.Lib Go.aJ
def cf.vs(x:cf):i2 cf:=⟨x.id,x.c_,x.dj,x⟩
variable{id:Int}
theorem ad1(o:Option (i2 cf)){i:i2 cf}(h:i.id≠id):step id o i=o:=by unfold step;rw[bs h]
theorem aJE{i:i2 cf}(h:i.id=id):step id none i=some i:=by unfold step;rw[co h]
theorem arU{i:i2 cf}(a:i2 cf)(h:i.id=id):step id (some a) i=if later a i=true then some a else some i:=by unfold step;rw[co h]
structure my (l:List cf) (j:Nat) (f:Int->Option Int) (e3:List Int):Prop where
 gM:∀id,f id=none->m5 ((l.take j).map cf.vs) id=none
 Lv:∀id c,f id=some c->∃(t:Nat) (ai:t<l.length),t<j/\c=t/\m5 ((l.take j).map cf.vs) id=some l[t].vs
 UV:e3.Nodup
 mo:∀id,id∈e3↔ ∃c,f id=some c
 len:e3.length<=j
 pW:∀x∈e3,1<=x/\x<=4
theorem my.start(l:List cf):my l 0 (fun _=>none) []:=
 ⟨fun _ _=>rfl,fun _ _ h=>(by cases h),List.nodup_nil,fun id=>ao,aZ _,fun x h=>(by cases h)⟩
theorem QI(l:List cf)(j:Nat)(a:j<l):(l.take (j+1)).map cf.vs=(l.take j).map cf.vs++[l[j].vs]:=by
 rw[p9 a,xY];rfl
section
variable {l:List cf} {j:Nat} {f:Int->Option Int} {e3:List Int}
theorem my.ee(h:my l j f e3)(aa:j<l)(g:f l[j].id=none)(A:1<=l[j].id/\l[j].id<=4):my l (j+1) (c' f l[j].id j) (e3++[l[j].id]):=by
 have V:∀id,id≠l[j].id->m5 ((l.take (j+1)).map cf.vs) id=m5 ((l.take j).map cf.vs) id:=fun id hid=>by rw[QI l j aa,Js,ad1 _ (fun e=>hid e.symm)]
 have Y:m5 ((l.take (j+1)).map cf.vs) l[j].id=some l[j].vs:=by rw[QI l j aa,Js,h.gM _ g,aJE (id:=l[j].id) (i:=l[j].vs) rfl]
 refine⟨fun id hid=>?_,fun id c hid=>?_,?_,fun id=>?_,by rw[ia,Bq];have:=h.len;omega,fun x V=>?_⟩;exact anL;exact aoc;refine as7.2 ⟨h.UV,ao,fun a aH b k e=>?_⟩;obtain rfl:=o0.1 k;obtain⟨c,d⟩:=(h.mo a).1 aH;rw[e,g]at d;cases d;rw[lo,o0,h.mo];by_cases e:id=l[j].id;simp[c',e];simp[c',e];rcases lo.1 V with H|H;exact h.pW x H;obtain rfl:=o0.1 H;exact A
variable{t:Nat}
theorem my.hN(h:my l j f e3)(g:j<l)(ai:t<l)(m:f l[j].id=some (t:Int))(d:later l[t].vs l[j].vs=true):my l (j+1) f e3:=by
 have b:∀id,m5 ((l.take (j+1)).map cf.vs) id=m5 ((l.take j).map cf.vs) id:=fun id=>by
  rw[QI l j g,Js];by_cases e:l[j].vs.id=id;obtain⟨n,o,H,I,a⟩:=h.Lv _ _ m;have:n=t:=z;subst this;have k:l[j].id=id:=e;rw[←k,a,arU (id:=l[j].id) (i:=l[j].vs) _ rfl];simp only[d,ox];rw[ad1 _ e]
 exact⟨fun id hid=>by rw[b];exact h.gM id hid,fun id c hid=>by
  obtain⟨t,ai,H,I,a⟩:=h.Lv id c hid
  exact⟨t,ai,z,I,by rw[b];exact a⟩,h.UV,h.mo,by have:=h.len;omega,h.pW⟩
theorem my.aKr(h:my l j f e3)(aa:j<l)(ai:t<l)(a:f l[j].id=some (t:Int))(b:later l[t].vs l[j].vs=false):my l (j+1) (c' f l[j].id j) e3:=by
 have V:∀id,id≠l[j].id->m5 ((l.take (j+1)).map cf.vs) id=m5 ((l.take j).map cf.vs) id:=fun id hid=>by rw[QI l j aa,Js,ad1 _ (fun e=>hid e.symm)]
 have Y:m5 ((l.take (j+1)).map cf.vs) l[j].id=some l[j].vs:=by rw[QI l j aa,Js];obtain⟨d,g,H,I,ah⟩:=h.Lv _ _ a;have:d=t:=z;subst this;rw[ah,arU (id:=l[j].id) (i:=l[j].vs) _ rfl];simp only[b,qM,pz]
 refine⟨fun id hid=>?_,fun id c hid=>?_,h.UV,fun id=>?_,by have:=h.len;omega,h.pW⟩;exact anL;exact aoc;rw[h.mo];by_cases e:id=l[j].id;subst e;simp[c',a];simp[c',e]
theorem aDy(a b:cf):later a.vs b.vs=decide (b.dj<a.dj∨a.dj=b.dj/\b.c_<a.c_):=by
 unfold later;show(if a.dj=b.dj then decide (a.c_>b.c_)else decide (a.dj>b.dj))=_;by_cases e:a.dj=b.dj;rw[co e];simp[e];rw[bs e];simp[e]
theorem my.azg(h:my l l.length f e3)(R:List cf)(C:R.length=(n1 e3).length)(g:∀p (H:p<R.length) (I:p<(n1 e3).length),R[p].id=(n1 e3)[p]/\m5 (l.map cf.vs) R[p].id=some R[p].vs):l_ (l.map cf.vs) (R.map cf.vs):=by
 have ag:(n1 e3).Perm e3:=as6 e3 _;have s:(n1 e3).Pairwise fun x y=>x<=y:=by have:=List.pairwise_mergeSort (le:=fun x y:Int=>decide (x<=y)) (fun a b c H I=>by simp at*;omega) (fun a b=>bz) e3;exact this.imp fun h=>by simpa using h
 have r:(n1 e3).Nodup:=ag.symm.nodup h.UV;refine⟨?_,fun x o=>?_,fun i hi=>?_⟩
 ·rw[afh,Rs];intro p q d w m;have H:=(g p d z).1;have I:=(g q w z).1;show R[p].id<R[q].id;rw[H,I];have B:=Rs.1 s p q z z m;have A:(n1 e3)[p]'z≠(n1 e3)[q]'z:=Rs.1 r p q z z m;omega
 ·obtain⟨y,k,rfl⟩:=nv.1 o;obtain⟨p,d,rfl⟩:=IF.1 k;exact(g p d z).2
 ·obtain⟨y,k,rfl⟩:=nv.1 hi;have t:m5 (l.map cf.vs) y.id≠none:=fun e=>(F_ y.id _ (l.map cf.vs) rfl).2 e y.vs (nv.2 ⟨y,k,rfl⟩) rfl;have n:y.id∈e3:=by
   rw[h.mo];cases u:f y.id with
   |none=>exact absurd (by have:=h.gM _ u;rwa [tk]at this) t
   |some c=>exact⟨c,rfl⟩
  obtain⟨p,d,e⟩:=IF.1 (ag.symm.mem_iff.1 n);exact⟨R[p].vs,nv.2 ⟨R[p],fP z,rfl⟩,((g p z d).1.trans e:R[p].id=y.id)⟩
end
end Go.bS
namespace Go.bS
open Go Go.Proofs.Tryz Go.Proofs Go.RowKit Go.Lib Go.aJ Go.Maps
open Go.bh (gF)
theorem aeK(w:World):(zeroValue 3).run prog w=.ok (.int .i64 0) w:=av
theorem G'{x:Int}(h:1<=x/\x<=4):(Lit.int .i64 x).wf=true:=ae2 z
section
variable {l:List cf} {j:Nat} {f:Int->Option Int} {e3:List Int} {x:cf}
theorem my.aE3(h:my l j f e3)(b:j<l)(a:x=l[j])(c:f x.id=none)(A:1<=x.id/\x.id<=4):my l (j+1) (c' f x.id j) (e3++[x.id]):=by subst a;exact h.ee b c A
variable{t:Nat}
theorem my.aDh(h:my l j f e3)(d:j<l)(b:x=l[j])(ai:t<l)(e:f x.id=some (t:Int)){y:cf}(c:y=l[t])(a:later y.vs x.vs=true):my l (j+1) f e3:=by subst b;subst c;exact h.hN d ai e a
theorem my.aKs(h:my l j f e3)(d:j<l)(b:x=l[j])(ai:t<l)(e:f x.id=some (t:Int)){y:cf}(c:y=l[t])(a:later y.vs x.vs=false):my l (j+1) (c' f x.id j) e3:=by subst b;subst c;exact h.aKr d ai e a
end
theorem pD.put{w':World}{b n:Nat}{f:Int->Option Int}{D:DataW Unit}(H:Tidy D)(I:∀x:Int,has D (.int .i64 x)=(f x).isSome)(a:∀x c:Int,f x=some c->D.atKey (.int .i64 x) (.lit (.int .i64 0))=.lit (.int .i64 c))(k c:Int)(h:w'.ownsMap prog 3 (plainElem prog 3) b n (D.put (.int .i64 k) (.lit (.int .i64 c)))):pD w' b n (c' f k c):=⟨_,h,aHe H I a k c⟩
variable{w w':World}{b n:Nat}
theorem apT{D:DataW Unit}(h:w.ownsMap prog 3 (plainElem prog 3) b n D)(A:β w w'):w'.ownsMap prog 3 (plainElem prog 3) b n D:=h.kept (row:=none) ⟨A.os,A.tape,A.output,A.size,fun k a _=>A.block k a⟩ ao
theorem ah6{base:Nat}(h:w.grownBy w' (some b))(A:b<base):eQ (fa base) w w':=⟨h.size,fun k a au=>h.block k au (fun e=>by injection e with e;have:base<=k:=a;omega)⟩
theorem avb{l R:List cf}{e3:List Int}{m:Nat}{y:cf}{af:Int}(d:R.length=m)(c:∀p (H:p<R.length) (I:p<(n1 e3).length),R[p].id=(n1 e3)[p]/\m5 (l.map cf.vs) R[p].id=some R[p].vs)(e:m<(n1 e3).length)(b:af=(n1 e3)[m])(a:y.id=af)(A:m5 (l.map cf.vs) af=some y.vs):
  ∀p (H:p<(R++[y]).length) (I:p<(n1 e3).length),(R++[y])[p].id=(n1 e3)[p]/\m5 (l.map cf.vs) (R++[y])[p].id=some (R++[y])[p].vs:=fun p H I=>by
 by_cases ag:p<R.length
 ·rw[xW ag]
  exact c p ag I
 ·have:p=m:=by rw[ia,Bq]at H;omega
  subst this
  rw[xX z]
  simp only[LP]
  exact⟨a.trans b,by rw[a];exact A⟩
theorem azh(w:World)(a:Option Addr)(c:Nat)(l:List cf)(pM:l.length<=12)(fu:∀W,β w W->0<l.length->∃b,a=some ⟨b,0,none⟩/\aV b/\(∃ck,W.heap[b]? =some (.cells ck 44 (0,0)))/\∀j (aa:j<l.length),∃F,iP (fun x=>aV x/\x≠b) W F l[j]/\∀i,i<16->W.cell? ⟨b,j*16+i,none⟩=F[i]?)(hid:∀x∈l,1<=x.id/\x.id<=4) {va:Option Addr}(ct:Nat)(e3:List Int)(f:Int->Option Int)(O:my l l.length f e3)(w7:World)(sJ:pD w7 w.heap.size l.length f)(GF:w7.ownsRow (w.heap.size+1) 3 1 (.slice va e3.length ct) e3.length (gF (n1 e3)))(X:β w w7){dI t5 ky Fb Lm t9 Bb uv vX vY uw vZ v_ y1 v' ux uy uz t22 t23 uA t25 uB uC uD uE wa wb t32 wd we t35 t36 wg wh wi wj t41 wk wl t44 wm t46 wn wo wq ws wt wu t53 wv ww wx t57 wy wz wA wB wC t63 t64 wD wE wF wG wH:Value}: Code.wp prog (Vn 13 (f7.body.getD .ret)) (bodyPost prog f7 fun e w'=>(∃a' fd R,e=.returned (.slice a' (R:List cf).length fd)/\iQ (fa w.heap.size) w' a' R/\l_ (l.map cf.vs) (R.map cf.vs))/\β w w') ⟨#[.slice a l.length c,dI,.slice none 0 0,.map (some w.heap.size),.slice va e3.length ct,t5,ky,Fb,Lm,t9,Bb,uv,vX,vY,uw,vZ,v_,y1,v',ux,uy,uz,t22,t23,uA,t25,uB,uC,uD,uE,wa,wb,t32,wd,we,t35,t36,wg,wh,wi,wj,t41,wk,wl,t44,wm,t46,wn,wo,wq,ws,wt,wu,t53,wv,ww,wx,t57,wy,wz,wA,wB,wC,t63,t64,wD,wE,wF,wG,wH],[]⟩ w7:=by
 have hY:=G fu;have zI:=G hid;have K:=G O;have Xk:=G sJ;have uQ:=G GF;have S:=G X;have de:=O.len;have Dk:=int_keyed rz;clear fu hid O sJ GF X;obtain⟨Po,OU,Pi,h1,fU⟩:=im abP;obtain⟨D,cX,cM,TS,fv⟩:=Xk.out.o;have I2:=G cX;have IU:=G fv;have xp:(n1 e3).length=e3.length:=as3 e3;have ad:=G xp;clear cX TS fv cM xp;have V:=S.out.size;show Code.wp prog (Code.seq _ _) _ _ _
 go_wp2;go_loopw [9,54] (fun v i cY=>∃(m:Nat) (R:List cf),m<=e3.length/\i=.int .i64 m/\R.length=m/\(∀p (H:p<R.length) (I:p<(n1 e3).length),R[p].id=(n1 e3)[p]/\m5 (l.map cf.vs) R[p].id=some R[p].vs)/\mx w7.heap.size cY v R/\β w7 cY) (fun _ i _=>e3.length-(RowKit.intOf i).toNat);case atStart=>exact⟨0,[],dx _,rfl,rfl,fun p H=>absurd H ao,mx.nil _ _,br _ _⟩
 case round=>
  obtain⟨m,R,ap,rfl,k,E,r,d⟩:=hrel;obtain⟨ra,rc,Pc⟩:=r.gX;rw[k]at Pc;subst Pc;by_cases Ch:m<e3.length
  ·have ik:(0:Int)<=(m:Int):=z;have gp:(m:Int)<e3.length:=z;have M:m<(n1 e3).length:=by rw[ad.out];exact Ch
   obtain⟨af,C⟩:∃af,af=(n1 e3)[m]:=⟨_,rfl⟩;have ab:af∈e3:=(as6 e3 _).mem_iff.1 (by rw[C];exact fP M);have au:=K.out.pW af ab;obtain⟨fo,vx⟩:=(K.out.mo af).1 ab;obtain⟨t,ai,Ui,rfl,s⟩:=K.out.Lv af fo vx;rw[tk]at s;have av:=IU.out af t vx;have N:l[t].id=af:=((F_ af _ (l.map cf.vs) rfl).1 _ s).2.1;have B:=uQ.out;rcases B.2 with⟨_,ae⟩|⟨g,cap,ck,aj,_⟩
   ·exfalso;omega
   ·cases aj;have bo:w7.cell? ⟨g,m,none⟩=some (.int .i64 af):=by have:=B.cells (g:=g) rfl m (.int .i64 af) (by rw[gF,n4,jU M,C];rfl);rw[Fl,gP]at this;exact this
    have tX:=(B.lt g rfl).2;clear B;have c1:=az d tX bo;have aC:=G (apT I2.out d);have jZ:=S.out.trans (d.mono V);obtain⟨cb,rfl,_,jy,sI⟩:=hY.out wr jZ z;obtain⟨WT,Z,Oi⟩:=sI t ai;have J5:∃y,y=l[t]/\iP (fun x=>aV x/\x≠cb) wr WT y:=⟨_,rfl,Z⟩;clear Z sI;obtain⟨y,U,ui,uj,dF,gN,c9,qd,eK,nH,oc,nl,nn,lH,lI,rfl,dE,cH,ja⟩:=J5;have zA:=G (axG wr _ y ⟨ui,uj,dF,gN,c9,qd,eK,nH,oc,nl,nn,lH,lI,rfl,dE,cz.low (fun _ _=>g') (fun _ _ _ J=>J.low fun _ _=>g') cH,ja.low fun _ _=>g'⟩);rw[←U]at N s;have ME:=G U;have aA:=G N;have x7:=G s;have ay:=G C;have ls:=G E;have q:=G k;obtain⟨W1,Oj,L,Y⟩:=r.o;rw[k]at L;have ts:=G Oj;have lO:=G L;have zH:=G Y;have P:=G r;have T:=G d;have t0:(0:Int)<=(t:Int):=z;have dI:(t:Int)<l.length:=z;have ar:=d.size;obtain⟨dC,aj,aF,bq,cI,hr,iV,jY,tM,vm,Ah,Ai,Aj,Ak,Al,Am⟩:=Eg Oi;clear U N s C E k Oj L Y r d dE cH ja Oi bo jy jZ
    go_wp2_with (first
     |(at_lookup;refine wpList_lookup_own_int _ rfl _ _ 66 rfl 3 3 .i64 Dk Rc rz (aeK _) w.heap.size l.length D rfl aC.out _ (.int .i64 af) rfl (LA rz (G' au)) ?_;intro b8 hM _;obtain rfl:b8=(t:Int):=(by have h:=hM.symm.trans av;injection h with h;injection h))
     |(go_at_call 22;(with_reducible refine zA.out.mono ?_);rintro e Q ⟨⟨aD,rfl,Og⟩,gh⟩;have Xa:=G Og;have o:=G gh;obtain⟨al,am,gL,nX,wT,zC,g0,Jv,Jx,K9,K_,an,aq,rfl,_,_,_⟩:=Og;clear gh)
     |(at_builtin;refine Ri _ rfl _ _ 31 rfl w7.heap.size 44 Po _ 16 216 aeZ OU Pi h1 fU rfl ak (.slice ra m rc) m (W1.flatMap Array.toList) rfl ((xA lO.out (.hP o.out)).alloc _) ⟨Q.heap.size,0,none⟩ 1 1 (gY y.id y.c_ y.gq y.dj y.kd al y.hh.length am gL nX wT zC g0 Jv Jx K9 K_ y.fm y.e5 an y.prog.length aq).toList rfl rfl (rA (px Q _)) (by simp[Value.oneCell']) ak (by unfold maxLen;omega) z (by have:=o.out.size;simp;omega) (Q.heap.size+1) ao ?_;intro vo DA gG yI yD aw aE))
    have Om:=mx.push (P.out.K o.out) (F:=(gY y.id y.c_ y.gq y.dj y.kd al y.hh.length am gL nX wT zC g0 Jv Jx K9 K_ y.fm y.e5 an y.prog.length aq)) (u:=y) (P.out.p1 (aZ _) z Xa.out) yD aw ts.out (fun p a b=>(zH.out p a b).ex (.hP o.out)) (by rw[q.out];exact yI);rw[q.out]at Om;exact⟨⟨m+1,R++[y],z,bG,by rw[ia,Bq,q.out],avb q.out ls.out M ay.out aA.out x7.out,Om,((T.out.trans (o.out.mono ar)).alloc (by have:=o.out.size;omega) _).grown yD (by have:=o.out.size;simp;omega) (fun b A=>by have:=(P.out.lt b A).1;omega)⟩,by simp[RowKit.intOf];omega⟩
  ·obtain rfl:m=e3.length:=z;have gp:¬(e3.length:Int)<e3.length:=z;have ah:=K.out.azg R (by rw[ad.out];exact k) E;obtain⟨a',fd,cg,ag⟩:=r.Ut z;rw[k]at cg;cases cg;have ax:=G ah;have q:=G k;have aB:=G ag;have T:=G d;clear ah k ag d E r
   go_wp2;go_ret;exact⟨⟨ra,rc,R,hU (fun n=>Ending.returned (.slice ra n rc)) q.out.symm,aB.out.low fun b A=>cO V A,ax.out⟩,S.out.trans (T.out.mono V)⟩
theorem abR(w:World)(a:Option Addr)(c:Nat)(l:List cf)(h:iQ aV w a l)(hid:∀x∈l,1<=x.id/\x.id<=4): χ 7 #[.slice a l.length c] w fun e w'=>(∃a' fd R,e=.returned (.slice a' (R:List cf).length fd)/\iQ (fa w.heap.size) w' a' R/\l_ (l.map cf.vs) (R.map cf.vs)):=by
 have hY:=G fun W (ar:β w W)=>(h.K ar).2;have pM:=h.1;have zI:=G hid;have al:= @run_makeMap prog;obtain⟨ug,tZ,mf,mH,mI⟩:=im afM;have Z:=int_keyed rz;have tu:=G (pD.PM w);have kl:=G (e4 w (.map #[] 0));clear h hid;go_enter func7,ntmps7
 go_wp2;clear al;generalize s6:w.alloc (.map #[] 0)=am at*;clear s6;go_loopw [4,15] (fun v i wr=>∃(j:Nat) (f:Int->Option Int) (m:List Int),j<=l.length/\i=.int .i64 j/\pD wr w.heap.size j f/\my l j f m/\wr.ownsRow (w.heap.size+1) 3 1 v m.length (gF m)/\β w wr) (fun _ i _=>l.length-(RowKit.intOf i).toNat);case atStart=>exact⟨0,_,[],dx _,rfl,tu.out,my.start l,mT _ _ _ _,kl.out⟩
 case round=>
  clear tu kl;obtain⟨j,f,m,aa,rfl,fl,K,r,A⟩:=hrel;by_cases au:j<l.length
  ·have jq:(j:Int)<l.length:=z;have ei:(0:Int)<=(j:Int):=z;obtain⟨g,rfl,_,jy,sI⟩:=hY.out wr A z;obtain⟨F,pg,yt⟩:=sI j au;have cK:∃x,x=l[j]/\iP (fun x=>aV x/\x≠g) wr F x/\1<=x.id/\x.id<=4:=⟨_,rfl,pg,zI.out _ (fP au)⟩;clear pg;obtain⟨x,Ee,⟨V,Y,b4,I,E,Q,H,L,M,N,O,S,T,rfl,ud,Ct,Uk⟩,C⟩:=cK;have Df:=G Ee;have Xg:=G sI;clear sI Ee;obtain⟨ei,hA,gU,kf,mn,rf,pU,pV,vK,vL,vI,vJ,xr,s7,xs,uf⟩:=Eg yt;have eu:=cW wr (.cells (gY x.id x.c_ x.gq x.dj x.kd V x.hh.length Y b4 I E Q H L M N O x.fm x.e5 S x.prog.length T) 44);have g2:=G eu;have P:=e4 wr (.cells (gY x.id x.c_ x.gq x.dj x.kd V x.hh.length Y b4 I E Q H L M N O x.fm x.e5 S x.prog.length T) 44);have k:wr.heap.size<(wr.alloc (.cells (gY x.id x.c_ x.gq x.dj x.kd V x.hh.length Y b4 I E Q H L M N O x.fm x.e5 S x.prog.length T) 44)).heap.size:=ao;have aq:=G r.lt;have mX:=G (fl.K P);have o:=G K;have iC:=G (Go.bh.N.EB r P);have s:=G (cj A P);have ph:=A.size;have fy:=G P;clear fl K r yt ud Ct Uk eu P;go_upto_region 6 with fail
   clear ei hA gU kf mn rf pU pV vK vL vI vJ xr s7 xs uf;generalize (wr.alloc (.cells (gY x.id x.c_ x.gq x.dj x.kd V x.hh.length Y b4 I E Q H L M N O x.fm x.e5 S x.prog.length T) 44))=bi at*;obtain⟨D,cX,cM,TS,fv⟩:=mX.out.o;have v0:bi.cell? ⟨wr.heap.size,0,none⟩=some (.int .i64 x.id):=aK 0 g2.out;have I2:=G cX;have B:=G TS;have IU:=G fv;have XB:=G cM;clear cX TS fv cM;cases n:f x.id with
   |none=>
    have b9:has D (.int .i64 x.id)=false:=by rw[B.out,n];rfl
    have ap:=G n;clear n;go_upto_region 7 with(at_lookup;refine asU _ rfl _ _ 66 rfl 3 3 .i64 Z Rc rz (aeK _) w.heap.size j D rfl I2.out _ (.int .i64 x.id) rfl (LA rz (G' C)) ?_;intro b8 _ _;rw[b9])
    go_upto_region 9 with(at_builtin;refine ln _ rfl _ _ 22 rfl (w.heap.size+1) 3 ug _ 1 8 oY tZ mf mH mI rfl ak _ _ _ rfl (iC.out.alloc _) ⟨bi.heap.size,0,none⟩ 1 1 [.int .i64 x.id] rfl rfl (xv _ _ _) (by simp[Value.oneCell']) (by unfold maxLen;have:=o.out.len;omega) (by have:=o.out.len;omega) (by have:=s.out.size;simp;omega) ?_;intro nr w7 qx sV _)
    have Ph:=s.out.size;have af:some w.heap.size≠Value.ownBlock _:=fun e=>by have:=(iC.out.lt _ e.symm).1;omega
    have d:=G ((s.out.alloc z (.cells #[.int .i64 x.id] 3)).grown sV bz (fun b A=>by have:=(iC.out.lt b A).1;omega));have R2:=G ((I2.out.alloc (.cells #[.int .i64 x.id] 3)).kept sV af);have ah:w7.cell? ⟨wr.heap.size,0,none⟩=some (.int .i64 x.id):=(sV.cell_far ⟨wr.heap.size,0,none⟩ bz (fun e=>by have:=(aq.out _ e.symm).2;simp at this)).trans ((e4 bi _).cell (p:=⟨wr.heap.size,0,none⟩) k |>.trans v0);have u:=G qx;clear qx sV af v0;go_upto_region 9 with fail
    go_quiet (fail)
    all_goals(
     go_wp2_with (at_mapUpdate;refine Wo _ rfl _ _ _ 66 rfl 3 3 Z Rc (plainElem prog 3) w.heap.size j D rfl R2.out (by unfold maxLen;omega) _ _ (.int .i64 x.id) rfl rfl (LA rz (G' C)) (.lit (.int .i64 j)) [] (plainElem_int rz (ae2 z)) ?_;intro dc r3 U)
     refine⟨⟨j+1,_,m++[x.id],z,bG,pD.put XB.out B.out IU.out x.id j r3,o.out.aE3 au Df.out ap.out C,?_,(below_drewN d.out nq).grown U d.out.size (fun b A=>by cases A;exact aZ _)⟩,by simp[RowKit.intOf];omega⟩
     rw[ia,Bq,Go.bh.aso]
     exact xA (w:=w7.drewN nq) u.out (ah6 U (Fv _)))
   |some fo=>
    obtain⟨t,ai,Ui,rfl,_⟩:=o.out.Lv x.id fo n;have b9:has D (.int .i64 x.id)=true:=by rw[B.out,n];rfl
    have an:=IU.out x.id t n;have ad:=G n;obtain⟨WT,DO,Oi⟩:=Xg.out t ai;have J5:∃y,y=l[t]/\iP (fun x=>aV x/\x≠g) wr WT y:=⟨_,rfl,DO⟩;clear DO n;obtain⟨y,ue,ui,uj,dF,gN,c9,qd,eK,nH,oc,nl,nn,lH,lI,rfl,_,_,_⟩:=J5;have ME:=G ue;have kD:g<wr.heap.size:=by obtain⟨ck,ag⟩:=jy;exact bF ag
    clear ue v0;obtain⟨dC,aj,aF,bq,cI,hr,iV,jY,tM,vm,Ah,Ai,Aj,Ak,Al,Am⟩:=Eg (fun i h=>(fy.out.cell kD).trans (Oi i h));obtain⟨v0,dW,ek,v3,v4,v5,g1,nr,ms,v9,te,tf,tg,xJ,xK,xL⟩:=sD g2.out;have t0:(0:Int)<=(t:Int):=z;have dI:(t:Int)<l.length:=z;clear Oi;go_upto_region 9 with(at_lookup;refine asU _ rfl _ _ 66 rfl 3 3 .i64 Z Rc rz (aeK _) w.heap.size j D rfl I2.out _ (.int .i64 x.id) rfl (LA rz (G' C)) ?_;intro b8 hM _;rw[b9];obtain rfl:b8=(t:Int):=(by have h:=hM.symm.trans an;injection h with h;injection h))
    go_region_held3 (fun X=>X.cell? ⟨g,t*16,none⟩=some (.int .i64 y.id)/\X.cell? ⟨g,t*16+1,none⟩=some (.int .i64 y.c_)/\X.cell? ⟨g,t*16+2,none⟩=some (.int .i64 y.gq)/\X.cell? ⟨g,t*16+3,none⟩=some (.int .i64 y.dj)/\X.cell? ⟨g,t*16+4,none⟩=some (.int .i64 y.kd)/\X.cell? ⟨g,t*16+5,none⟩=some (.slice ui y.hh.length uj)/\X.cell? ⟨g,t*16+6,none⟩=some (.int .i64 dF)/\X.cell? ⟨g,t*16+7,none⟩=some (.string gN)/\X.cell? ⟨g,t*16+8,none⟩=some (.int .i64 c9)/\X.cell? ⟨g,t*16+9,none⟩=some (.int .i64 qd)/\X.cell? ⟨g,t*16+10,none⟩=some (.int .i64 eK)/\X.cell? ⟨g,t*16+11,none⟩=some (.slice nH 0 oc)/\X.cell? ⟨g,t*16+12,none⟩=some (.slice nl 0 nn)/\X.cell? ⟨g,t*16+13,none⟩=some (.string y.fm)/\X.cell? ⟨g,t*16+14,none⟩=some (.string y.e5)/\X.cell? ⟨g,t*16+15,none⟩=some (.slice lH y.prog.length lI)/\X.cell? ⟨wr.heap.size,0,none⟩=some (.int .i64 x.id)/\X.cell? ⟨wr.heap.size,1,none⟩=some (.int .i64 x.c_)/\X.cell? ⟨wr.heap.size,2,none⟩=some (.int .i64 x.gq)/\X.cell? ⟨wr.heap.size,3,none⟩=some (.int .i64 x.dj)/\X.cell? ⟨wr.heap.size,4,none⟩=some (.int .i64 x.kd)/\X.cell? ⟨wr.heap.size,5,none⟩=some (.slice V x.hh.length Y)/\X.cell? ⟨wr.heap.size,6,none⟩=some (.int .i64 b4)/\X.cell? ⟨wr.heap.size,7,none⟩=some (.string I)/\X.cell? ⟨wr.heap.size,8,none⟩=some (.int .i64 E)/\X.cell? ⟨wr.heap.size,9,none⟩=some (.int .i64 Q)/\X.cell? ⟨wr.heap.size,10,none⟩=some (.int .i64 H)/\X.cell? ⟨wr.heap.size,11,none⟩=some (.slice L 0 M)/\X.cell? ⟨wr.heap.size,12,none⟩=some (.slice N 0 O)/\X.cell? ⟨wr.heap.size,13,none⟩=some (.string x.fm)/\X.cell? ⟨wr.heap.size,14,none⟩=some (.string x.e5)/\X.cell? ⟨wr.heap.size,15,none⟩=some (.slice S x.prog.length T)) (first|with_reducible exact⟨dC,aj,aF,bq,cI,hr,iV,jY,tM,vm,Ah,Ai,Aj,Ak,Al,Am,v0,dW,ek,v3,v4,v5,g1,nr,ms,v9,te,tf,tg,xJ,xK,xL⟩|with_reducible exact⟨u0,u1,u2,u3,u4,u5,u6,u7,u8,u9,u10,u11,u12,u13,u14,u15,dX,dl,dE,cH,ja,jS,lK,ti,xQ,xR,xP,CP,CQ,Ls,Lt,Lu⟩|go_keep) (first
     |(go_at_call 20;refine(aDx _ undef _ undef _ _ _ _ _ _ _ _ _ _ _ _ _ undef _ undef _ _ _ _ _ _ _ _ _ _ _ _ y.c_ y.dj x.c_ x.dj _).mono ?_;rintro e w7 ⟨rfl,iu⟩;rw[←aDy y x];generalize aC:later y.vs x.vs=q;have lP:=G aC;clear aC;have d:=G ((lh bi).trans iu);clear iu;obtain⟨u0,u1,u2,u3,u4,u5,u6,u7,u8,u9,u10,u11,u12,u13,u14,u15⟩:=am7 d.out (cS fy.out kD) ⟨dC,aj,aF,bq,cI,hr,iV,jY,tM,vm,Ah,Ai,Aj,Ak,Al,Am⟩;have dX:=az d.out k v0;have dl:=az d.out k dW;have dE:=az d.out k ek;have cH:=az d.out k v3;have ja:=az d.out k v4;have jS:=az d.out k v5;have lK:=az d.out k g1;have ti:=az d.out k nr;have xQ:=az d.out k ms;have xR:=az d.out k v9;have xP:=az d.out k te;have CP:=az d.out k tf;have CQ:=az d.out k tg;have Ls:=az d.out k xJ;have Lt:=az d.out k xK;have Lu:=az d.out k xL))
    have R2:=G (apT I2.out d.out);have u:=G (Go.bh.N.EB iC.out d.out);have oA:=G (cj s.out d.out);clear dC u0 v0 aj u1 dW aF u2 ek bq u3 v3 cI u4 v4 hr u5 v5 iV u6 g1 jY u7 nr tM u8 ms vm u9 v9 Ah u10 te Ai u11 tf Aj u12 tg Ak u13 xJ Al u14 xK Am u15 xL;cases q
    ·go_wp2_with (at_mapUpdate;refine Wo _ rfl _ _ _ 66 rfl 3 3 Z Rc (plainElem prog 3) w.heap.size j D rfl R2.out (by unfold maxLen;omega) _ _ (.int .i64 x.id) rfl rfl (LA rz (G' C)) (.lit (.int .i64 j)) [] (plainElem_int rz (ae2 z)) ?_;intro dc r3 U);exact⟨⟨j+1,_,m,z,bG,pD.put XB.out B.out IU.out x.id j r3,o.out.aKs au Df.out ai ad.out ME.out lP.out,xA u.out (ah6 U (Fv _)),oA.out.grown U oA.out.size (fun b A=>by cases A;exact aZ _)⟩,by simp[RowKit.intOf];omega⟩
    ·go_wp2;exact⟨⟨j+1,f,m,z,bG,⟨D,R2.out.mono (qQ j),XB.out,B.out,IU.out⟩,o.out.aDh au Df.out ai ad.out ME.out lP.out,u.out,oA.out⟩,by simp[RowKit.intOf];omega⟩
  ·obtain rfl:j=l.length:=z;have jq:¬(l.length:Int)<l.length:=z;obtain⟨va,ct,rfl⟩:=Go.bh.ac7 r;have de:=K.len;have FE:=G (aI' wr (w.heap.size+1) va ct m r z);have ae:=G r.lt;have mX:=G fl;have o:=G K;have s:=G A;clear fl K A r;go_upto_region 12 with fail
   go_cut []from 70 (fun cY=>pD cY w.heap.size l.length f/\cY.ownsRow (w.heap.size+1) 3 1 (.slice va m.length ct) m.length (gF (n1 m))/\β w cY)
   case first=>go_wp2_with (go_at_call 21;(with_reducible refine FE.out.mono ?_);rintro e w7 ⟨rfl,GF,ab⟩;have u:=G GF;have Xk:=G (mX.out.kept ab (fun e=>by have:=(ae.out _ e.symm).1;omega));have d:=G (s.out.grown ab s.out.size (fun b A=>by have:=(ae.out b A).1;omega));clear GF ab);go_meet;exact⟨Xk.out,u.out,d.out⟩
   case rest=>obtain⟨sJ,GF,B'⟩:=hcut;go_step;exact azh w _ c l pM hY.out zI.out ct m f o.out wc sJ GF B'
end Go.bS
namespace Go.bS
open Go Go.Proofs.Tryz Go.Proofs Go.RowKit Go.Lib Go.aJ
theorem aCS(w:World)(a b:Option Addr)(c d:Nat)(l:List Int)(h:qj aV w a l)(f:qj aV w b l): χ 54 #[.slice a l c,.slice b l d] w fun e w'=>oD e:=by
 have r:=G h;have m:=G f;have s:=h.1;clear h f;go_enter func54,ntmps54
 go_wp2;go_loopw [5] (fun i wr=>∃k:Nat,k<=l.length/\i=.int .i64 k/\β w wr) (fun i _=>l.length-(RowKit.intOf i).toNat);case atStart=>exact⟨0,dx _,rfl,br _ _⟩
 case round=>
  obtain⟨k,t,rfl,A⟩:=hrel;by_cases au:k<l
  ·have n:(k:Int)<l.length:=z;have D:(0:Int)<=(k:Int):=z;obtain⟨y,C,rfl,_,o,g⟩:=r.out.2 z;obtain⟨u,B,rfl,_,q,j⟩:=m.out.2 z;have c1:=az A o (g k au);have c2:=az A q (j k au);clear g j;generalize l[k]=x at*
   go_wp2;go_quiet (fail)
   go_wp2;exact⟨⟨k+1,z,bG,⟨A.os,A.tape,A.output,A.size,A.block⟩⟩,by simp[RowKit.intOf];omega⟩
  ·have n:¬(k:Int)<l.length:=z
   go_wp2;go_ret;exact⟨rfl,A⟩
theorem ayO(w:World)(F I:Array Value)(x:cf)(h:iP aV w F x)(bc:iP aV w I x): χ 23 #[.agg F,.agg I] w fun e w'=>oD e:=by
 obtain⟨u,y,b4,d,b,f,c,j,k,l,m,n,o,rfl,yH,J,hE⟩:=h;obtain⟨A,B,dF,gN,c9,qd,eK,r,z,s,t,p,q,rfl,L,K,h0⟩:=bc;rw[yH]at L;cases L;have T:=G (lm w (.cells (gY x.id x.c_ x.gq x.dj x.kd u x.hh y b4 d b f c j k l m x.fm x.e5 n x.prog o) 44 (0,0)) (.cells (gY x.id x.c_ x.gq x.dj x.kd A x.hh B b4 d b f c r z s t x.fm x.e5 p x.prog q) 44 (0,0)));have bl:=G fun W (a:β w W)=>aIb 1 1 W u A y B x.hh x.hh (cz.K (aU.mono aV 1) J a) (cz.K (aU.mono aV 1) K a);have bH:=G fun W=>JR b4 d b f c j l r s k m z t W;have hV:=G fun W (a:β w W)=>aCS W n p o q x.prog (hE.ex (.hP a)) (h0.ex (.hP a));clear yH J hE K h0;go_enter func23,ntmps23;go_upto_region 1 with fail
 generalize ((w.alloc (.cells (gY x.id x.c_ x.gq x.dj x.kd u x.hh y b4 d b f c j k l m x.fm x.e5 n x.prog o) 44 (0,0))).alloc (.cells (gY x.id x.c_ x.gq x.dj x.kd A x.hh B b4 d b f c r z s t x.fm x.e5 p x.prog q) 44 (0,0)))=am at T⊢;obtain⟨eN,dv,dy,gj,hF,hQ,i8,EC,M,N,O,P,Q,E,R,S⟩:=sD T.out.p;obtain⟨fo,b8,cr,ej,i9,l2,ll,yZ,C,D,U,V,H,X,Y,Z⟩:=sD T.out.q
 go_wp2_with (first|(have _:=g;go_at_call 54;(with_reducible refine(hV.out _ g.out.h).mono ?_);rintro e bn ⟨rfl,bu⟩;have ho:=G (g.out.K bu);clear bu)|(have _:=i;go_at_call 53;(with_reducible refine(bH.out _).mono ?_);rintro e bX ⟨rfl,bf⟩;have g:=G (i.out.K bf);clear bf;obtain⟨eN,dv,dy,gj,hF,hQ,i8,EC,M,N,O,P,Q,E,R,S⟩:=sD g.out.p;obtain⟨fo,b8,cr,ej,i9,l2,ll,yZ,C,D,U,V,H,X,Y,Z⟩:=sD g.out.q)|(go_at_call 52;(with_reducible refine(bl.out _ T.out.h).mono ?_);rintro e aq ⟨⟨dw,rfl,oO⟩,bp⟩;have i:=G (T.out.K bp);obtain rfl:=oO rfl;clear bp oO;obtain⟨eN,dv,dy,gj,hF,hQ,i8,EC,M,N,O,P,Q,E,R,S⟩:=sD i.out.p;obtain⟨fo,b8,cr,ej,i9,l2,ll,yZ,C,D,U,V,H,X,Y,Z⟩:=sD i.out.q))
 go_ret;exact⟨rfl,ho.out.h⟩
theorem ark(w:World)(a b:Option Addr)(c d:Nat)(l:List cf)(h:iQ aV w a l)(R:iQ aV w b l): χ 8 #[.slice a l c,.slice b l d] w fun e w'=>oD e:=by
 have zE:=G fun W (m:β w W)=>(h.K m).2;have Mh:=G fun W (m:β w W)=>(R.K m).2;have pM:=h.1;clear h R;go_enter func8,ntmps8
 go_wp2;go_loopw [5] (fun i wr=>∃k:Nat,k<=l.length/\i=.int .i64 k/\β w wr) (fun i _=>l.length-(RowKit.intOf i).toNat);case atStart=>exact⟨0,dx _,rfl,br _ _⟩
 case round=>
  obtain⟨k,aa,rfl,A⟩:=hrel;by_cases au:k<l
  ·have jq:(k:Int)<l.length:=z;have ei:(0:Int)<=(k:Int):=z;obtain⟨g,rfl,_,⟨ab,B⟩,jn⟩:=zE.out wr A z;obtain⟨j,rfl,_,⟨ad,C⟩,mK⟩:=Mh.out wr A z;obtain⟨F,n,yt⟩:=jn k au;obtain⟨O,o,E⟩:=mK k au;have cK:∃x,iP (fun x=>aV x/\x≠g) wr F x/\iP (fun x=>aV x/\x≠j) wr O x:=⟨_,n,o⟩;clear n o jn mK;obtain⟨x,n,o⟩:=cK;have C2:=G fun W (m:β wr W)=>ayO W F O x ((n.low fun _ _=>g').ex (.hP m)) ((o.low fun _ _=>g').ex (.hP m));obtain⟨oQ,oR,b4,bV,b1,iB,b5,gJ,gK,gu,gv,jM,jN,rfl,_,_,_⟩:=n;obtain⟨ui,uj,dF,gN,c9,qd,eK,nH,oc,nl,nn,lH,lI,rfl,_,_,_⟩:=o;have bZ:=bF B;have cp:=bF C;obtain⟨dC,aj,N,S,U,hr,iV,jY,tM,vm,q,r,s,t,u,y⟩:=Eg yt;obtain⟨V,P,Q,T,dt,Y,hf,m8,M,vo,H,I,J,D,K,L⟩:=Eg E;have Z:=G A;clear yt E B C A;go_upto_region 6 with fail
   go_region_held3 (fun X=>X.cell? ⟨g,k*16,none⟩=some (.int .i64 x.id)/\X.cell? ⟨g,k*16+1,none⟩=some (.int .i64 x.c_)/\X.cell? ⟨g,k*16+2,none⟩=some (.int .i64 x.gq)/\X.cell? ⟨g,k*16+3,none⟩=some (.int .i64 x.dj)/\X.cell? ⟨g,k*16+4,none⟩=some (.int .i64 x.kd)/\X.cell? ⟨g,k*16+5,none⟩=some (.slice oQ x.hh oR)/\X.cell? ⟨g,k*16+6,none⟩=some (.int .i64 b4)/\X.cell? ⟨g,k*16+7,none⟩=some (.string bV)/\X.cell? ⟨g,k*16+8,none⟩=some (.int .i64 b1)/\X.cell? ⟨g,k*16+9,none⟩=some (.int .i64 iB)/\X.cell? ⟨g,k*16+10,none⟩=some (.int .i64 b5)/\X.cell? ⟨g,k*16+11,none⟩=some (.slice gJ 0 gK)/\X.cell? ⟨g,k*16+12,none⟩=some (.slice gu 0 gv)/\X.cell? ⟨g,k*16+13,none⟩=some (.string x.fm)/\X.cell? ⟨g,k*16+14,none⟩=some (.string x.e5)/\X.cell? ⟨g,k*16+15,none⟩=some (.slice jM x.prog jN)/\X.cell? ⟨j,k*16,none⟩=some (.int .i64 x.id)/\X.cell? ⟨j,k*16+1,none⟩=some (.int .i64 x.c_)/\X.cell? ⟨j,k*16+2,none⟩=some (.int .i64 x.gq)/\X.cell? ⟨j,k*16+3,none⟩=some (.int .i64 x.dj)/\X.cell? ⟨j,k*16+4,none⟩=some (.int .i64 x.kd)/\X.cell? ⟨j,k*16+5,none⟩=some (.slice ui x.hh uj)/\X.cell? ⟨j,k*16+6,none⟩=some (.int .i64 dF)/\X.cell? ⟨j,k*16+7,none⟩=some (.string gN)/\X.cell? ⟨j,k*16+8,none⟩=some (.int .i64 c9)/\X.cell? ⟨j,k*16+9,none⟩=some (.int .i64 qd)/\X.cell? ⟨j,k*16+10,none⟩=some (.int .i64 eK)/\X.cell? ⟨j,k*16+11,none⟩=some (.slice nH 0 oc)/\X.cell? ⟨j,k*16+12,none⟩=some (.slice nl 0 nn)/\X.cell? ⟨j,k*16+13,none⟩=some (.string x.fm)/\X.cell? ⟨j,k*16+14,none⟩=some (.string x.e5)/\X.cell? ⟨j,k*16+15,none⟩=some (.slice lH x.prog lI)) (first|with_reducible exact⟨dC,aj,N,S,U,hr,iV,jY,tM,vm,q,r,s,t,u,y,V,P,Q,T,dt,Y,hf,m8,M,vo,H,I,J,D,K,L⟩|with_reducible exact⟨u0,u1,u2,u3,u4,u5,u6,u7,u8,u9,u10,u11,u12,u13,u14,u15,dX,dl,dE,cH,ja,jS,lK,ti,xQ,xR,xP,CP,CQ,Ls,Lt,Lu⟩|go_keep) (first|(go_at_call 23;refine(C2.out _ ((br _ _).drew)).mono ?_;rintro e w7 ⟨rfl,iu⟩;have f:=G ((lh wr).trans iu);clear iu;obtain⟨u0,u1,u2,u3,u4,u5,u6,u7,u8,u9,u10,u11,u12,u13,u14,u15⟩:=am7 f bZ ⟨dC,aj,N,S,U,hr,iV,jY,tM,vm,q,r,s,t,u,y⟩;have dX:=az f cp V;have dl:=az f cp P;have dE:=az f cp Q;have cH:=az f cp T;have ja:=az f cp dt;have jS:=az f cp Y;have lK:=az f cp hf;have ti:=az f cp m8;have xQ:=az f cp M;have xR:=az f cp vo;have xP:=az f cp H;have CP:=az f cp I;have CQ:=az f cp J;have Ls:=az f cp D;have Lt:=az f cp K;have Lu:=az f cp L))
   have aA:=Z.out.size
   go_wp2;exact⟨⟨k+1,z,bG,Z.out.trans (f.out.mono aA)⟩,by simp[RowKit.intOf];omega⟩
  ·have jq:¬(k:Int)<l.length:=z
   go_wp2;go_ret;exact⟨rfl,A⟩
end Go.bS
namespace Go.bS
open Go Go.Proofs.Tryz Go.Proofs Go.RowKit Go.Lib Go.aJ Go.Maps Go.WideMaps
theorem aDw:laidOutB prog=true:=av
theorem aqY:(45:TypeId)<prog.types.size:=LZ av
theorem aib:ArrKey prog 45 3 3:=⟨underlying45,av,av,av⟩
theorem aLz:(match prog.underlying 45 with|some (.array _ _)|some (.struct _)=>true|_=>false)=true:=by rw[underlying45]
theorem aDC:KeyLaw prog 45:=deep_law_laid aDw (m:=2) z aqY av aLz
theorem aDk:Keyed prog 45:=Keyed.of_law aDC
def Ux(a b c:Int):Lit:=.string (keyBytes [.int .i64 a,.int .i64 b,.int .i64 c])
theorem asj:∃m,prog.types.size=m+1:=⟨_,(Nat.succ_pred_eq_of_pos (p_ (dx _) aqY)).symm⟩
theorem aDi{a b c:Int}(g:(Lit.int .i64 a).wf=true)(h:(Lit.int .i64 b).wf=true)(wc:(Lit.int .i64 c).wf=true): keyOf prog 45 (.agg #[a,b,c])=some (Ux a b c):=by
 have e:=aib.keyType asj;obtain⟨m,f⟩:=asj;have d:=aib;unfold keyOf;simp only[d.hu];rw[co (by simp[e,Value.formed,d.hu,d.size]),f];unfold Program.keyLits;simp only[d.hu,Value.cells];rw[co (by rw[d.size];rfl),show List.range 3=[0,1,2]from rfl,LS,LS,LS,List.mapM_nil];simp[d.one,Program.keyLits,rz,g,h,wc,Ux]
end Go.bS
namespace Go.bS
open Go Go.Proofs.Tryz Go.Proofs Go.RowKit Go.Lib Go.aJ Go.Maps
def cf.key(x:cf):Int×Int×Int:=(x.id,x.c_,x.dj)
def cf.i7(x:cf):Lit:=Ux x.id x.c_ x.dj
structure sy (w:World) (b:Nat) (l:List cf) (j:Nat):Prop where
 o:∃(D:DataW Unit) (bE:List Int),w.ownsMap prog 3 (plainElem prog 4) b j D/\Tidy D/\size D=bE.length/\bE.Nodup/\(∀x:Int,has D (.int .i64 x)=true↔x∈bE)/\∀x:Int,x∈bE↔ ∃y∈l.take j,y.id=x
structure sz (w:World) (b:Nat) (l:List cf) (j:Nat):Prop where
 o:∃D:DataW Unit,w.ownsMap prog 45 (plainElem prog 4) b j D/\Tidy D/\size D<=j/\(size D=j->((l.take j).map cf.key).Nodup)/\∀y∈l.take j,has D y.i7=true
theorem sy.start(w:World)(l:List cf):sy (w.alloc (.map #[] 0)) w l 0:=⟨.map [],[],ae5 w _ _ _,tidy_empty,rfl,List.nodup_nil,fun x=>by simp[has_eq],fun x=>ao⟩
theorem sz.start(w:World)(l:List cf):sz (w.alloc (.map #[] 0)) w l 0:=⟨.map [],ae5 w _ _ _,tidy_empty,aZ _,fun _=>ao,fun y h=>by simp at h⟩
variable{w w':World}{b j:Nat}{l:List cf}{row:Option Nat}
theorem sy.kept(h:sy w b l j)(an:w.grownBy w' row)(c:some b≠row):sy w' b l j:=by
 obtain⟨D,a,H,I⟩:=h.o;exact⟨D,a,H.kept an c,I⟩
theorem sz.kept(h:sz w b l j)(an:w.grownBy w' row)(a:some b≠row):sz w' b l j:=by
 obtain⟨D,H,I⟩:=h.o;exact⟨D,H.kept an a,I⟩
theorem sy.K(h:sy w b l j)(A:β w w'):sy w' b l j:=h.kept (row:=none) ⟨A.os,A.tape,A.output,A.size,fun k a _=>A.block k a⟩ ao
theorem sz.K(h:sz w b l j)(A:β w w'):sz w' b l j:=h.kept (row:=none) ⟨A.os,A.tape,A.output,A.size,fun k a _=>A.block k a⟩ ao
theorem abV(a b c:Int):WideAt.IsKeyLit (Ux a b c):=g'
theorem aIq{l:List cf}{j:Nat}(p:j<l.length){x:cf}(o:x=l[j]){D:DataW Unit}{a:List Int}(b:Tidy D)(m:size D=a.length)(n:a.Nodup)(f:∀x:Int,has D (.int .i64 x)=true↔x∈a)(k:∀x:Int,x∈a↔ ∃y∈l.take j,y.id=x)(d:DataW Unit):∃g:List Int,Tidy (D.put (.int .i64 x.id) d)/\size (D.put (.int .i64 x.id) d)=g.length/\g.Nodup/\(∀af:Int,has (D.put (.int .i64 x.id) d) (.int .i64 af)=true↔af∈g)/\∀af:Int,af∈g↔ ∃y∈l.take (j+1),y.id=af:=by
 have ai:∀af:Int,(∃y∈l.take (j+1),y.id=af)↔((∃y∈l.take j,y.id=af)∨x.id=af):=fun af=>by
  rw[p9 p,←o];constructor
  ·rintro⟨y,i,rfl⟩;rcases lo.1 i with h|h
   ·exact .inl ⟨y,h,rfl⟩
   ·obtain rfl:=o0.1 h;exact .inr rfl
  ·rintro(⟨y,i,rfl⟩|rfl)
   ·exact⟨y,lo.2 (.inl i),rfl⟩
   ·exact⟨x,lo.2 (.inr (o0.2 rfl)),rfl⟩
 have ag:∀af:Int,has (D.put (.int .i64 x.id) d) (.int .i64 af)=true↔(af=x.id∨has D (.int .i64 af)=true):=fun af=>by
  by_cases e:af=x.id
  ·subst e;rw[V6 b.isMap (KH _)];simp
  ·rw[has_put_other (fun h=>e (by injection h))];simp[e]
 by_cases c:x.id∈a
 ·refine⟨a,b.put (KH _) _,?_,n,fun af=>?_,fun af=>?_⟩
  ·rw[size_put b,co ((f _).2 c),m]
  ·rw[ag,f];exact⟨fun h=>h.elim (fun e=>e▸c) _root_.id,.inr⟩
  ·rw[ai,←k];exact⟨.inl,fun h=>h.elim _root_.id (fun e=>e▸c)⟩
 ·refine⟨x.id::a,b.put (KH _) _,?_,afg.2 ⟨c,n⟩,fun af=>?_,fun af=>?_⟩
  ·rw[size_put b,bs (fun h=>c ((f _).1 h)),m,l7]
  ·rw[ag,f,gl]
  ·rw[ai,←k,gl];exact⟨fun h=>h.elim (fun e=>.inr e.symm) .inl,fun h=>h.elim .inr (fun e=>.inl e.symm)⟩
variable{x:cf}
theorem aIu(o:j<l)(k:x=l[j]){D:DataW Unit}(c:Tidy D)(s:size D<=j)(q:size D=j->((l.take j).map cf.key).Nodup)(i:∀y∈l.take j,has D y.i7=true)(d:DataW Unit): Tidy (D.put x.i7 d)/\size (D.put x.i7 d)<=j+1/\(size (D.put x.i7 d)=j+1->((l.take (j+1)).map cf.key).Nodup)/\∀y∈l.take (j+1),has (D.put x.i7 d) y.i7=true:=by
 have aO:l.take (j+1)=l.take j++[x]:=by rw[p9 o,←k]
 refine⟨c.put (abV _ _ _) _,?_,fun h=>?_,fun y f=>?_⟩;rw[size_put c];split<;>omega
 ·rw[size_put c]at h;by_cases g:has D x.i7=true;rw[co g]at h;omega
  ·rw[bs g]at h;rw[aO,xY];refine as7.2 ⟨q z,ao,fun a aH b A e=>?_⟩;obtain⟨y,f,rfl⟩:=nv.1 aH;obtain⟨af,m,rfl⟩:=nv.1 A;obtain rfl:=o0.1 m;have:y.i7=af.i7:=by have aj:y.id=af.id:=hU Prod.fst e;have n:y.c_=af.c_:=hU (fun p=>p.2.1) e;have r:y.dj=af.dj:=hU (fun p=>p.2.2) e;unfold cf.i7;rw[aj,n,r]
   exact g (this▸i y f)
 ·rw[aO]at f;rcases lo.1 f with h|h
  by_cases e:y.i7=x.i7;rw[e];exact V6 c.isMap (abV _ _ _) d;rw[has_put_other e];exact i y h;obtain rfl:=o0.1 h;exact V6 c.isMap (abV _ _ _) d
variable{R:List cf}
theorem azj{c:List Int}(h:l_ (l.map cf.vs) (R.map cf.vs))(i:c.Nodup)(g:∀x:Int,x∈c↔ ∃y∈l,y.id=x):R.length=c.length:=by
 have j:(R.map cf.id).Nodup:=by have:=h.Ej;rw[afh]at this;rw[List.Nodup,afh];exact this.imp fun {a b} (h:a.id<b.id)=>z
 have ag:(R.map cf.id).Perm c:=(List.perm_ext_iff_of_nodup j i).2 fun af=>by
  rw[g,nv];constructor;rintro⟨y,f,rfl⟩;obtain⟨af,d,e⟩:=nv.1 (h.mo (nv.2 ⟨y,f,rfl⟩));exact⟨af,d,(hU i2.id e:af.id=y.id)⟩;rintro⟨y,f,rfl⟩;obtain⟨v,J,e⟩:=h.all y.vs (nv.2 ⟨y,f,rfl⟩);obtain⟨af,d,rfl⟩:=nv.1 J;exact⟨af,d,e⟩
 have:=ag.length_eq
 rwa [IC]at this
theorem azk{S:List cf}(hu:(l.map cf.key).Nodup)(h:l_ (l.map cf.vs) (R.map cf.vs))(k:l_ (l.reverse.map cf.vs) (S.map cf.vs)):S=R:=by
 have e:=h.aKt (m:=l.reverse.map cf.vs) (S:=S.map cf.vs) (by rw[LU];exact hu) (fun x=>by simp[nv]) k;have:∀(a B:List cf),a.map cf.vs=B.map cf.vs->a=B:=fun a B e=>by exact aoa
 exact this _ _ e
theorem azi{S:List cf}(h:l_ (l.map cf.vs) (R.map cf.vs))(k:l_ (R.map cf.vs) (S.map cf.vs)):S=R:=by
 have e:=h.awk k;exact aoa
def VF(n:Nat):Code->Code
 |.seq a b=>if aas n a=true then a else VF n b
 |c=>c
def Mc(y x:cf):Prop:=y.id=x.id/\(x.dj<y.dj∨y.dj=x.dj/\x.c_<=y.c_)
theorem azm(h:l_ (l.map cf.vs) (R.map cf.vs))(a:x∈l):∃(t:Nat) (ai:t<R),Mc R[t] x:=by
 obtain⟨v,J,e,c⟩:=h.azl (nv.2 ⟨x,a,rfl⟩);obtain⟨y,b,rfl⟩:=nv.1 J;obtain⟨t,ai,rfl⟩:=IF.1 b;exact⟨t,ai,e,c⟩
structure WK (x:cf):Prop where
 a:1<=x.id/\x.id<=4
 b:(Lit.int .i64 x.c_).wf=true
 c:(Lit.int .i64 x.dj).wf=true
theorem aDD(g:World)(d m:Nat)(S:d=g.heap.size)(aK:m=d+1)(a eY:Option Addr)(c fi:Nat)(l R:List cf)(ab:iQ aV g a l)(du:iQ aV g eY R)(b_:l_ (l.map cf.vs) (R.map cf.vs))(ae:∀x∈l,WK x)(w:World)(dT:d+2<=w.heap.size)(jZ:Below d g w)(aB:sy w d l 0)(aD:sz w m l 0) {t0 dI cG t3 t4 t5 ky uv vX vY uw vZ v_ y1 v' ux uy uz t22 t23 uA t25 uB uC uD uE wa wb t32 wd we t35 t36 wg wh wi wj t41 wk wl t44 wm t46 wn wo wq ws wt wu t53 wv ww wx t57 wy wz wA wB wC t63 t64 wD wE wF wG wH y2 y3 y4 y5 y6 y7 y8 y9 y_ y' za zb zc zd ze zf zg zh zi zj zk zl zm H2 H3 H4 H5 H6 H7 H8 HI HJ HK HL HM HN HO HP HQ HR HS HT HU HV HW HX HY HZ EL EM EN EO EP EQ ER ES ET EU EV EW EX EY EZ E0 E1 E2 E3 E4 E5 E6 E7 E8 E9 E_ E' Fa:Value}{bE:Act->World->Prop}{yi:Exit->Act->World->Prop} (cF:∀{z4 Ij Ik Il bl bm z32 bn bo z35 z36 bp br bs bt z41 bu bv z44 bw z46 bA bB bC bD bH bI z53 bJ bK bL z57 bM bN bO bP bQ z63 z64 bR aO aP aQ aR aS aT aU aW aY a_ a' bb bc bd be bf bg bh bj bk:Value} (w':World),d+2<=w'.heap.size->Below d g w'->sy w' d l l.length->sz w' m l l.length->bE ⟨#[t0,dI,cG,t3,z4,t5,ky,.slice a l.length c,.slice eY R.length fi,.map (some d),.map (some m),uv,Ij,Ik,uw,Il,v_,y1,v',ux,uy,uz,t22,t23,uA,t25,uB,uC,uD,uE,bl,bm,z32,bn,bo,z35,z36,bp,br,bs,bt,z41,bu,bv,z44,bw,z46,bA,bB,bC,bD,bH,bI,z53,bJ,bK,bL,z57,bM,bN,bO,bP,bQ,z63,z64,bR,aO,aP,aQ,aR,aS,aT,aU,aW,aY,a_,a',bb,bc,bd,be,bf,bg,bh,bj,bk,zg,zh,zi,zj,zk,zl,zm,H2,H3,H4,H5,H6,H7,H8,HI,HJ,HK,HL,HM,HN,HO,HP,HQ,HR,HS,HT,HU,HV,HW,HX,HY,HZ,EL,EM,EN,EO,EP,EQ,ER,ES,ET,EU,EV,EW,EX,EY,EZ,E0,E1,E2,E3,E4,E5,E6,E7,E8,E9,E_,E',Fa],[]⟩ w'): Code.wp prog (VF 7 (f3.body.getD .ret)) (Exit.then bE yi) ⟨#[t0,dI,cG,t3,t4,t5,ky,.slice a l.length c,.slice eY R.length fi,.map (some d),.map (some m),uv,vX,vY,uw,vZ,v_,y1,v',ux,uy,uz,t22,t23,uA,t25,uB,uC,uD,uE,wa,wb,t32,wd,we,t35,t36,wg,wh,wi,wj,t41,wk,wl,t44,wm,t46,wn,wo,wq,ws,wt,wu,t53,wv,ww,wx,t57,wy,wz,wA,wB,wC,t63,t64,wD,wE,wF,wG,wH,y2,y3,y4,y5,y6,y7,y8,y9,y_,y',za,zb,zc,zd,ze,zf,zg,zh,zi,zj,zk,zl,zm,H2,H3,H4,H5,H6,H7,H8,HI,HJ,HK,HL,HM,HN,HO,HP,HQ,HR,HS,HT,HU,HV,HW,HX,HY,HZ,EL,EM,EN,EO,EP,EQ,ER,ES,ET,EU,EV,EW,EX,EY,EZ,E0,E1,E2,E3,E4,E5,E6,E7,E8,E9,E_,E',Fa],[]⟩ w:=by
 have eR:=G fun W (ar:Below d g W)=>(iQ.K ab (S▸ar)).2;have ls:=G fun W (ar:Below d g W)=>(iQ.K du (S▸ar)).2;have pM:=ab.1;have bX:=du.1;have jf:=G b_;have RO:=G ae;have gz:=@G _ @cF;have bY:Hid (∀b ck,a=some ⟨b,0,none⟩->0<l.length->g.heap[b]? =some (.cells ck 44 (0,0))->b<d):=G fun b ck _ _ h=>by rw[S];exact bF h
 have Dk:=int_keyed rz;have bS:=aDk;have Mx:=G dT;have al:=G jZ;have aq:=G aB;have av:=G aD;have Xl:=G S;have T:=G aK;clear ab du b_ ae cF jZ aB aD dT S aK;show Code.wp prog (Code.seq _ _) _ _ _
 go_wp2;go_loopw [32] (fun i wr=>∃j:Nat,j<=l.length/\i=.int .i64 j/\sy wr d l j/\sz wr m l j/\Below d g wr/\d+2<=wr.heap.size) (fun i _=>l.length-(RowKit.intOf i).toNat);case atStart=>exact⟨0,dx _,rfl,aq.out,av.out,al.out,Mx.out⟩
 case round=>
  clear aq av al Mx;obtain⟨j,aa,rfl,k,n,A,V⟩:=hrel;by_cases au:j<l.length
  ·have jq:(j:Int)<l.length:=z;have ei:(0:Int)<=(j:Int):=z;obtain⟨cb,rfl,_,⟨ck,jy⟩,O⟩:=eR.out wr A z;obtain⟨F,pg,yt⟩:=O j au;have cK:∃x,x=l[j]/\x∈l/\iP (fun x=>aV x/\x≠cb) wr F x/\WK x:=⟨_,rfl,fP au,pg,RO.out _ (fP au)⟩;clear pg O jy;obtain⟨x,Ee,aJ,⟨M,N,b4,B,s,I,u,C,D,E,H,J,K,rfl,_,_,_⟩,Kb⟩:=cK;have Df:=G Ee;have bW:=G aJ;have aH:=Kb.a;have ak:=G Kb;obtain⟨dC,aj,aF,bq,cI,hr,iV,jY,tM,vm,Ah,Ai,Aj,Ak,Al,Am⟩:=Eg yt;have o:=cW wr (.cells (gY x.id x.c_ x.gq x.dj x.kd M x.hh.length N b4 B s I u C D E H x.fm x.e5 J x.prog.length K) 44);have gy:=e4 wr (.cells (gY x.id x.c_ x.gq x.dj x.kd M x.hh.length N b4 B s I u C D E H x.fm x.e5 J x.prog.length K) 44);obtain⟨r,AN⟩:∃r,r=wr.heap.size:=⟨_,rfl⟩;have ay:=G (k.K gy);have aw:=G (n.K gy);have fy:=G (A.trans (gy.mono z));have AP:d+2<=(wr.alloc (.cells (gY x.id x.c_ x.gq x.dj x.kd M x.hh.length N b4 B s I u C D E H x.fm x.e5 J x.prog.length K) 44)).heap.size:=bz;have b0:d+2<=r:=z;rw[←AN]at o;have g2:=G o;have ap:=G AN;clear k n A yt Ee aJ Kb o gy AN;go_upto_region 10 with fail
   rw[←ap.out];clear dC aj aF bq cI hr iV jY tM vm Ah Ai Aj Ak Al Am ap;generalize (wr.alloc (.cells (gY x.id x.c_ x.gq x.dj x.kd M x.hh.length N b4 B s I u C D E H x.fm x.e5 J x.prog.length K) 44))=bi at*;obtain⟨v0,Z,-,v3⟩:=Gf g2.out;obtain⟨bT,bZ,J4,aE,hz,qv,D3,GU⟩:=ay.out.o;have af:=G J4;have BD:=G (aIq au Df.out aE hz qv D3 GU (.lit (.bool true)));clear J4 aE hz qv D3 GU;go_upto_region 11 with(at_mapUpdate;refine Wo _ rfl _ _ _ 34 rfl 3 4 Dk underlying34 (plainElem prog 4) d j bT rfl af.out (by unfold maxLen;omega) _ _ (.int .i64 x.id) rfl rfl (LA rz (G' aH)) (.lit (.bool true)) [] (plainElem_bool ae0 true) ?_;intro w7 qx sV;have uQ:=G qx;have L:=G sV;clear qx sV)
   obtain⟨wQ,dv,dy,gj,hF,hQ⟩:=BD.out;have az:=G (show sy w7 d l (j+1)from⟨_,wQ,uQ.out,dv,dy,gj,hF,hQ⟩);have am:=G (aw.out.kept L.out (fun e=>by have:=T.out;injection e with e;omega));have U:=G ((L.out.block r (bF g2.out) (fun e=>by injection e with e;omega)).trans g2.out);have fK:=G (fy.out.grown L.out z (fun b A=>by cases A;exact aZ _));have xq:d+2<=w7.heap.size:=cO AP L.out.size;clear dv dy gj hF hQ BD uQ L af ay aw fy v0 Z v3 AP;obtain⟨v0,Z,-,v3⟩:=Gf U.out;obtain⟨bU,Oe,J9,iH,AI,Kl⟩:=am.out.o;have ah:=G Oe;have o2:=G (aIu au Df.out J9 iH AI Kl (.lit (.bool true)));clear Oe J9 iH AI Kl;go_upto_region 12 with(at_mapUpdate;refine Wo _ rfl _ _ _ 35 rfl 45 4 bS underlying35 (plainElem prog 4) m j bU rfl ah.out (by unfold maxLen;omega) _ _ x.i7 rfl rfl (aDi (G' aH) ak.out.b ak.out.c) (.lit (.bool true)) [] (plainElem_bool ae0 true) ?_;intro dc r3 mL;have Db:=G r3;have P:=G mL;clear r3 mL)
   have Mz:=G (show sz dc m l (j+1)from⟨_,Db.out,o2.out⟩);have Mo:=G (az.out.kept P.out (fun e=>by have:=T.out;injection e with e;omega));have an:=G ((P.out.block r (bF U.out) (fun e=>by have:=T.out;injection e with e;omega)).trans U.out);have qg:=G (fK.out.grown P.out z (fun b A=>by cases A;have:=T.out;omega));have yO:d+2<=dc.heap.size:=cO xq P.out.size;clear o2 Db P ah am az U fK v0 Z v3 xq g2
   go_wp2;go_loopw [13,49] (fun f i wr=>∃(p:Nat) (q:Bool),p<=R.length/\i=.int .i64 p/\f=.bool q/\(q=true∨ ∀t (ai:t<R.length),t<p->¬Mc R[t] x)/\sy wr d l (j+1)/\sz wr m l (j+1)/\Below d g wr/\d+2<=wr.heap.size/\wr.heap[r]? =some (.cells (gY x.id x.c_ x.gq x.dj x.kd M x.hh.length N b4 B s I u C D E H x.fm x.e5 J x.prog.length K) 44 (0,0))) (fun _ i _=>R.length-(RowKit.intOf i).toNat);case atStart=>exact⟨0,false,dx _,rfl,rfl,.inr fun t _ h=>absurd h z,Mo.out,Mz.out,qg.out,yO,an.out⟩
   case round=>
    clear Mo Mz qg yO an;obtain⟨p,q,ag,rfl,rfl,X,k,n,A,V,o⟩:=hrel;by_cases aN:p<R.length
    ·have eN:(p:Int)<R.length:=z;have dv:(0:Int)<=(p:Int):=z;obtain⟨gs,rfl,_,_,O⟩:=ls.out wr A z;obtain⟨aI,aG,Ol⟩:=O p aN;have cK:∃y,y=R[p]/\iP (fun x=>aV x/\x≠gs) wr aI y:=⟨_,rfl,aG⟩;clear aG O;obtain⟨y,ue,ui,uj,dF,gN,Y,qd,eK,nH,oc,nl,nn,lH,lI,rfl,_,_,_⟩:=cK;have ME:=G ue;obtain⟨cQ,aX,ba,bx,dt,dS,hf,m8,Tg,vo,Tb,Tc,Td,Gv,Te,Tf⟩:=Eg Ol;have fF:=cW wr (.cells (gY y.id y.c_ y.gq y.dj y.kd ui y.hh.length uj dF gN Y qd eK nH oc nl nn y.fm y.e5 lH y.prog.length lI) 44);have Q:=e4 wr (.cells (gY y.id y.c_ y.gq y.dj y.kd ui y.hh.length uj dF gN Y qd eK nH oc nl nn y.fm y.e5 lH y.prog.length lI) 44);obtain⟨aL,ad⟩:∃aL,aL=wr.heap.size:=⟨_,rfl⟩;have Mp:=G (k.K Q);have MA:=G (n.K Q);have Mk:=G (A.trans (Q.mono z));have abE:d+2<=(wr.alloc (.cells (gY y.id y.c_ y.gq y.dj y.kd ui y.hh.length uj dF gN Y qd eK nH oc nl nn y.fm y.e5 lH y.prog.length lI) 44)).heap.size:=bz;have XC:=G ((Q.block _ (bF o)).trans o);rw[←ad]at fF;have o7:=G fF;have uV:=G ad;have lP:=G X;clear k n A Ol ue fF Q ad o X V;go_upto_region 16 with fail
     rw[←uV.out];clear cQ aX ba bx dt dS hf m8 Tg vo Tb Tc Td Gv Te Tf uV;generalize (wr.alloc (.cells (gY y.id y.c_ y.gq y.dj y.kd ui y.hh.length uj dF gN Y qd eK nH oc nl nn y.fm y.e5 lH y.prog.length lI) 44))=gG at*;obtain⟨v0,Z,-,v3⟩:=Gf XC.out;obtain⟨dX,dl,-,cH⟩:=Gf o7.out;cases q;rotate_left
     ·exact acz
     ·have ht:Hid (¬Mc y x->∀t (ai:t<R.length),t<p+1->¬Mc R[t] x):=G fun ax t ai Uj=>by
       by_cases e:t=p
       ·subst e;rw[←ME.out];exact ax
       ·exact(lP.out.resolve_left ao) t ai z
      by_cases c1:y.id=x.id
      ·have b8:(y.id==x.id)=true:=by rw[c1];exact afs _
       by_cases c2:x.dj<y.dj
       ·have e':decide (x.dj<y.dj)=true:=by simpa using c2
        exact acz
       ·have e':decide (x.dj<y.dj)=false:=by simpa using c2
        by_cases c3:y.dj=x.dj
        ·have ej:(y.dj==x.dj)=true:=by rw[c3];exact afs _
         by_cases c4:x.c_<=y.c_
         ·have j6:decide (x.c_<=y.c_)=true:=by simpa using c4
          exact acz
         ·have j6:decide (x.c_<=y.c_)=false:=by simpa using c4
          exact acq
        ·have ej:(y.dj==x.dj)=false:=by rw[lp];exact c3
         exact acq
      ·have b8:(y.id==x.id)=false:=by rw[lp];exact c1
       exact acq
    ·obtain rfl:p=R.length:=z;have eN:¬(R.length:Int)<R.length:=z;have hY:=G k;have x8:=G n;have dh:=G A;clear k n A;cases q
     ·exfalso;obtain⟨t,ai,aM⟩:=azm jf.out bW.out;exact(X.resolve_left ao) t ai ai aM
     ·clear X
      go_wp2;exact⟨⟨j+1,z,bG,hY.out,x8.out,dh.out,V⟩,by simp[RowKit.intOf];omega⟩
  ·obtain rfl:j=l.length:=z;have jq:¬(l.length:Int)<l.length:=z;have hY:=G k;have x8:=G n;have dh:=G A;clear k n A
   go_wp2;exact gz.out _ V dh.out hY.out x8.out
end Go.bS
