/- ConflictAuthors. -/
import Derived.Test.YtfgcglgpfgifkaaGreatDoorP14
set_option linter.all false
set_option maxRecDepth 100000
set_option maxHeartbeats 16000000
namespace Go.b3
open Go Go.Proofs.Tryz Go.Proofs Go.RowKit Go.c0 Go.bj
open Go.bj.N (lq)
open Go.aI (ef k7 fP pU g1)
theorem aye{S:cO}{M:Nat->Nat}{rs:List bA}{ca A:Option Addr}{cc y rb aC rc:Nat}{w:World}(h:AE S M rs ca A cc y rb aC rc w)(e4:13<=w.heap.size)(id:Int)(a:Option Addr)(n c:Nat)(O:k7 w a n)(ax:∀q,a=some q->0<n->q.block<w.heap.size)(an:n<=maxLen): Calls prog 20 #[.agg (eh S rs ca A cc y rb aC rc),.int .i64 id,.slice a n c] w fun e w'=>I2 w.heap.size e w'/\Below w.heap.size w w':=by
 have yV:=G fun(m:Int) (H:0<m) (I:m<=2000000000000001) W (af:ef W (w.heap.size+2) a n)=>pU W (w.heap.size+2) a n m H I an af;have Az:=G fun W (ar:Below w.heap.size w W) x=>aAv (h.U ar).ns (h.U ar).cap h.akr h.aj x;have M_:=G fun W (ar:Below w.heap.size w W) (aF:Option Addr) (bP k:Nat) (p:List Int) (ag:k5 W aF p) (eY:o1 rs M S.aj k p) (ab:p.length<=bP) (hd:bP<=9223372036854775807) x=>akN (h.U ar).ns aF bP k p ag eY ab hd x;have E_:=G fun W (ar:Below w.heap.size w W) (dI:Option Addr) (gq:Nat) (DY:k7 W dI 5) (Ea:∀q,dI=some q->0<5->q.block<W.heap.size)=>aBt (.string S.bo) (.int .i64 S.cZ) (.slice A S.aB.length y) (.slice (some ⟨rb,aC,none⟩) rs.length rc) (.int .i64 S.aj) ca cc S.bs dI 5 gq W (h.U ar).ns.c h.ns.ok.bs h.sS DY Ea ai;have yU:=G fun W (ar:Below w.heap.size w W)=>Go.bj.N.adK W (db e4 ar.size);have E8:=G fun W (ar:Below w.heap.size w W) (Q:Value) (j8:lq W Q) (ra:Option Addr) (u:Nat) (R:List bH) (bx:cU be (aY be 1) W ra R) (Gn:R.length=S.bs.length) (OU:∀v∈R,eR 1 v) (aF:Option Addr) (bP k:Nat) (p:List Int) (ag:k5 W aF p) (eY:o1 rs M S.aj k p) (ab:p.length<=bP) (bZ:p.length<=5)=>aBh (rwc:=u) p S.aj aF bP W ⟨(h.U ar).ns,h.ok,j8,bx,Gn.symm,OU⟩ ag ⟨by rw[eY.len];exact eY.gc,eY.Ab⟩ ab bZ;obtain⟨dR,j9⟩:∃dR:Int,dR=(((S.aB[S.aj]'h.ns.ok.aj).2:Nat):Int):=⟨_,rfl⟩;have DW:Hid (dR=1∨dR=2∨dR=3):=G (by have:=h.eF;omega);have R7:Hid (∀W,Below w.heap.size w W->Calls prog 48 #[.agg (eh S rs ca A cc y rb aC rc)] W fun e w'=>e=.returned (.int .i64 dR)/\Below W.heap.size W w'):=G fun W ar=>by rw[j9];exact axA (h.U ar).ns
 clear j9;have aG:=G fun W (af:ef W (w.heap.size+2) a n) (k:Int) (aa:k=1∨k=2∨k=3)=>aEN W (w.heap.size+2) a n an af k aa;have bk:=G fun(W:World) (k:Int) (s:ByteArray) (N D n:Int) (va:Option Addr) (cq:Nat) (j0:Option Addr) (wc:Nat) (J:p8 (.mk k s N D n [] []))=>aad J W (bY k s N D n va 0 cq j0 0 wc) (aY.iE be 1 W _ _ _ _ _ _ _ _ _);have DP:Hid (∀x,ca=some x->x.block≠w.heap.size+2):=G fun x X=>by exact aiY
 have bl:=G fun W (ar:Below w.heap.size w W) (af:ef W (w.heap.size+2) a n)=>fun id dM lM i5 eF hQ m9 iH fg bX j4 mz gL iT iV iv i4 iI h2 dp qz ei k s N D m va vD cq j0 tm wc aa=>akP (h.U ar).ns (w.heap.size+2) a n an af DP.out id dM lM i5 eF hQ m9 iH fg bX j4 mz gL iT iV iv i4 iI h2 dp qz ei k s N D m va vD cq j0 tm wc aa;have es:=G O;have mT:=G ax;have Fl:=G h;have aQ:=G (mv.g7 w a n c (eh S rs ca A cc y rb aC rc));clear h O ax;go_enter func20,ntmps20;go_upto_region 2 with fail
 generalize (((w.alloc (.cells (eh S rs ca A cc y rb aC rc) 29)).alloc (.cells x_ 47)).alloc (.cells #[.slice a n c,.int .i64 0] 57))=ap at aQ⊢;go_upto_region 3 with(first
  |(go_at_call 16;(with_reducible refine(yV.out 3 ai ai _ (aQ.out.num es.out mT.out)).mono ?_);rintro e ao ⟨⟨b',j_,it,rfl⟩,g,j⟩;have nl:=G (aQ.out.next g j);clear g j)
  |(go_at_call 16;(with_reducible refine(yV.out 5 ai ai _ (nl.out.num es.out mT.out)).mono ?_);rintro e bz ⟨⟨dt,pa,m7,rfl⟩,g,j⟩;have iR:=G (nl.out.next g j);clear g j)
  |(go_at_call 16;(with_reducible refine(yV.out 9 ai ai _ (iR.out.num es.out mT.out)).mono ?_);rintro e bh ⟨⟨eq,jl,uf,rfl⟩,g,j⟩;have iA:=G (iR.out.next g j);clear g j)
  |(go_at_call 16;(with_reducible refine(yV.out 5 ai ai _ ((iA.out.alloc _).num es.out mT.out)).mono ?_);rintro e a' ⟨⟨jX,vo,K4,rfl⟩,g,j⟩;have k_:=G ((iA.out.alloc _).next g j);obtain⟨m,rfl⟩:∃k:Nat,jX=(k:Int):=⟨jX.toNat,z⟩;obtain⟨eF,DX,xW⟩:=axD m z bh;have c4:a'.cell? ⟨bh.heap.size,m,none⟩=some (.int .i64 eF):=(by rw[mO (j.block bh.heap.size am (by have:=b1 iA.out.m.choose_spec.choose_spec;omega))];exact DX);have aT:=G xW;clear g j DX xW))
 have ba:=k_.out.b.size;have KR:w.heap.size+3<=a'.heap.size:=b1 k_.out.m.choose_spec.choose_spec;have qY:Hid (nj w a n (eh S rs ca A cc y rb aC rc) a'.heap.size (kz id (1+b') dt eq eF none 0 0 0 bL 0 0 0 none 0 none 0 bL bL none 0 0) (a'.alloc (.cells (kz id (1+b') dt eq eF none 0 0 0 bL 0 0 0 none 0 none 0 bL bL none 0 0) 47))):=G ⟨k_.out.alloc _,da _ _,KR⟩;clear nl iR iA k_ aQ c4;have DM:1<=1+b'/\1+b'<=3:=z;have qr:0<=eq/\eq<=8:=z;generalize 1+b'=dM at*;generalize a'.heap.size=r at*;generalize (a'.alloc (.cells (kz id dM dt eq eF none 0 0 0 bL 0 0 0 none 0 none 0 bL bL none 0 0) 47))=bq at*;obtain⟨T,F,L,K,U,Z⟩:=fZ qY.out.x.g;have aK:=G (Az.out)
 go_region_held3 (fun aD=>aD.cell? ⟨w.heap.size,0,none⟩=some (.string S.bo)/\aD.cell? ⟨w.heap.size,1,none⟩=some (.int .i64 S.cZ)/\aD.cell? ⟨w.heap.size,2,none⟩=some (.slice ca S.bs.length cc)/\aD.cell? ⟨w.heap.size,3,none⟩=some (.slice A S.aB.length y)/\aD.cell? ⟨w.heap.size,4,none⟩=some (.slice (some ⟨rb,aC,none⟩) rs.length rc)/\aD.cell? ⟨w.heap.size,5,none⟩=some (.int .i64 S.aj)) (first|with_reducible exact⟨T,F,L,K,U,Z⟩|with_reducible exact⟨u0,u1,u2,u3,u4,u5⟩|with_reducible exact⟨v0,eJ,eO,v3,v4,v5⟩|go_keep) (first
  |(have _:=u0;go_at_call 44;(with_reducible refine(Az.out _ Ja.out.x.b _).mono ?_);rintro e di ⟨⟨aF,bP,LY,p,rfl,ir,i0,x3,Wj,ue⟩,g3⟩;have tA:=G (fun(x:Addr) (X:aF=some x)=>(iz (b1 Ja.out.i) (ue x X):r<x.block));clear ue;have tL:=G (Ja.out.U g3);have xd:=G ir;have p':=G i0;clear ir i0 g3;obtain⟨v0,eJ,eO,v3,v4,v5⟩:=fZ tL.out.x.g)
  |(go_at_call 16;(with_reducible refine(yV.out 3000 ai ai _ (qY.out.drew.x.num es.out mT.out)).mono ?_);rintro e w7 ⟨⟨vz,Wt,wG,rfl⟩,g,j⟩;have Ja:=G (qY.out.drew.next g j);clear g j;obtain⟨u0,u1,u2,u3,u4,u5⟩:=fZ Ja.out.x.g))
 clear aK T F L K U Z u0 u1 u2 u3 u4 u5 qY Ja;have aE:r<di.heap.size:=b1 tL.out.i;obtain⟨-,-,-,-,mI,-,-,-,-,-,-,-,-,-,-,x9⟩:=Df tL.out.i;by_cases aM:eF=4
 ·subst aM;go_upto_if 35 with fail
  exact aAi Fl.out id a n es.out mT.out an tL.out xd.out p'.out x3 Wj tA.out KR DM qr _ _ _ _ _ _ _ _ _ _ _ _ _ _ _ _ _ _ _ _ _ _ _ _ _ _ _ _ _ _ _ _ _ _ _ _ _ _ _ _ _ _ _ _ _ _ _ _ _ _ _ _ _ _ _ _ _ _ _ _ _ _ _ _ _ _ _ _ _ _ _ _ _ _ _ _ _ _ _ _ _ _ _ _ _ _ _ _
 ·have kA:(eF==4)=false:=by rw[l8];exact aM
  have AY:=G tL.out.drew;have ND:=G (xd.out.U ((bi _ _).drew));have CP:Hid (p.length<=5):=G (by rw[p'.out.len];exact db p'.out.le (Fl.out.ns.oG _).2);go_upto_region 7 with fail
  clear mI x9 aE tL xd
  go_region_held3 (fun aD=>aD.cell? ⟨w.heap.size,0,none⟩=some (.string S.bo)/\aD.cell? ⟨w.heap.size,1,none⟩=some (.int .i64 S.cZ)/\aD.cell? ⟨w.heap.size,2,none⟩=some (.slice ca S.bs.length cc)/\aD.cell? ⟨w.heap.size,3,none⟩=some (.slice A S.aB.length y)/\aD.cell? ⟨w.heap.size,4,none⟩=some (.slice (some ⟨rb,aC,none⟩) rs.length rc)/\aD.cell? ⟨w.heap.size,5,none⟩=some (.int .i64 S.aj)) (first|with_reducible exact⟨v0,eJ,eO,v3,v4,v5⟩|with_reducible exact⟨u0,u1,u2,u3,u4,u5⟩|exact⟨(tQ z).trans T,(tQ z).trans F,(tQ z).trans L,(tQ z).trans K,(tQ z).trans U,(tQ z).trans Z⟩|go_keep) (first
   |(go_at_call 46;refine(E_.out _ (AY.out.alloc _).x.b _ _ (azi _ _ _ _ _ _) (fun q az _=>by cases az;simp)).mono ?_;rintro e E ⟨⟨ra,u,R,rfl,Gn,av,OU⟩,o6⟩;have uM:=G ((AY.out.alloc _).U o6);have ah:=G ((ND.out.U ((bi _ _).alloc (aZ _) _)).U o6);have tB:=G Gn;have NE:=G OU;obtain⟨cJ,Bh,iY,ld⟩:=aBU o6 av (AY.out.alloc _);have aj:=G Bh;clear Gn av OU o6 Bh;obtain⟨T,F,L,K,U,Z⟩:=fZ uM.out.x.g;have o6:r<E.heap.size:=b1 uM.out.i;have x':E.cell? ⟨r,5,none⟩=some (.slice none 0 0):=aS 5 uM.out.i;have f5:=Go.aI.cB (i:=5) uM.out.i)
   |(go_at_call 16;(with_reducible refine(yV.out 96 ai ai _ (AY.out.x.num es.out mT.out)).mono ?_);rintro e E ⟨⟨vz,Wt,wG,rfl⟩,g,j⟩;have AY:=G (AY.out.next g j);have ND:=G (aiD ND.out j (fun x X=>by have:=tA.out x X;omega));clear g j;obtain⟨u0,u1,u2,u3,u4,u5⟩:=fZ AY.out.x.g))
  have sL:Hid (nj w a n (eh S rs ca A cc y rb aC rc) r (kz id dM dt eq eF ra R.length u 0 bL 0 0 0 none 0 none 0 bL bL none 0 0) (E.setCell ⟨r,5,none⟩ (.slice ra R.length u))):=G (uM.out.set 5 _);have WK:Hid ((E.setCell ⟨r,5,none⟩ (.slice ra R.length u)).heap.size=E.heap.size):=G am;have SF:Hid (qU cJ E.heap.size (E.setCell ⟨r,5,none⟩ (.slice ra R.length u)) ra R):=G (aj.out.FK ((fw.refl _ E).set (fun X=>by have:=X.1;omega) 5 _));have Sx:Hid (k5 (E.setCell ⟨r,5,none⟩ (.slice ra R.length u)) aF p):=G (ax1 ah.out (fun x X=>tA.out x X) 5 _);clear T F L K U Z u0 u1 u2 u3 u4 u5 v0 eJ eO v3 v4 v5 x' f5 uM aj ah AY ND;generalize (E.setCell ⟨r,5,none⟩ (.slice ra R.length u))=yy at*;have O1:r<E.heap.size:=o6;clear o6;generalize E.heap.size=hq at*;go_upto_region 8 with fail
  go_cut [10]from 93 (fun x c9=>∃Q l bB lz lA j7 lW lB lX lY lD lZ,x=.pointer (some ⟨Q,0,none⟩)/\lw w a n (eh S rs ca A cc y rb aC rc) r (kz id dM dt eq eF ra R.length u 0 bL 0 0 0 none 0 none 0 bL bL none 0 0) cJ hq ra R Q (bY l bB lz lA j7 lW lB lX lY lD lZ) c9/\(l=1∨l=2∨l=3->lB=0/\lD=0/\p8 (.mk l bB lz lA j7 [] [])))
  case first=>
   obtain⟨T,F,L,K,U,Z⟩:=fZ sL.out.x.g;have ho:yy.cell? ⟨r,5,none⟩=some (.slice ra R.length u):=aS 5 sL.out.i
   go_region_held3 (fun aD=>aD.cell? ⟨w.heap.size,0,none⟩=some (.string S.bo)/\aD.cell? ⟨w.heap.size,1,none⟩=some (.int .i64 S.cZ)/\aD.cell? ⟨w.heap.size,2,none⟩=some (.slice ca S.bs.length cc)/\aD.cell? ⟨w.heap.size,3,none⟩=some (.slice A S.aB.length y)/\aD.cell? ⟨w.heap.size,4,none⟩=some (.slice (some ⟨rb,aC,none⟩) rs.length rc)/\aD.cell? ⟨w.heap.size,5,none⟩=some (.int .i64 S.aj)/\aD.cell? ⟨r,5,none⟩=some (.slice ra R.length u)) (first|with_reducible exact⟨v0,eJ,eO,v3,v4,v5,h4⟩|with_reducible exact⟨u0,u1,u2,u3,u4,u5,u6⟩|with_reducible exact⟨T,F,L,K,U,Z,ho⟩|with_reducible exact⟨(eW z).trans v0,(eW z).trans eJ,(eW z).trans eO,(eW z).trans v3,(eW z).trans v4,(eW z).trans v5,(eW z).trans h4⟩|go_keep) (first
    |(have _:=FI;go_at_call 47;(with_reducible refine(E8.out _ FI.out.y.y.x.b _ No.out _ _ _ FI.out.s.all tB.out NE.out _ _ _ _ NC.out p'.out x3 CP.out).mono ?_);rintro e MC ⟨⟨l,bB,lz,lA,j7,lW,lB,lX,lY,lD,lZ,rfl,C⟩,xS⟩;have f:=G (FI.out.U xS);have qN:=G C;clear xS C;obtain⟨v0,eJ,eO,v3,v4,v5⟩:=fZ f.out.y.y.x.g;have h4:MC.cell? ⟨r,5,none⟩=some (.slice ra R.length u):=aS 5 f.out.y.y.i;have aw:=b1 f.out.y.v;have Gw:=f.out.y.J;have aN:=f.out.ah;have iZ:=f.out.A;have gL:=aS 0 f.out.y.v;have z0:=Go.aI.cB (i:=0) f.out.y.v;have g:=aS 1 f.out.y.v;have cy:=Go.aI.cB (i:=1) f.out.y.v;have gs:=aS 2 f.out.y.v;have dv:=Go.aI.cB (i:=2) f.out.y.v;have gt:=aS 3 f.out.y.v;have z3:=Go.aI.cB (i:=3) f.out.y.v;have lL:=aS 4 f.out.y.v;have z4:=Go.aI.cB (i:=4) f.out.y.v;have n5:=aS 5 f.out.y.v;have z5:=Go.aI.cB (i:=5) f.out.y.v;have sp:=aS 6 f.out.y.v;have eP:=Go.aI.cB (i:=6) f.out.y.v;have NM:=G (f.out.put (.int .i64 l) (.string bB) (.int .i64 lz) (.int .i64 lA) (.int .i64 j7) (.slice lW lB lX) (.slice lY lD lZ)))
    |(have _:=C5;go_at_call 47;(with_reducible refine(E8.out _ Td.out.y.y.x.b _ (No.out.U ((bi _ _).alloc (aZ _) _)) _ _ _ Td.out.s.all tB.out NE.out _ _ _ _ (NC.out.U ((bi _ _).alloc (aZ _) _)) p'.out x3 CP.out).mono ?_);rintro e MC ⟨⟨l,bB,lz,lA,j7,lW,lB,lX,lY,lD,lZ,rfl,C⟩,xS⟩;have f:=G (Td.out.U xS);have qN:=G C;clear xS C;obtain⟨v0,eJ,eO,v3,v4,v5⟩:=fZ f.out.y.y.x.g;have h4:MC.cell? ⟨r,5,none⟩=some (.slice ra R.length u):=aS 5 f.out.y.y.i;have aw:=b1 f.out.y.v;have Gw:=f.out.y.J;have aN:=f.out.ah;have iZ:=f.out.A;have gL:=aS 0 f.out.y.v;have z0:=Go.aI.cB (i:=0) f.out.y.v;have g:=aS 1 f.out.y.v;have cy:=Go.aI.cB (i:=1) f.out.y.v;have gs:=aS 2 f.out.y.v;have dv:=Go.aI.cB (i:=2) f.out.y.v;have gt:=aS 3 f.out.y.v;have z3:=Go.aI.cB (i:=3) f.out.y.v;have lL:=aS 4 f.out.y.v;have z4:=Go.aI.cB (i:=4) f.out.y.v;have n5:=aS 5 f.out.y.v;have z5:=Go.aI.cB (i:=5) f.out.y.v;have sp:=aS 6 f.out.y.v;have eP:=Go.aI.cB (i:=6) f.out.y.v;have NM:=G (f.out.put (.int .i64 l) (.string bB) (.int .i64 lz) (.int .i64 lA) (.int .i64 j7) (.slice lW lB lX) (.slice lY lD lZ)))
    |(have _:=C5;go_at_call 47;(with_reducible refine(E8.out _ C5.out.x.b _ No.out _ _ _ SG.out.all tB.out NE.out _ _ _ _ NC.out p'.out x3 CP.out).mono ?_);rintro e MC ⟨⟨l,bB,lz,lA,j7,lW,lB,lX,lY,lD,lZ,rfl,C⟩,xS⟩;have Te:=G (C5.out.U xS);have qN:=G C;have a_:=xS.size;have NM:=G (lw.BM Te.out (SG.out.Jg xS) z ⟨iY,ld,O1⟩ (bY l bB lz lA j7 lW lB lX lY lD lZ));clear xS C;obtain⟨v0,eJ,eO,v3,v4,v5⟩:=fZ Te.out.x.g;have h4:MC.cell? ⟨r,5,none⟩=some (.slice ra R.length u):=aS 5 Te.out.i)
    |(go_at_call 19;(with_reducible refine(yU.out _ sL.out.drew.x.b).mono ?_);rintro e qI ⟨⟨aL,rfl,j8⟩,zx⟩;have C5:=G (sL.out.drew.U zx);have No:=G j8;have SG:=G ((SF.out.Jg ((bi _ _).drew)).Jg zx);have NC:=G ((Sx.out.U ((bi _ _).drew)).U zx);have aO:hq<=qI.heap.size:=(by have:=zx.size;have:=WK.out;simp at*;omega);have Td:=G (lw.BM C5.out SG.out aO ⟨iY,ld,O1⟩ fi);clear j8 zx;obtain⟨u0,u1,u2,u3,u4,u5⟩:=fZ C5.out.x.g;have u6:qI.cell? ⟨r,5,none⟩=some (.slice ra R.length u):=aS 5 C5.out.i)
    |(go_at_call 19;(with_reducible refine(yU.out _ (sL.out.alloc (.cells fi 44)).drew.x.b).mono ?_);rintro e qI ⟨⟨aL,rfl,j8⟩,zx⟩;have FI:=G ((lw.BM sL.out SF.out (Nat.le_of_eq WK.out.symm) ⟨iY,ld,O1⟩ fi).drew.U zx);have No:=G j8;have NC:=G (((Sx.out.U ((bi _ _).alloc (aZ _) _)).U ((bi _ _).drew)).U zx);clear j8 zx;obtain⟨u0,u1,u2,u3,u4,u5⟩:=fZ FI.out.y.y.x.g;have u6:qI.cell? ⟨r,5,none⟩=some (.slice ra R.length u):=aS 5 FI.out.y.y.i))
   all_goals
    first|(go_step;go_meet;exact⟨_,_,_,_,_,_,_,_,_,_,_,_,rfl,NM.out,qN.out⟩)|(go_wp2;go_meet;exact⟨_,_,_,_,_,_,_,_,_,_,_,_,rfl,NM.out,qN.out⟩)
  case rest=>
   obtain⟨Q,l,bB,lz,lA,j7,lW,lB,lX,lY,lD,lZ,rfl,vd,C⟩:=hcut;have S2:=G vd;have qN:=G C;clear vd C sL SF Sx E8 yU p' tA CP tB NE WK;go_upto_region 10 with(go_at_call 16;(with_reducible refine(yV.out 8 ai ai _ (S2.out.y.y.x.num es.out mT.out)).mono ?_);rintro e aA ⟨⟨ay,aR,aP,rfl⟩,g,j⟩;have CW:=G (S2.out.next g j);clear g j)
   generalize (ay==7)=bj;clear aR aP;obtain⟨T,F,L,K,U,Z⟩:=fZ CW.out.y.y.x.g;have ho:aA.cell? ⟨Q,0,none⟩=some (.int .i64 l):=aS 0 CW.out.y.v;go_cut [73]from 93 (fun x c9=>∃q:Bool,x=.bool q/\(q=false->l=dR)/\lw w a n (eh S rs ca A cc y rb aC rc) r (kz id dM dt eq eF ra R.length u 0 bL 0 0 0 none 0 none 0 bL bL none 0 0) cJ hq ra R Q (bY l bB lz lA j7 lW lB lX lY lD lZ) c9)
   case first=>
    by_cases Bq:l=dR
    ·have L3:(l !=dR)=false:=by simp[Bq]
     go_region_held3 (fun aD=>aD.cell? ⟨w.heap.size,0,none⟩=some (.string S.bo)/\aD.cell? ⟨w.heap.size,1,none⟩=some (.int .i64 S.cZ)/\aD.cell? ⟨w.heap.size,2,none⟩=some (.slice ca S.bs.length cc)/\aD.cell? ⟨w.heap.size,3,none⟩=some (.slice A S.aB.length y)/\aD.cell? ⟨w.heap.size,4,none⟩=some (.slice (some ⟨rb,aC,none⟩) rs.length rc)/\aD.cell? ⟨w.heap.size,5,none⟩=some (.int .i64 S.aj)/\aD.cell? ⟨Q,0,none⟩=some (.int .i64 l)) (first|with_reducible exact⟨v0,eJ,eO,v3,v4,v5,h4⟩|with_reducible exact⟨T,F,L,K,U,Z,ho⟩|go_keep) (first|(go_at_call 48;(with_reducible refine(R7.out _ CW.out.drew.y.y.x.b).mono ?_);rintro e ad ⟨rfl,Kx⟩;have y8:=G (CW.out.drew.U Kx);clear Kx;obtain⟨v0,eJ,eO,v3,v4,v5⟩:=fZ y8.out.y.y.x.g;have h4:ad.cell? ⟨Q,0,none⟩=some (.int .i64 l):=aS 0 y8.out.y.v));first|(go_step;go_meet;exact⟨_,rfl,fun _=>Bq,y8.out⟩)|(go_wp2;go_meet;exact⟨_,rfl,fun _=>Bq,y8.out⟩)
    ·have L3:(l !=dR)=true:=by simp[Bq]
     clear Bq;refine yJ (S:=(fun aD=>aD.cell? ⟨w.heap.size,0,none⟩=some (.string S.bo)/\aD.cell? ⟨w.heap.size,1,none⟩=some (.int .i64 S.cZ)/\aD.cell? ⟨w.heap.size,2,none⟩=some (.slice ca S.bs.length cc)/\aD.cell? ⟨w.heap.size,3,none⟩=some (.slice A S.aB.length y)/\aD.cell? ⟨w.heap.size,4,none⟩=some (.slice (some ⟨rb,aC,none⟩) rs.length rc)/\aD.cell? ⟨w.heap.size,5,none⟩=some (.int .i64 S.aj)/\aD.cell? ⟨Q,0,none⟩=some (.int .i64 l))) au ⟨T,F,L,K,U,Z,ho⟩ (fun Sh=>?_);refine B9 (i:=0) (d:=some 66) (v:=?_) rfl rfl au au au (fun _ _ _ h=>h) (Or.inl ⟨by rfl,?_⟩) (by assumption) ?_;rotate_left
     ·exact G8
     refine gH ?_;refine B9 (i:=1) (d:=some 67) (v:=?_) rfl rfl au au au (fun _ _ _ h=>h) (Or.inl ⟨by rfl,?_⟩) (by assumption) ?_;rotate_left
     ·exact G8
     refine gH ?_;refine B9 (i:=2) (d:=some 68) (v:=?_) rfl rfl au au au (fun _ _ _ h=>h) (Or.inl ⟨by rfl,?_⟩) (by assumption) ?_;rotate_left
     ·exact G8
     refine gH ?_;refine HM (rs:=[3]) au am ?_;refine yH (o:=_) rfl (fun aB cC=>?_) HJ;go_simp;go_at_call 48;(with_reducible refine(R7.out _ CW.out.drew.y.y.x.b).mono ?_);rintro e ad ⟨rfl,Kx⟩;have y8:=G (CW.out.drew.U Kx);clear Kx;obtain⟨v0,eJ,eO,v3,v4,v5⟩:=fZ y8.out.y.y.x.g;have h4:ad.cell? ⟨Q,0,none⟩=some (.int .i64 l):=aS 0 y8.out.y.v;refine cC.out _ _ ⟨v0,eJ,eO,v3,v4,v5,h4⟩ (fun CJ=>?_);clear cC aB Sh;refine gH ?_;refine B9 (i:=4) (d:=some 70) (v:=?_) rfl rfl au au au (fun _ _ _ h=>h) (Or.inl ⟨by rfl,?_⟩) (by assumption) ?_;rotate_left
     ·exact G8
     refine gH ?_;refine B9 (i:=5) (d:=some 71) (v:=?_) rfl rfl au au au (fun _ _ _ h=>h) (Or.inl ⟨by rfl,?_⟩) (by assumption) ?_;rotate_left
     ·exact G8
     refine gH ?_;refine lO 6 72 ?_;refine B9 (i:=7) (d:=some 73) (v:=?_) rfl rfl au au au (fun _ _ _ h=>h) (Or.inl ⟨by rfl,?_⟩) (by assumption) ?_;rotate_left
     ·exact G8
     refine gH ?_;refine As au ?_ _;first|(go_step;go_meet;exact⟨_,rfl,fun h=>absurd h am,y8.out⟩)|(go_wp2;go_meet;exact⟨_,rfl,fun h=>absurd h am,y8.out⟩)
   case rest=>
    clear T F L K U Z ho S2 CW;obtain⟨q,rfl,az,vd⟩:=hcut;have IY:=G vd;clear vd;go_upto_if 73 with fail
    go_cut []from 93 (fun c9=>∃k s N D m va cq j0 wc,lw w a n (eh S rs ca A cc y rb aC rc) r (kz id dM dt eq eF ra R.length u 0 bL 0 0 0 none 0 none 0 bL bL none 0 0) cJ hq ra R Q (bY k s N D m va 0 cq j0 0 wc) c9/\p8 (.mk k s N D m [] [])/\(k=1∨k=2∨k=3))
    case first=>
     cases q
     ·have Bq:=az rfl;obtain⟨ak,aJ,cI⟩:=qN.out (by rw[Bq];exact DW.out);subst ak;subst aJ
      go_wp2;go_meet;exact⟨_,_,_,_,_,_,_,_,_,IY.out,cI,by rw[Bq];exact DW.out⟩
     ·obtain⟨T,F,L,K,U,Z⟩:=fZ IY.out.y.y.x.g
      go_wp2_with (first
       |(go_at_call 48;(with_reducible refine(R7.out _ IY.out.y.y.x.b).mono ?_);rintro e bc ⟨rfl,aq⟩;have ae:=G (IY.out.U aq);clear aq)
       |(go_at_call 49;(with_reducible refine(aG.out _ (ae.out.y.y.x.num es.out mT.out) dR DW.out).mono ?_);rintro e bf ⟨⟨hM,aU,aX,fn,rfl,al⟩,_,g,j⟩;have B:=G (ae.out.next g j);have aI:=G al;clear g j al;have gL:=aS 0 B.out.y.v;have z0:=Go.aI.cB (i:=0) B.out.y.v;have g:=aS 1 B.out.y.v;have cy:=Go.aI.cB (i:=1) B.out.y.v;have gs:=aS 2 B.out.y.v;have dv:=Go.aI.cB (i:=2) B.out.y.v;have gt:=aS 3 B.out.y.v;have z3:=Go.aI.cB (i:=3) B.out.y.v;have lL:=aS 4 B.out.y.v;have z4:=Go.aI.cB (i:=4) B.out.y.v;have n5:=aS 5 B.out.y.v;have z5:=Go.aI.cB (i:=5) B.out.y.v;have sp:=aS 6 B.out.y.v;have eP:=Go.aI.cB (i:=6) B.out.y.v;have aw:=b1 B.out.y.v))
      go_meet;exact⟨_,_,_,_,_,_,_,_,_,B.out.put _ _ _ _ _ _ _,aI.out,DW.out⟩
    case rest=>clear qN az IY;obtain⟨k,s,N,D,m,va,cq,j0,sx,vd,C,aa⟩:=hcut;have mb:=G vd;have qN:=G C;have ha:=G aa;clear vd C aa;go_step;exact aDq Fl.out id a n es.out mT.out an mb.out qN.out ha.out DM qr _ _ _ _ _ _ _ _ _ _ _ _ _ _ _ _ _ _ _ _ _ _ _ _ _ _ _ _ _ _ _ _ _ _ _ _ _ _ _ _ _ _ _ _ _ _ _ _ _ _ _ _ _ _ _ _ _ _ _ _ _ _ _ _ _ _ _ _ _ _ _ _ _ _ _ _ _ _ _ _ _ _ _ _ _ _ _ _
end Go.b3
namespace Go.b3
open Go Go.Proofs.Tryz Go.Proofs Go.RowKit Go.Lib Go.aI
theorem axf:(prog.info? 47).map (fun i=>(i.zero,i.size,i.bytes))=some (some (.agg x_),16,216):=au
theorem mU.gf{B:Nat->Prop}{w w':World}{F:Array Value}{x:kt}(h:mU B w F x)(A:fw B w w'):mU B w' F x:=by
 obtain⟨d,e,k,s,N,S,n,ca,cc,ra,rc,aF,c,H,I,b,a⟩:=h;exact⟨d,e,k,s,N,S,n,ca,cc,ra,rc,aF,c,H,I,b.gf (aY.mono B 1) A,a.gf A⟩
theorem mU.low{B c:Nat->Prop}(a:∀b,B b->c b){w:World}{F:Array Value}{x:kt}(h:mU B w F x):mU c w F x:=by
 obtain⟨g,i,k,s,N,S,n,ca,cc,ra,rc,aF,f,H,I,e,d⟩:=h;exact⟨g,i,k,s,N,S,n,ca,cc,ra,rc,aF,f,H,I,e.low a (fun _ _ _ J=>J.low a),d.low a⟩
theorem mU.lt{B:Nat->Prop}{w:World}{F:Array Value}{x:kt}(h:mU B w F x):mU (fun b=>B b/\b<w.heap.size) w F x:=by
 obtain⟨e,f,k,s,N,S,n,ca,cc,ra,rc,aF,d,H,I,c,a⟩:=h;exact⟨e,f,k,s,N,S,n,ca,cc,ra,rc,aF,d,H,I,c.lt (fun _ _ J=>J.lt),a.lt⟩
theorem mU.size{B:Nat->Prop}{w:World}{F:Array Value}{x:kt}(h:mU B w F x):F.size=16:=by
 obtain⟨b,c,k,s,N,S,n,ca,cc,ra,rc,aF,a,rfl,_⟩:=h;rfl
theorem mU.push{base g n cap:Nat}{w w':World}{o:Obj}{v:Value}(al:(w.alloc o).grownBy w' v.ownBlock)(fB:v.ownBlock=some g∨g=w.heap.size+1){F:Array Value}{u:kt}(h:mU (iQ base v) w F u):mU (iQ base (.slice (some ⟨g,0,none⟩) n cap)) w' F u:=by
 exact ayq
theorem afq:∀(a:List (Array Value)) (_:∀F∈a,F.size=16) (j:Nat) (b:j<a.length) (i:Nat) (_:i<16),(a.flatMap Array.toList)[j*16+i]? =a[j][i]?
 |F::a,h,0,_,i,hi=>by
  have c:=h F am
  rw[yL,w0 (by rw[ji];omega)]
  simp
 |F::a,h,j+1,b,i,hi=>by
  have c:=h F am
  rw[yL,yM (by rw[ji];omega),ji,c]
  rw[show(j+1)*16+i-16=j*16+i by omega]
  exact afq a (fun d e=>h d (i6 _ e)) j (by simpa using b) i hi
structure ng (base:Nat) (w:World) (v:Value) (l:List kt):Prop where
 o:∃fN:List (Array Value),fN.length=l.length/\w.ownsRow base 47 16 v l.length (fN.flatMap Array.toList)/\∀j (H:j<fN.length) (I:j<l.length),mU (iQ base v) w fN[j] l[j]
theorem ng.nil(base:Nat)(w:World):ng base w (.slice none 0 0) []:=⟨[],rfl,mo _ _ _ _,fun j H=>by cases H⟩
theorem ng.hz{base:Nat}{w:World}{v:Value}{l:List kt}(h:ng base w v l):∃a c,v=.slice a l.length c:=by
 obtain⟨d,H,I,b⟩:=h.o;exact P2
theorem ng.lt{base:Nat}{w:World}{v:Value}{l:List kt}(h:ng base w v l):∀g,v.ownBlock=some g->base<=g/\g<w.heap.size:=by
 obtain⟨b,H,I,a⟩:=h.o;exact I.lt
theorem ng.gf{base:Nat}{w w':World}{v:Value}{l:List kt}(h:ng base w v l)(Q:fw (gR base) w w'):ng base w' v l:=by
 exact ajP
theorem ng.U{base:Nat}{w w':World}{v:Value}{l:List kt}(h:ng base w v l)(A:Below w.heap.size w w'):ng base w' v l:=h.gf (.g0 A)
theorem ng.st{base:Nat}{w w':World}{v:Value}{l:List kt}(h:ng base w v l){F:Array Value}{u:kt}{n:Nat}(c:w.heap.size<=n)(A:base<=n)(J:mU (gR n) w' F u):mU (iQ base v) w' F u:=
 J.low fun b a=>⟨db A a,fun e=>by have:=(h.lt b e.symm).2;have:n<=b:=a;omega⟩
theorem ng.push{base:Nat}{w w':World}{v:Value}{l:List kt}(h:ng base w v l){F:Array Value}{u:kt}(i:mU (iQ base v) w F u){o:Obj}{g cap:Nat}(d:(w.alloc o).grownBy w' v.ownBlock)(e:v.ownBlock=some g∨g=w.heap.size+1){a:List (Array Value)}(m:a.length=l.length)(f:∀j (H:j<a.length) (I:j<l.length),mU (iQ base v) w a[j] l[j]) (k:w'.ownsRow base 47 16 (.slice (some ⟨g,0,none⟩) (l.length+1) cap) (l.length+1) (a.flatMap Array.toList++F.toList)):ng base w' (.slice (some ⟨g,0,none⟩) (l.length+1) cap) (l++[u]):=by
 refine⟨a++[F],by simp[m],by simpa using k,fun j n q=>?_⟩;by_cases c:j<a.length
 ·have b:j<l.length:=z;rw[Au c,Au b];exact(f j c b).push d e
 ·have b:¬j<l.length:=z;rw[Av z,Av z];simp only[RN];exact i.push d e
def sG(B:Nat->Prop)(w:World)(a:Option Addr)(l:List kt):Prop:=l.length<=12/\(0<l.length->∃b,a=some ⟨b,0,none⟩/\B b/\(∃c,w.heap[b]? =some (.cells c 47 (0,0)))/\∀j (d:j<l.length),∃F,mU (fun x=>B x/\x≠b) w F l[j]/\∀i,i<16->w.cell? ⟨b,j*16+i,none⟩=F[i]?)
theorem sG.gf{B:Nat->Prop}{w w':World}{a:Option Addr}{l:List kt}(h:sG B w a l)(c:fw B w w'):sG B w' a l:=
 ⟨h.1,fun ab=>by
  obtain⟨b,e,d,⟨m,f⟩,k⟩:=h.2 ab
  have g:=b1 f
  refine⟨b,e,d,⟨m,(c.2 b d g).trans f⟩,fun j n=>?_⟩
  obtain⟨F,H,I⟩:=k j n
  exact⟨F,H.gf (c.wY fun _ h=>h.1),fun i hi=>(c.cell d g).trans (I i hi)⟩⟩
theorem sG.U{B:Nat->Prop}{w w':World}{a:Option Addr}{l:List kt}(h:sG B w a l)(A:Below w.heap.size w w'):sG B w' a l:=h.gf (.g0 A)
theorem sG.low{B d:Nat->Prop}(c:∀b,B b->d b){w:World}{a:Option Addr}{l:List kt}(h:sG B w a l):sG d w a l:=
 ⟨h.1,fun ab=>by
  obtain⟨b,e,H,I,g⟩:=h.2 ab
  refine⟨b,e,c _ H,I,fun j k=>?_⟩
  obtain⟨F,i,f⟩:=g j k
  exact⟨F,i.low fun _ h=>⟨c _ h.1,h.2⟩,f⟩⟩
theorem ng.axq{base:Nat}{w:World}{v:Value}{l:List kt}(h:ng base w v l)(x:l.length<=12):∃a c,v=.slice a l.length c/\sG (gR base) w a l:=by
 obtain⟨k,H,I,o⟩:=h.o;obtain⟨a,c,rfl⟩:=h.hz;refine⟨a,c,rfl,x,fun ab=>?_⟩;have t:∀F∈k,F.size=16:=fun F d=>by obtain⟨j,f,e⟩:=Cr.1 d;have J:=o j f z;rw[e]at J;exact J.size
 have u:=I;rcases I.2 with⟨y,B⟩|⟨g,cap,s,ak,q,r,C,E,G,K⟩
 ·omega
 ·injection ak with m _ _
  refine⟨g,m,q,⟨s,r⟩,fun j f=>?_⟩;have d:=o j z f;refine⟨k[j],d.low fun b A=>⟨A.1,fun e=>A.2 (by rw[m,e];rfl)⟩,fun i hi=>?_⟩;have D:=d.size;have n:=afq k t j z i hi;rw[ann z]at n⊢;have:=u.cells (g:=g) (by rw[m];rfl) (j*16+i) _ n;rw[Aq,gm]at this;exact this
end Go.b3
namespace Go.b3
open Go Go.Proofs.Tryz Go.Proofs Go.RowKit Go.Lib Go.aI
open Go.bj (e0)
abbrev xf(x:kt):Int×Int:=(x.id,x.dM)
def qy(a:List Int)(l:List kt):List Int:=((l.map xf).filter fun p=>decide (p.1∈a)).map (·.2)
theorem aAs(a:List Int)(l:List kt):(qy a l).length<=l.length:=by
 unfold qy;rw[HT];exact db (anJ _ _) am
theorem aAr(a:List Int)(l:List kt)(j:Nat)(aa:j<l.length)(h:l[j].id∈a):qy a (l.take (j+1))=qy a (l.take j)++[l[j].dM]:=by
 exact ajL
theorem aAt(a:List Int)(l:List kt)(j:Nat)(aa:j<l.length)(h:l[j].id∉a):qy a (l.take (j+1))=qy a (l.take j):=by
 exact ajL
theorem PK{base:Nat}{w:World}{v:Value}{l:List Int}(b:l.length<=maxLen)(h:w.ownsRow base 3 1 v l.length (e0 l)):∃a c,v=.slice a l.length c/\tD w a l:=by
 have e:=h;rcases h.2 with⟨rfl,ab⟩|⟨g,cap,f,rfl,A,H,_⟩
 ·rw[ab];exact⟨_,_,rfl,b,fun h=>z⟩
 ·refine⟨_,_,rfl,b,fun _=>⟨g,0,rfl,b1 H,fun j d=>?_⟩⟩;have:=e.cells (g:=g) rfl j (.int .i64 l[j]) (by simp[e0,d]);rw[Aq]at this;exact this
theorem adO{base:Nat}{w a c:World}{v:Value}{n:Nat}{aK:List Value}(h:Below base w a)(d:a.grownBy c v.ownBlock)(f:base<=a.heap.size)(e:a.ownsRow base 3 1 v n aK):Below base w c:=
 h.grown d z (fun b A=>(e.lt b A).1)
theorem adH(w:World)(a:Option Addr)(c:Nat)(l:List kt)(h:sG be w a l)(Z:Option Addr)(iH:Nat)(d:List Int)(hi:tD w Z d): Calls prog 7 #[.slice a l.length c,.slice Z d.length iH] w fun e w'=>(∃dI gq R,e=.returned (.slice dI (R:List Int).length gq)/\l9 d (l.map xf) R/\R.length<=12/\tD w' dI R)/\Below w.heap.size w w':=by
 have ik:=G fun W (V:Below w.heap.size w W)=>(h.U V).2;have ae:=G fun W (V:Below w.heap.size w W)=>hi.U V;have wo:=h.1;obtain⟨mJ,mC,i',iF,iX⟩:=jt Sd;clear h hi;go_enter func7,ntmps7
 go_wp2;go_loopw [5,10] (fun v i wr=>∃(j:Nat),j<=l.length/\i=.int .i64 j/\wr.ownsRow w.heap.size 3 1 v (qy d (l.take j)).length (e0 (qy d (l.take j)))/\Below w.heap.size w wr) (fun _ i _=>l.length-(RowKit.intOf i).toNat);case atStart=>exact⟨0,dq _,rfl,mo _ _ _ _,bi _ _⟩
 case round=>
  obtain⟨j,aa,rfl,m,A⟩:=hrel;have af:(qy d (l.take j)).length<=12:=db (aAs _ _) (by rw[n_];omega);obtain⟨va,Y,rfl,_⟩:=PK (by unfold maxLen;omega) m;by_cases aq:j<l.length
  ·have li:(j:Int)<l.length:=z;have ex:(0:Int)<=(j:Int):=z;obtain⟨cF,rfl,_,kL,ad⟩:=ik.out wr A z;obtain⟨F,P,ab⟩:=ad j aq;have cP:∃x,x=l[j]/\mU (fun x=>be x/\x≠cF) wr F x:=⟨_,rfl,P⟩;clear P ad kL;obtain⟨x,T,P⟩:=cP;obtain⟨r,s,ce,B,C,Q,D,J,M,K,L,N,O,rfl,_,_,_⟩:=P;have U:Hid (x.id∉d->qy d (l.take (j+1))=qy d (l.take j)):=G fun q=>aAt d l j aq (T▸q);have S:Hid (x.id∈d->qy d (l.take (j+1))=qy d (l.take j)++[x.dM]):=G fun q=>by rw[T]at q⊢;exact aAr d l j aq q
   clear T;obtain⟨ex,g4,gx,i3,mI,ul,si,sj,zP,zQ,zN,zO,BE,s9,wK,x9⟩:=awV ab;have hJ:=G (da wr (.cells (kz x.id x.dM x.lM x.i5 x.eF r x.BH.length s ce B C Q D J M K L x.iI x.h2 N x.prog.length O) 47));have hv:=fH wr (.cells (kz x.id x.dM x.lM x.i5 x.eF r x.BH.length s ce B C Q D J M K L x.iI x.h2 N x.prog.length O) 47);have k:=G (b_ A hv);have n:=G (m.alloc (.cells (kz x.id x.dM x.lM x.i5 x.eF r x.BH.length s ce B C Q D J M K L x.iI x.h2 N x.prog.length O) 47));have E:=G (ar0 _ Z iH d x.id (ae.out _ k.out));have m4:=A.size;clear ab m A hv;go_upto_region 5 with fail
   clear ex g4 gx i3 mI ul si sj zP zQ zN zO BE s9 wK x9;generalize (wr.alloc (.cells (kz x.id x.dM x.lM x.i5 x.eF r x.BH.length s ce B C Q D J M K L x.iI x.h2 N x.prog.length O) 47))=X at*;obtain⟨v0,eJ⟩:=jK hJ.out;have ah:=k.out.size;by_cases o:x.id∈d
   ·have hd:decide (x.id∈d)=true:=by simpa using o
    rw[hd]at E;have lS:=G (S.out o);have aj:wr.heap.size<X.heap.size:=b1 hJ.out;clear U S hd o
    go_wp2_with (first
     |(at_builtin;refine lP _ rfl _ _ 22 rfl w.heap.size 3 mJ _ 1 8 underlying22 mC i' iF iX rfl ai (.slice va (qy d (l.take j)).length Y) (qy d (l.take j)).length _ rfl (n.out.alloc _) ⟨X.heap.size,0,none⟩ 1 1 [.int .i64 x.dM] rfl rfl (sy (cs:=#[.int .i64 x.dM]) (t:=3) (fr:=(0,0)) (p1 X _)) (by simp[Value.oneCell']) (by unfold maxLen;omega) z bu ?_;intro tl w7 kQ nW GD;have CS:=G kQ;have uC:=G ((k.out.alloc z _).grown nW bu (fun b A=>(n.out.lt b A).1));clear kQ nW GD)
     |(go_at_call 21;refine E.out.mono ?_;rintro e di ⟨rfl,g⟩;have g:=g.symm;subst g))
    go_roundw;case rel=>refine⟨j+1,z,bM,?_,uC.out⟩;rw[lS.out];simpa[e0]using CS.out
    case measure=>simp[RowKit.intOf];omega
   ·have hd:decide (x.id∈d)=false:=by simpa using o
    rw[hd]at E;have lS:=G (U.out o);clear U S hd o
    go_wp2_with (go_at_call 21;refine E.out.mono ?_;rintro e di ⟨rfl,g⟩;have g:=g.symm;subst g);go_roundw;case rel=>refine⟨j+1,z,bM,?_,k.out⟩;rw[lS.out];exact n.out
    case measure=>simp[RowKit.intOf];omega
  ·obtain rfl:j=l.length:=z;have li:¬(l.length:Int)<l.length:=z;rw[vG]at m af;rw[vG];generalize cx:qy d l=f at*;have ij:=G cx;clear cx;have n:=G m;have k:=G A;have m4:=A.size;clear m A
   go_wp2_with (first
    |(have _:=u;go_at_call 23;rw[←u];refine(arV _ w.heap.size va Y (EI f) (by rw[u];exact vP.out) z).mono ?_;rintro e gD ⟨rfl,o_,o9⟩;have CT:=G o_;have CL:=G (adO sE.out (by rw[u]at o9;exact o9) sE.out.size vP.out);clear o_ o9)
    |(go_at_call 22;refine(aCI _ w.heap.size va Y f n.out z).mono ?_;rintro e di ⟨rfl,mG,ki⟩;have vP:=G mG;have sE:=G (adO k.out ki m4 n.out);have u:(EI f).length=f.length:=anK f;clear mG ki))
   go_ret;have ag:=aeh (EI f);obtain⟨ra,rc,e,dV⟩:=PK (by unfold maxLen;omega) CT.out;cases e;refine⟨⟨_,_,_,rfl,l9.EI ij.out.symm (List.mergeSort_perm _ _) ?_,z,dV⟩,CL.out⟩;exact(List.pairwise_mergeSort (le:=fun x y:Int=>decide (x<=y)) (fun a b c H I=>by simp at*;omega) (fun a b=>bu) f).imp am
end Go.b3
namespace Go.b3
open Go Go.Proofs Go.RowKit Go.Lib Go.aI Go.bj
def v'(w:World)(size:Nat)(ca:Option Addr)(m:Nat)(e7:List Value):Prop:=
 (m=0/\e7=[])∨(0<m/\∃ad,ca=some ad/\e7.length=m*size/\(∀j u,e7[j]? =some u->w.cell? (ad.add j)=some u)/\∀u∈e7,u.oneCell'=true)
section
variable {P:Program} {w:World}
theorem am8{o:Oper}{a:Act}{r:Act->World->Prop}{ea:Exit->Act->World->Prop}(s x:Operand)(t:TypeId) (y:o.op=.call {callee:=.builtin .append,args:=#[s,x],argTypes:=#[t,t]}) (base:Nat)(e:TypeId)(i:TypeInfo)(ae:Value)(size bytes:Nat)(ah:P.underlying t=some (.slice e))(hi:P.info? e=some i)(E:i.zero=some ae) (O:i.size=size)(M:i.bytes=bytes)(J:ae.cells.size=size)(I:0<size) (b n d:Nat)(aK:List Value)(l:a.eval s=.slice (some ⟨b,0,none⟩) n d)(k:w.ownsRow base e size (.slice (some ⟨b,0,none⟩) n d) n aK) (ca:Option Addr)(m c:Nat)(e7:List Value)(q:a.eval x=.slice ca m c)(ag:v' w size ca m e7) (Q:n+m<=maxLen)(N:(n+m)*bytes<=140737488355328)(K:base<=w.heap.size) (h:∀g cap w',w'.ownsRow base e size (.slice (some ⟨g,0,none⟩) (n+m) cap) (n+m) (aK++e7)->w.grownBy w' (some b)->(b=g∨g=w.heap.size)->r (a.put o.dst (.slice (some ⟨g,0,none⟩) (n+m) cap)) w'):o.wp P a w r ea:=by
 rcases ag with⟨rfl,rfl⟩|⟨C,ad,rfl,z,D,H⟩
 ·have L:n<=d:=by
   rcases k.2 with⟨B,_⟩|⟨S,T,R,ak,_,_,G,_⟩
   ·cases B
   ·cases ak;exact G
  have F:Src P i.size t (.slice ca 0 c) 0 [] w:=by
   cases ca with
   |none=>exact Src.ofNil w ah c
   |some ad=>exact Src.ofSlice w ah ad 0 c [] am (fun j u hu=>by simp at hu) (fun u hu=>by cases hu)
  have A:=run_append_room_src (P:=P) w t t o.type e i ah hi b 0 n d (.slice ca 0 c) 0 [] F L (fun j f=>by cases f) (fun j f=>by cases f);unfold Oper.wp execOp;simp only[y,resolve,invoke,builtin,d',eQ,dX,MU,oa,Cq,l,q,A];exact h b d w (by simpa using k) ⟨rfl,rfl,rfl,aZ _,fun _ _ _=>rfl⟩ (.inl rfl)
 ·refine wp_append_lies w s x t y base e i ae size bytes ah hi E O M J I _ n aK l k ad m c e7 q z D H C Q N K _ rfl fun g cap w' ce eb eV _=>h g cap w' ce eb ?_;rcases eV with eV|eV
  ·exact .inl (gn eV)
  ·exact .inr eV
theorem YY{ops:Array Oper}{o:Oper}{a:Act}{f:Act->World->Prop}{ea:Exit->Act->World->Prop}{E:Prop}(z:o.guard=none)(s x:Operand)(t:TypeId) (p:o.op=.call {callee:=.builtin .append,args:=#[s,x],argTypes:=#[t,t]}) (base:Nat)(e:TypeId)(i:TypeInfo)(ae:Value)(size bytes:Nat)(ah:P.underlying t=some (.slice e))(hi:P.info? e=some i)(l:i.zero=some ae) (C:i.size=size)(A:i.bytes=bytes)(u:ae.cells.size=size)(r:0<size) (b n d:Nat)(aK:List Value)(j:a.eval s=.slice (some ⟨b,0,none⟩) n d)(q:w.ownsRow base e size (.slice (some ⟨b,0,none⟩) n d) n aK) (ca:Option Addr)(m c:Nat)(e7:List Value)(k:a.eval x=.slice ca m c)(ag:v' w size ca m e7) (D:n+m<=maxLen)(B:(n+m)*bytes<=140737488355328)(y:base<=w.heap.size) (h:∀g cap w',w'.ownsRow base e size (.slice (some ⟨g,0,none⟩) (n+m) cap) (n+m) (aK++e7)->w.grownBy w' (some b)->(b=g∨g=w.heap.size)->f (a.put o.dst (.slice (some ⟨g,0,none⟩) (n+m) cap)) w'): if Region.wanted o (yielded ops a.tmps)=true then Oper.wp P o a w f ea else E:=by
 rw[cv (by simp[Region.wanted,z])];exact am8 s x t p base e i ae size bytes ah hi l C A u r b n d aK j q ca m c e7 k ag D B y h
theorem HF{ops:Array Oper}{rest:List Oper}{o:Oper}{a:Act}{ea:Exit->Act->World->Prop}(z:o.guard=none)(s x:Operand)(t:TypeId)
  (l:o.op=.call {callee:=.builtin .append,args:=#[s,x],argTypes:=#[t,t]})
  (base:Nat)(e:TypeId)(i:TypeInfo)(ae:Value)(size bytes:Nat)(ah:P.underlying t=some (.slice e))(hi:P.info? e=some i)(k:i.zero=some ae)
  (C:i.size=size)(A:i.bytes=bytes)(u:ae.cells.size=size)(r:0<size)
  (b n d:Nat)(aK:List Value)(f:a.eval s=.slice (some ⟨b,0,none⟩) n d)(q:w.ownsRow base e size (.slice (some ⟨b,0,none⟩) n d) n aK)
  (ca:Option Addr)(m c:Nat)(e7:List Value)(j:a.eval x=.slice ca m c)(ag:v' w size ca m e7)
  (D:n+m<=maxLen)(B:(n+m)*bytes<=140737488355328)(y:base<=w.heap.size)
  (h:∀g cap w',w'.ownsRow base e size (.slice (some ⟨g,0,none⟩) (n+m) cap) (n+m) (aK++e7)->w.grownBy w' (some b)->(b=g∨g=w.heap.size)->wpList P ops ea rest (a.put o.dst (.slice (some ⟨g,0,none⟩) (n+m) cap)) w'):wpList P ops ea (o::rest) a w:=
 RI z fun _ p=>am8 s x t l base e i ae size bytes ah hi k C A u r b n d aK f q ca m c e7 j ag D B y fun g cap w' ce eb eV=>p _ _ (h g cap w' ce eb eV)
end
theorem v'.nD{W:World}{base:Nat}{e:TypeId}{size g m cap:Nat}{aK:List Value}(h:W.ownsRow base e size (.slice (some ⟨g,0,none⟩) m cap) m aK)(a:0<m)(H:∀u∈aK,u.oneCell'=true):v' W size (some ⟨g,0,none⟩) m aK:=
 .inr ⟨a,_,rfl,h.1,fun j u hu=>h.cells (g:=g) rfl j u hu,H⟩
theorem X8{W:World}{base g cap:Nat}{R:List Int}(h:W.ownsRow base 3 1 (.slice (some ⟨g,0,none⟩) R.length cap) R.length (e0 R))(p q:Nat)(b:p<=q)(c:q<=R.length): v' W 1 (some ⟨g,p,none⟩) (q-p) (e0 ((R.drop p).take (q-p))):=by
 by_cases e:q-p=0
 ·left;rw[e];exact⟨rfl,rfl⟩
 ·right;refine⟨z,_,rfl,by simp[e0];omega,fun j u hu=>?_,fun u hu=>?_⟩
  ·have a:j<q-p:=by have:=(j2.1 hu).1;simp[e0]at this;omega
   have H:(e0 R)[p+j]? =some u:=by rw[←hu];simp only[e0,pn,List.getElem?_take_of_lt a,HR]
   have:=h.cells (g:=g) rfl (p+j) u H;rw[Aq]at this⊢;rw[←this];congr 2;omega
  ·unfold e0 at hu;obtain⟨x,_,rfl⟩:=yQ.1 hu;rfl
end Go.b3
namespace Go.b3
open Go Go.Proofs.Tryz Go.Proofs Go.RowKit Go.Lib Go.aI
open Go.bj (e0)
theorem aBe(w:World)(a:Option Addr)(c:Nat)(l:List kt)(h:sG be w a l)(hQ:Option Addr)(iH:Nat)(d:List Int)(hi:tD w hQ d): Calls prog 9 #[.slice a l.length c,.slice hQ d.length iH] w fun e w'=>(∃dI gq R,e=.returned (.slice dI (R:List Int).length gq)/\l9 d (l.map xf) R/\R.length<=12/\tD w' dI R)/\Below w.heap.size w w':=by
 have ik:Hid (0<l.length->∃B,a=some ⟨B,0,none⟩/\B<w.heap.size/\∀j (K:j<l.length),w.cell? ⟨B,j*16,none⟩=some (.int .i64 l[j].id)/\w.cell? ⟨B,j*16+1,none⟩=some (.int .i64 l[j].dM)):=G fun ab=>(by
  obtain⟨B,e,_,⟨cj,al⟩,au⟩:=h.2 ab
  refine⟨B,e,b1 al,fun j K=>?_⟩
  obtain⟨F,H,I⟩:=au j K
  obtain⟨Le,Lf,ce,cg,ci,vL,cz,k',la,kB,kC,pf,pg,rfl,_,_,_⟩:=H
  exact⟨I 0 ai,I 1 ai⟩)
 have p_:=G hi.2;have yX:Hid ((d.length:Int)<=9223372036854775807):=G (by have:=hi.1;unfold maxLen at this;omega);have wo:=h.1;obtain⟨T,S,O,P,Q⟩:=jt Sd;clear h hi;go_enter func9,ntmps9
 go_wp2;go_loopw [5,6] (fun v i wr=>∃(k:Nat) (R:List Int),k<=l.length/\i=.int .i64 k/\wr.ownsRow w.heap.size 3 1 v R.length (e0 R)/\(R.length=0->v=.slice none 0 0)/\l9 d ((l.take k).map xf) R/\R.length<=k/\Below w.heap.size w wr) (fun _ i _=>l.length-(RowKit.intOf i).toNat);case atStart=>exact⟨0,[],dq _,rfl,mo _ _ _ _,fun _=>rfl,l9.nil d,aZ _,bi _ _⟩
 case round=>
  generalize wr=ap at*;obtain⟨k,R,aD,rfl,t,BA,ck,aE,A⟩:=hrel;obtain⟨va,cq,rfl,_⟩:=PK (by unfold maxLen;omega) t;by_cases aq:k<l.length
  ·have li:(k:Int)<l.length:=z;have ex:(0:Int)<=(k:Int):=z;obtain⟨B,rfl,kx,hN⟩:=ik.out z;have cP:∃x,x=l[k]/\w.cell? ⟨B,k*16,none⟩=some (.int .i64 x.id)/\w.cell? ⟨B,k*16+1,none⟩=some (.int .i64 x.dM):=⟨_,rfl,hN k aq⟩;clear hN;obtain⟨x,GT,PE,lJ⟩:=cP;have ez:Hid ((l.take (k+1)).map xf=(l.take k).map xf++[xf x]):=G (by rw[tu aq,w1,GT];rfl);have hn:Hid (∀W,Below w.heap.size w W->W.cell? ⟨B,k*16,none⟩=some (.int .i64 x.id)/\W.cell? ⟨B,k*16+1,none⟩=some (.int .i64 x.dM)):=G fun W ar=>⟨aA ar kx PE,aA ar kx lJ⟩;have k2:=G ck;have fX:=G t;have cS:=G A;have ag:=G BA;clear GT PE lJ ck t A BA
   go_wp2;go_loopw [7,8] (fun b i c9=>∃m:Nat,m<=d.length/\i=.int .i64 m/\b=.bool (decide (x.id∈d.take m))/\c9.ownsRow w.heap.size 3 1 (.slice va R.length cq) R.length (e0 R)/\Below w.heap.size w c9) (fun _ i _=>d.length-(RowKit.intOf i).toNat);case atStart=>exact⟨0,dq _,rfl,am,fX.out,cS.out⟩
   case round=>
    clear fX cS;obtain⟨m,an,rfl,gS,t,A⟩:=hrel;have fX:=G t;have cS:=G A;have br:=(hn.out _ A).1;clear t;by_cases r':m<d.length
    ·obtain⟨aG,aJ,rfl,aB,ah⟩:=p_.out z;have hX:=aA A aB (ah m r');have hR:(0:Int)<=(m:Int):=z;have gh:(m:Int)<d.length:=z;have IC:Hid (wrap64 ((m:Int)+1)=((m+1:Nat):Int)):=G (by have:=yX.out;unfold wrap64;omega);have SK:Hid (d.take (m+1)=d.take m++[d[m]]):=G (tu r');clear ah A;generalize d[m]=y at*;by_cases az:x.id∈d.take m
     ·have hd:decide (x.id∈d.take m)=true:=by simpa using az
      rw[hd]at gS;subst gS;have g':Hid (decide (x.id∈d.take (m+1))=true):=G (by rw[SK.out];simp[az]);clear az hd;exact XG
     ·have hd:decide (x.id∈d.take m)=false:=by simpa using az
      rw[hd]at gS;subst gS;by_cases aR:y=x.id
      ·have zL:(y==x.id)=true:=by simpa using aR
       have g':Hid (decide (x.id∈d.take (m+1))=true):=G (by rw[SK.out];simp[aR]);clear az hd aR;exact XG
      ·have zL:(y==x.id)=false:=by simpa using aR
       have g':Hid (decide (x.id∈d.take (m+1))=false):=G (by rw[SK.out];simp[az];exact fun e=>aR e.symm);clear az hd aR;exact XG
    ·obtain rfl:m=d.length:=z;have gh:¬(d.length:Int)<d.length:=z;rw[vG]at gS;clear br;generalize wr=Y at*;have ad:Hid (∃q:Bool,q=decide (x.id∈d)):=G ⟨_,rfl⟩;obtain⟨q,Wq⟩:=ad.out;rw[←Wq]at gS;have nh:=G Wq;clear Wq ad;subst gS
     go_wp2;go_loopw [9] (fun i c9=>∃n:Nat,n<=R.length/\i=.int .i64 n/\(∀j (K:j<R.length),j<n->R[j]<x.dM)/\c9.ownsRow w.heap.size 3 1 (.slice va R.length cq) R.length (e0 R)/\Below w.heap.size w c9) (fun i _=>R.length-(RowKit.intOf i).toNat);case atStart=>exact⟨0,dq _,rfl,fun _ _ h=>absurd h (E4 _),fX.out,cS.out⟩
     case round=>
      clear fX cS;obtain⟨n,aw,rfl,dd,t,A⟩:=hrel;have es:=G dd;have fX:=G t;have cS:=G A;have c1:=(hn.out _ A).2;clear dd;by_cases x1:n<R.length
      ·have gL:(0:Int)<=(n:Int):=z;have cz:(n:Int)<R.length:=z;rcases t.2 with⟨_,ab⟩|⟨g,cap,cj,e,KJ,pK,vi,_⟩
       ·omega
       injection e with ak _ bv
       subst ak;subst bv;have et:wr.cell? ⟨g,n,none⟩=some (.int .i64 R[n]):=by
        have:=t.cells (g:=g) rfl n (.int .i64 R[n]) (by simp[e0,x1])
        rwa [Aq,gm]at this
       have IH:Hid (∃aK:n<R.length,R[n]=R[n]):=G ⟨x1,rfl⟩;have OR:∃y,y=R[n]/\wr.cell? ⟨g,n,none⟩=some (.int .i64 y):=⟨_,rfl,et⟩;clear et IH A pK t;obtain⟨y,zL,et⟩:=OR;have IH:=G zL;clear zL;go_upto_region 11 with fail
       by_cases ay:y<x.dM
       ·go_quiet (fail)
        go_wp2;exact⟨⟨n+1,z,bM,fun j K h=>(by
         rcases M0.1 h with h|h
         ·exact es.out j K h
         ·subst h;rw[←IH.out];exact ay),n2 fX.out (.g0 (oR (bi _ _) _)),cS.out.trans ((oR (bi _ _) _).mono cS.out.size)⟩,by simp[RowKit.intOf];omega⟩
       ·go_quiet (fail)
        go_wp2;have o:=G (oR (bi wr.heap.size wr) nq);have J:=G (n2 fX.out (.g0 o.out));have E:=G (b_ cS.out o.out);have A6:(wr.drewN nq).cell? ⟨g,n,none⟩=some (.int .i64 y):=et;have sQ:(wr.drewN nq).cell? ⟨B,k*16+1,none⟩=some (.int .i64 x.dM):=c1;clear fX cS o et c1;generalize wr.drewN nq=Y at*;have fX:=J;have cS:=E;have et:=A6;have c1:=sQ;clear J E A6 sQ;cases q
        ·have gW:Hid (x.id∉d):=G (by simpa using nh.out.symm);go_quiet (fail)
         go_wp2;exact⟨⟨k+1,R,z,bM,n2 fX.out (.g0 (oR (bi _ _) _)),fun ab=>z,(by rw[ez.out];exact k2.out.skip gW.out),z,cS.out.trans ((oR (bi _ _) _).mono cS.out.size)⟩,by simp[RowKit.intOf];omega⟩
        ·have Nu:Hid ((xf x).1∈d):=G (by simpa using nh.out.symm);have gt:((n:Int)==(R.length:Int))=false:=bu;by_cases PG:y=x.dM
         ·have aC:(y !=x.dM)=false:=by simpa using PG
          have k3:Hid ((xf x).2∈R):=G (by show x.dM∈R;rw[←PG,IH.out];exact fM _);clear PG;go_quiet (fail)
          go_wp2;exact⟨⟨k+1,R,z,bM,n2 fX.out (.g0 (oR (bi _ _) _)),fun ab=>z,(by rw[ez.out];exact k2.out.HA k3.out),z,cS.out.trans ((oR (bi _ _) _).mono cS.out.size)⟩,by simp[RowKit.intOf];omega⟩
         ·have aC:(y !=x.dM)=true:=by simpa using PG
          go_quiet (fail);have o:=G (oR (bi Y.heap.size Y) nq);have J:=G (n2 fX.out (.g0 o.out));have E:=G (b_ cS.out o.out);clear fX cS o;generalize Y.drewN nq=f at*;have fX:=J;have cS:=E;clear J E;have c1:=(hn.out f cS.out).2;have DN:=cS.out.size;have VQ:¬cq=n:=z;go_upto_region 14 with fail
          have IA:=G (HK (base:=w.heap.size) (e:=3) (size:=1) f #[.int .i64 x.dM] 1 z ai rfl);have M:Below f.heap.size f (f.alloc (.cells #[.int .i64 x.dM] 3)).drew:=((bi _ _).alloc (aZ _) _).drew;have U:=G (cS.out.trans (M.mono DN));have VZ:g<f.heap.size:=(fX.out.lt g rfl).2;have NA:=G (n2 fX.out (.g0 M));have af:=G (X8 NA.out n R.length z (aZ _));rw[tt (show(R.drop n).length<=R.length-n by rw[pp];exact aZ _)]at af;clear M
          go_region_law (first
           |(refine YY (by rfl) _ _ 22 (by rfl) w.heap.size 3 T _ 1 8 underlying22 S O P Q rfl ai f.heap.size 1 1 [.int .i64 x.dM] (by rfl) IA.out.drew (some ⟨g,n,none⟩) (R.length-n) (cq-n) _ (by rfl) af.out (by unfold maxLen;omega) z bu ?_;intro r rX w7 s L DL))
          all_goals(
           have KM:r<w7.heap.size:=(s.lt r rfl).2
           have uC:=G (U.out.grown L bu (fun b A=>by cases A;exact DN))
           have CS:=G s
           have X:=uC.out.size
           have N:Below w7.heap.size w7 (w7.alloc (.cells #[] 3)):=(bi _ _).alloc (aZ _) _
           have IB:=G (HK (base:=w.heap.size) (e:=3) (size:=1) w7 #[] 0 z ai rfl)
           have ax:r≠g:=fun e=>by rcases DL with q|q<;>(try simp at q)<;>omega
           have xd:Hid (v' (w7.alloc (.cells #[] 3)) 1 (some ⟨g,0,none⟩) n (e0 (R.take n))):=G (by have:=X8 (n2 (NA.out.kept L (.inr fun e=>p3 VZ (gn e))) (.g0 N)) 0 n (dq _) z;simpa using this)
           have Im:=G (uC.out.trans (N.mono X))
           have ID:=G (CS.out.alloc (.cells #[] 3))
           have Iu:Hid (∀u∈[Value.int .i64 x.dM]++e0 (R.drop n),u.oneCell'=true):=G fun u hu=>(by
            rcases nJ.1 hu with hu|hu
            ·cases hu with|head=>rfl|tail _ h=>cases h
            ·unfold e0 at hu;obtain⟨ae,_,rfl⟩:=yQ.1 hu;rfl)
           clear s L DL U N
           go_wp2_with (first
            |(at_builtin;refine HF rfl _ _ 22 rfl w.heap.size 3 T _ 1 8 underlying22 S O P Q rfl ai V n Jy _ rfl vP.out (some ⟨r,0,none⟩) (1+(R.length-n)) rX _ rfl Iv.out (by unfold maxLen;omega) z z ?_;intro zq zi gD o_ Z Kw;have CT:=G o_;have CL:=G (sE.out.grown Z z (fun b A=>by cases A;exact(vP.out.lt V rfl).1));clear o_ Z Kw)
            |(at_builtin;refine HF rfl _ _ 22 rfl w.heap.size 3 T _ 1 8 underlying22 S O P Q rfl ai w7.heap.size 0 0 [] rfl IB.out (some ⟨g,0,none⟩) n cq _ rfl xd.out (by unfold maxLen;omega) z bu ?_;intro V Jy di D C Bl;simp only[gm,vF]at D;have vP:=G D;have sE:=G (Im.out.grown C bu (fun b A=>by cases A;exact X));have Iv:=G (v'.nD (ID.out.kept C (.inr (fun e=>(p3 KM) (gn e)))) z Iu.out);have aj:=sE.out.size;clear D C Bl))
           refine⟨⟨k+1,R.take n++x.dM::R.drop n,z,bM,?_,fun ab=>absurd ab am,?_,(by first|(simp;done)|(simp;omega)),CL.out⟩,by simp[RowKit.intOf];omega⟩
           ·have:=CT.out
            rw[show(R.take n++x.dM::R.drop n).length=n+(1+(R.length-n)) by simp;omega]
            simpa[e0]using this
           ·rw[ez.out]
            exact k2.out.WW Nu.out n z es.out (fun K=>by have:=IH.out;show x.dM<R[n];omega))
      ·obtain rfl:n=R.length:=z;have cz:¬(R.length:Int)<R.length:=z;have gt:((R.length:Int)==(R.length:Int))=true:=am;clear A;go_upto_region 11 with fail
       go_quiet (fail)
       go_wp2;have o:=G (oR (bi wr.heap.size wr) nq);have J:=G (n2 fX.out (.g0 o.out));have E:=G (b_ cS.out o.out);clear fX cS o c1;generalize wr.drewN nq=Y at*;have fX:=J;have cS:=E;clear J E;have c1:=(hn.out _ cS.out).2;cases q
       ·have gW:Hid (x.id∉d):=G (by simpa using nh.out.symm);go_quiet (fail)
        go_wp2;exact⟨⟨k+1,R,z,bM,n2 fX.out (.g0 (oR (bi _ _) _)),ag.out,(by rw[ez.out];exact k2.out.skip gW.out),z,cS.out.trans ((oR (bi _ _) _).mono cS.out.size)⟩,by simp[RowKit.intOf];omega⟩
       ·have Nu:Hid ((xf x).1∈d):=G (by simpa using nh.out.symm);go_quiet (fail);have o:=G (oR (bi Y.heap.size Y) nq);have J:=G (n2 fX.out (.g0 o.out));have E:=G (b_ cS.out o.out);clear fX cS o;generalize Y.drewN nq=f at*;have fX:=J;have cS:=E;clear J E;have c1:=(hn.out f cS.out).2;have DN:=cS.out.size;by_cases DF:R.length=0
        ·obtain rfl:=HS.1 DF;cases ag.out rfl;go_upto_region 14 with fail
         have IA:=G (HK (base:=w.heap.size) (e:=3) (size:=1) f #[.int .i64 x.dM] 1 z ai rfl);have M:Below f.heap.size f (f.alloc (.cells #[.int .i64 x.dM] 3)).drew:=((bi _ _).alloc (aZ _) _).drew;have U:=G (cS.out.trans (M.mono DN));have aF:=es;clear M
         go_region_law (first
          |(refine YY (by rfl) _ _ 22 (by rfl) w.heap.size 3 T _ 1 8 underlying22 S O P Q rfl ai f.heap.size 1 1 [.int .i64 x.dM] (by rfl) IA.out.drew _ 0 _ [] (by rfl) (.inl ⟨rfl,rfl⟩) (by unfold maxLen;omega) z bu ?_;intro r rX w7 s L DL;simp only[hG,qK]at s))
         all_goals(
          have KM:r<w7.heap.size:=(s.lt r rfl).2
          have uC:=G (U.out.grown L bu (fun b A=>by cases A;exact DN))
          have CS:=G s
          have X:=uC.out.size
          have N:Below w7.heap.size w7 (w7.alloc (.cells #[] 3)):=(bi _ _).alloc (aZ _) _
          have IB:=G (HK (base:=w.heap.size) (e:=3) (size:=1) w7 #[] 0 z ai rfl)
          skip
          have Im:=G (uC.out.trans (N.mono X))
          have ID:=G (CS.out.alloc (.cells #[] 3))
          have Iu:Hid (∀u∈[Value.int .i64 x.dM],u.oneCell'=true):=G fun u hu=>(by cases hu with|head=>rfl|tail _ h=>cases h)
          clear s L DL U N
          go_wp2_with (first
           |(at_builtin;refine HF rfl _ _ 22 rfl w.heap.size 3 T _ 1 8 underlying22 S O P Q rfl ai V 0 Jy _ rfl vP.out (some ⟨r,0,none⟩) 1 rX _ rfl Iv.out (by unfold maxLen;omega) z z ?_;intro zq zi gD o_ Z Kw;have CT:=G o_;have CL:=G (sE.out.grown Z z (fun b A=>by cases A;exact(vP.out.lt V rfl).1));clear o_ Z Kw)
           |(at_builtin;refine HF rfl _ _ 22 rfl w.heap.size 3 T _ 1 8 underlying22 S O P Q rfl ai w7.heap.size 0 0 [] rfl IB.out _ 0 _ [] rfl (.inl ⟨rfl,rfl⟩) (by unfold maxLen;omega) z bu ?_;intro V Jy di D C Bl;simp only[gm,vF]at D;have vP:=G D;have sE:=G (Im.out.grown C bu (fun b A=>by cases A;exact X));have Iv:=G (v'.nD (ID.out.kept C (.inr (fun e=>(p3 KM) (gn e)))) z Iu.out);have aj:=sE.out.size;clear D C Bl))
          refine⟨⟨k+1,[x.dM],z,bM,?_,fun ab=>absurd ab am,?_,(by first|(simp;done)|(simp;omega)),CL.out⟩,by simp[RowKit.intOf];omega⟩
          ·have:=CT.out
           simpa[e0]using this
          ·rw[ez.out]
           exact k2.out.WW (R:=[]) Nu.out 0 z es.out (fun K=>absurd K (E4 _)))
        ·rcases fX.out.2 with⟨_,ab⟩|⟨g,cap,cj,e,KJ,pK,vi,_⟩
         ·omega
         injection e with ak _ bv
         subst ak;subst bv;have Pc:=b1 pK;clear pK;go_upto_region 14 with fail
         have IA:=G (HK (base:=w.heap.size) (e:=3) (size:=1) f #[.int .i64 x.dM] 1 z ai rfl);have M:Below f.heap.size f (f.alloc (.cells #[.int .i64 x.dM] 3)).drew:=((bi _ _).alloc (aZ _) _).drew;have U:=G (cS.out.trans (M.mono DN));have VZ:g<f.heap.size:=(fX.out.lt g rfl).2;have NA:=G (n2 fX.out (.g0 M));clear M
         go_region_law (first
          |(refine YY (by rfl) _ _ 22 (by rfl) w.heap.size 3 T _ 1 8 underlying22 S O P Q rfl ai f.heap.size 1 1 [.int .i64 x.dM] (by rfl) IA.out.drew _ 0 _ [] (by rfl) (.inl ⟨rfl,rfl⟩) (by unfold maxLen;omega) z bu ?_;intro r rX w7 s L DL;simp only[hG,qK]at s))
         all_goals(
          have KM:r<w7.heap.size:=(s.lt r rfl).2
          have uC:=G (U.out.grown L bu (fun b A=>by cases A;exact DN))
          have CS:=G s
          have X:=uC.out.size
          have N:Below w7.heap.size w7 (w7.alloc (.cells #[] 3)):=(bi _ _).alloc (aZ _) _
          have IB:=G (HK (base:=w.heap.size) (e:=3) (size:=1) w7 #[] 0 z ai rfl)
          have ax:r≠g:=fun e=>by rcases DL with q|q<;>(try simp at q)<;>omega
          have xd:Hid (v' (w7.alloc (.cells #[] 3)) 1 (some ⟨g,0,none⟩) R.length (e0 R)):=G (by have:=X8 (n2 (NA.out.kept L (.inr fun e=>p3 VZ (gn e))) (.g0 N)) 0 R.length (dq _) z;simpa using this)
          have Im:=G (uC.out.trans (N.mono X))
          have ID:=G (CS.out.alloc (.cells #[] 3))
          have Iu:Hid (∀u∈[Value.int .i64 x.dM],u.oneCell'=true):=G fun u hu=>(by cases hu with|head=>rfl|tail _ h=>cases h)
          clear s L DL U N
          go_wp2_with (first
           |(at_builtin;refine HF rfl _ _ 22 rfl w.heap.size 3 T _ 1 8 underlying22 S O P Q rfl ai V R.length Jy _ rfl vP.out (some ⟨r,0,none⟩) 1 rX _ rfl Iv.out (by unfold maxLen;omega) z z ?_;intro zq zi gD o_ Z Kw;have CT:=G o_;have CL:=G (sE.out.grown Z z (fun b A=>by cases A;exact(vP.out.lt V rfl).1));clear o_ Z Kw)
           |(at_builtin;refine HF rfl _ _ 22 rfl w.heap.size 3 T _ 1 8 underlying22 S O P Q rfl ai w7.heap.size 0 0 [] rfl IB.out (some ⟨g,0,none⟩) R.length cq _ rfl xd.out (by unfold maxLen;omega) z bu ?_;intro V Jy di D C Bl;simp only[gm,vF]at D;have vP:=G D;have sE:=G (Im.out.grown C bu (fun b A=>by cases A;exact X));have Iv:=G (v'.nD (ID.out.kept C (.inr (fun e=>(p3 KM) (gn e)))) z Iu.out);have aj:=sE.out.size;clear D C Bl))
          refine⟨⟨k+1,R++[x.dM],z,bM,?_,fun ab=>absurd ab am,?_,(by first|(simp;done)|(simp;omega)),CL.out⟩,by simp[RowKit.intOf];omega⟩
          ·have:=CT.out
           rw[show(R++[x.dM]).length=R.length+1 by simp]
           simpa[e0]using this
          ·rw[ez.out]
           have:=k2.out.WW Nu.out R.length z es.out (fun K=>absurd K (H1 _))
           simpa using this)
  ·obtain rfl:k=l.length:=z;have li:¬(l.length:Int)<l.length:=z;rw[vG]at ck;obtain⟨aH,aI,e,av⟩:=PK (by unfold maxLen;omega) t;cases e
   go_wp2;go_ret;exact⟨⟨_,_,R,rfl,ck,z,av⟩,A⟩
end Go.b3
namespace Go.b3
open Go Go.Proofs.Tryz Go.Proofs Go.RowKit Go.c0 Go.bj
open Go.aI (ef k7 fP pU g1)
def IQ(w:World)(e:Option Addr)(d:Nat):Prop:=d=0∨ ∃b o,e=some ⟨b,o,none⟩/\b<w.heap.size/\∀i,i<d->∃a n c,w.cell? ⟨b,o+i,none⟩=some (.slice a n c)/\k7 w a n/\(∀q,a=some q->0<n->q.block<w.heap.size)/\n<=maxLen
theorem IQ.U{w w':World}{f:Option Addr}{g:Nat}(h:IQ w f g)(A:Below w.heap.size w w'):IQ w' f g:=by
 rcases h with h|⟨b,o,e,d,j⟩
 ·exact .inl h
 ·refine .inr ⟨b,o,e,cE A d,fun i hi=>?_⟩;obtain⟨a,n,c,H,I,l,k⟩:=j i hi;exact⟨a,n,c,(A.cell d).trans H,I.U A,fun q m ab=>iz (l q m ab) A.size,k⟩
def apV(base n:Nat)(e:Ending)(w':World):Prop:=∃a c l,e=.returned (.slice a (l:List kt).length c)/\l.length=n/\sG (gR base) w' a l/\∀x∈l,R4 x
theorem ax0{S:cO}{M:Nat->Nat}{rs:List bA}{ca r:Option Addr}{cc o rb aC rc:Nat}{w:World}(h:AE S M rs ca r cc o rb aC rc w)(e4:13<=w.heap.size)(fs:Option Addr)(f g6:Nat)(dd:IQ w fs f)(oG:Nat)(aH:oG<=12): Calls prog 6 #[.agg (eh S rs ca r cc o rb aC rc),.slice fs f g6,.int .i64 oG] w fun e w'=>apV w.heap.size (min f oG) e w'/\Below w.heap.size w w':=by
 obtain⟨aE,aB,aG,h',ga⟩:=jt axf;have M9:=G fun W (ar:Below w.heap.size w W) id a n c (ak:k7 W a n) (ax:∀q,a=some q->0<n->q.block<W.heap.size) (an:n<=maxLen)=>aye (h.U ar) (db e4 ar.size) id a n c ak ax an;have H:=hw.eI w (eh S rs ca r cc o rb aC rc);have ay:=G dd;clear h dd;go_enter func6,ntmps6;go_upto_region 1 with fail
 generalize (w.alloc (.cells (eh S rs ca r cc o rb aC rc) 29))=ap at H⊢
 go_wp2;go_loopw [7,8] (fun v i wr=>∃l:List kt,(∀x∈l,R4 x)/\l.length<=oG/\l.length<=f/\i=.int .i64 l.length/\ng (w.heap.size+1) wr v l/\hw w (eh S rs ca r cc o rb aC rc) wr) (fun _ i _=>min f oG-(RowKit.intOf i).toNat);case atStart=>exact⟨[],(fun x h=>by cases h),dq _,dq _,rfl,ng.nil _ _,H⟩
 case round=>
  clear H;obtain⟨l,ad,wo,s5,rfl,cV,b9⟩:=hrel;have fW:=G ad;clear ad;obtain⟨va,cq,rfl⟩:=cV.hz;by_cases aq:l.length<f
  ·have li:(l.length:Int)<f:=z;by_cases xX:l.length<oG
   ·have lj:(l.length:Int)<oG:=z;rcases ay.out with ab|⟨m,ee,rfl,V,qo⟩
    ·omega
    ·obtain⟨J,E,cm,Z,ah,aj,al⟩:=qo l.length aq;have fk:=aA b9.b V Z;have sb:=ah.U b9.b;have x1:∀q,J=some q->0<E->q.block<wr.heap.size:=fun q az ab=>iz (aj q az ab) b9.b.size;have kx:m<wr.heap.size:=cE b9.b V;obtain⟨cp,aW,bb,bR,dF,dZ⟩:=fZ b9.g;obtain⟨fN,ae,af,aa⟩:=cV.o;have fX:=G af;have au:=G ae;have av:=G aa;have u:=G cV;have C:=G b9;have Y:w.heap.size<wr.heap.size:=cX b9.g;have Iq:=G sb;have ao:=G x1;have ex:(0:Int)<=(l.length:Int):=z;clear qo sb x1 ah aj Z ae af aa cV b9;go_upto_region 5 with fail
     go_region_held3 (fun aD=>aD.cell? ⟨w.heap.size,0,none⟩=some (.string S.bo)/\aD.cell? ⟨w.heap.size,1,none⟩=some (.int .i64 S.cZ)/\aD.cell? ⟨w.heap.size,2,none⟩=some (.slice ca S.bs.length cc)/\aD.cell? ⟨w.heap.size,3,none⟩=some (.slice r S.aB.length o)/\aD.cell? ⟨w.heap.size,4,none⟩=some (.slice (some ⟨rb,aC,none⟩) rs.length rc)/\aD.cell? ⟨w.heap.size,5,none⟩=some (.int .i64 S.aj)/\aD.cell? ⟨m,ee+l.length,none⟩=some (.slice J E cm)) (first|with_reducible exact⟨cp,aW,bb,bR,dF,dZ,fk⟩|with_reducible exact⟨u0,u1,u2,u3,u4,u5,u6⟩|with_reducible exact⟨v0,eJ,eO,v3,v4,v5,h4⟩|go_keep) (first
      |(have _:=u0;refine HL _ (by rfl) _ _ _ (by rfl) (w.heap.size+1) 47 aE _ 16 216 underlying31 aB aG h' ga rfl ai (.slice va l.length cq) l.length (fN.flatMap Array.toList) (by rfl) ((n2 fX.out (.g0 d.out)).alloc _) ⟨t.heap.size,0,none⟩ 1 1 (kz x.id x.dM x.lM x.i5 x.eF K x.BH.length O k s N D n P Q R L x.iI x.h2 aF x.prog.length I).toList (by rfl) (by rfl) (sy (p1 t _)) (by simp[Value.oneCell']) ai (by unfold maxLen;omega) z bu (t.heap.size+1) am ?_;intro g cap w7 cQ B fB V_;have iO:=G (ng.push (u.out.U d.out) (u.out.st (aZ _) Y aw.out) B fB au.out (fun j a b=>(av.out j a b).gf (.g0 d.out)) cQ);have gb:=G (((b_ C.out.b d.out).alloc z _).grown B bu (fun b A=>by have:=(u.out.lt b A).1;omega));have T:=(B.block w.heap.size bu (fun e=>by have:=(u.out.lt _ e.symm).1;omega)).trans ((Ck t _ w.heap.size z).trans X);have og:=G (hw.mk gb.out T);have D9:m<w.heap.size+1∨True:=.inr h5;obtain⟨v0,eJ,eO,v3,v4,v5⟩:=fZ T;have h4:=(B.cell_far ⟨m,ee+l.length,none⟩ (by show m<_;simp;omega) (fun e=>by have:=(u.out.lt m e.symm).1;omega)).trans (((fH t _).cell (p:=⟨m,ee+l.length,none⟩) (cE d.out kx)).trans u6);clear cQ B fB T)
      |(go_at_call 20;refine(M9.out _ ((C.out.b).trans (((bi _ _).drew).mono C.out.b.size)) _ J E cm (Iq.out.U ((bi _ _).drew)) ao.out al).mono ?_;rintro e t ⟨⟨F,x,rfl,iZ,K,O,k,s,N,D,n,P,Q,R,L,aF,I,rfl,zK,U,ag⟩,dl⟩;have d:=G ((lK wr).trans dl);have aw:Hid (mU (gR wr.heap.size) t (kz x.id x.dM x.lM x.i5 x.eF K x.BH.length O k s N D n P Q R L x.iI x.h2 aF x.prog.length I) x):=G ⟨K,O,k,s,N,D,n,P,Q,R,L,aF,I,rfl,zK,U,ag⟩;have hU:=G iZ;clear zK U ag dl iZ;have X:=(d.out.block _ Y).trans C.out.g;have BC:=d.out.size;obtain⟨u0,u1,u2,u3,u4,u5⟩:=fZ X;have u6:=aA d.out kx fk))
     all_goals(
      clear fk u6 h4
      go_wp2
      refine⟨⟨l++[x],(fun y aR=>by rcases nJ.1 aR with h|h;exact fW.out y h;rw[Cs.1 h];exact hU.out),bu,bu,?_,iO.out,og.out⟩,by simp[RowKit.intOf];omega⟩
      rw[ie,HU];go_num)
   ·have lj:¬(l.length:Int)<oG:=z;exact ajk
  ·have li:¬(l.length:Int)<f:=z;exact ajk
end Go.b3
namespace Go.bj.N
open Go Go.ch Go.Proofs Go.c0 Go.aI
def C'(h:ay)(b e o:Nat)(l:List K):Bool:=match h.cK b with
 |some (.cells a vs _ _)=>Nat.beq e a&&K.oo ((vs.drop o).take l.length) l
 |_=>false
def B8:List (ByteArray×Nat)->List Nat->List K
 |c::l,m::a=>om c.1::.int .i64 (.ofNat c.2)::.int .i64 (.ofNat m)::B8 l a
 |_,_=>[]
def C7:List Nat->List K
 |[]=>[]
 |a::l=>.int .i64 (.ofNat a)::C7 l
def Jz(c:Option Nat)(l:Nat):Bool:=match c with
 |none=>true
 |some n=>Nat.ble l n
def Tr(h:ay)(a:K)(args:List Nat):Bool:=match a with
 |.slice b o l 1 c=>Nat.beq l args.length&&Jz c l&&C' h b 3 o (C7 args)
 |.jx _ _ _ _=>args.isEmpty
 |_=>false
def tj(h:ay):List K->List bA->Bool
 |_,[]=>true
 |hd::op::aF::a::vs,r::l=>K.beq hd (.int .i64 (.ofNat r.h))&&K.beq op (om r.op)&&K.beq aF (om r.aF)&&Tr h a r.args&&tj h vs l
 |_,_=>false
def alV(h:ay)(b o:Nat)(l:List bA):Bool:=match h.cK b with
 |some (.cells e vs _ _)=>Nat.beq e 86&&tj h (vs.drop o) l
 |_=>false
def zt(S:cO)(a:List Nat)(x:Option (K×ay)):Bool:=match x with
 |some (.tup [.agg [bo,cZ,.slice e f b 2 c1,.slice bJ d c 3 c2,.slice rb aC qA 4 c3,aj],.int .i64 _,.int .i64 _],h)=>
  K.beq bo (om S.bo)&&K.beq cZ (.int .i64 (.ofNat S.cZ))&&K.beq aj (.int .i64 (.ofNat S.aj))&&Nat.beq b S.bs.length&&Nat.beq c S.aB.length&&Nat.beq qA S.c8.length&&Nat.beq a.length S.aB.length&&a.all (fun m=>Nat.ble 1 m&&Nat.ble m 5)&&
  C' h e 138 f (q3 S.bs)&&C' h bJ 62 d (B8 S.aB a)&&alV h rb aC S.c8&&Jz c1 b&&Jz c2 c&&Jz c3 qA
 |_=>false
end Go.bj.N
namespace Go.bj.N
open Go Go.Proofs.Tryz Go.ch Go.Proofs Go.c0 Go.aI
def aah:List Nat:=[103,114,97,109,109,97,114,32,116,101,120,116,115,32,49,10,99,111,108,117,109,110,32,97,32,116,101,120,116,10,99,111,108,117,109,110,32,98,32,116,101,120,116,10,115,121,109,98,111,108,32,84,32,116,101,120,116,32,52,10,115,121,109,98,111,108,32,85,32,116,101,120,116,32,50,10,114,117,108,101,32,84,32,99,111,108,32,39,97,39,10,114,117,108,101,32,84,32,99,111,108,32,39,98,39,10,114,117,108,101,32,84,32,99,111,110,99,97,116,32,39,39,32,85,32,84,10,114,117,108,101,32,84,32,117,112,112,101,114,32,39,39,32,85,10,114,117,108,101,32,85,32,99,111,108,32,39,97,39,10,114,117,108,101,32,85,32,116,101,120,116,32,39,45,39,10,114,117,108,101,32,85,32,101,120,116,114,97,99,116,32,39,92,100,43,35,49,39,32,85,10,115,116,97,114,116,32,84,10]
theorem aAb:zt l5 [4,2] ((iC prog i_ jY.find 3000).call 10 [.str aah] (gU ⟨.e,13⟩ []))=true:=au
def aai:List Nat:=[103,114,97,109,109,97,114,32,110,117,109,98,101,114,115,32,49,10,99,111,108,117,109,110,32,110,32,110,117,109,98,101,114,10,99,111,108,117,109,110,32,109,32,110,117,109,98,101,114,10,115,121,109,98,111,108,32,78,32,110,117,109,98,101,114,32,52,10,115,121,109,98,111,108,32,77,32,110,117,109,98,101,114,32,50,10,114,117,108,101,32,78,32,99,111,108,32,39,110,39,10,114,117,108,101,32,78,32,99,111,108,32,39,109,39,10,114,117,108,101,32,78,32,97,100,100,32,39,39,32,77,32,78,10,114,117,108,101,32,78,32,109,117,108,32,39,39,32,78,32,77,10,114,117,108,101,32,77,32,110,117,109,98,101,114,32,39,50,39,10,114,117,108,101,32,77,32,99,111,108,32,39,109,39,10,114,117,108,101,32,77,32,114,111,117,110,100,32,39,49,39,32,77,10,115,116,97,114,116,32,78,10]
theorem aAc:zt l6 [4,2] ((iC prog i_ jY.find 3000).call 10 [.str aai] (gU ⟨.e,13⟩ []))=true:=au
def aaj:List Nat:=[103,114,97,109,109,97,114,32,100,97,116,101,115,32,49,10,99,111,108,117,109,110,32,100,32,100,97,116,101,10,99,111,108,117,109,110,32,101,32,100,97,116,101,10,99,111,108,117,109,110,32,110,32,110,117,109,98,101,114,10,115,121,109,98,111,108,32,68,32,100,97,116,101,32,52,10,115,121,109,98,111,108,32,78,32,110,117,109,98,101,114,32,51,10,115,121,109,98,111,108,32,69,32,100,97,116,101,32,49,10,114,117,108,101,32,68,32,99,111,108,32,39,100,39,10,114,117,108,101,32,68,32,100,97,121,115,32,39,39,32,68,32,78,10,114,117,108,101,32,78,32,99,111,108,32,39,110,39,10,114,117,108,101,32,78,32,110,117,109,98,101,114,32,39,55,39,10,114,117,108,101,32,78,32,98,101,116,119,101,101,110,32,39,39,32,69,32,69,10,114,117,108,101,32,69,32,99,111,108,32,39,100,39,10,114,117,108,101,32,69,32,99,111,108,32,39,101,39,10,115,116,97,114,116,32,68,10]
theorem aAd:zt lN [4,3,1] ((iC prog i_ jY.find 3000).call 10 [.str aaj] (gU ⟨.e,13⟩ []))=true:=au
def aak:List Nat:=[103,114,97,109,109,97,114,32,108,111,111,107,117,112,115,32,49,10,99,111,108,117,109,110,32,99,111,100,101,32,116,101,120,116,10,99,111,108,117,109,110,32,110,32,110,117,109,98,101,114,10,115,121,109,98,111,108,32,78,32,110,117,109,98,101,114,32,52,10,115,121,109,98,111,108,32,84,32,116,101,120,116,32,50,10,114,117,108,101,32,78,32,108,111,111,107,117,112,32,39,112,114,105,99,101,115,46,99,111,100,101,46,112,114,105,99,101,58,110,117,109,98,101,114,39,32,84,10,114,117,108,101,32,78,32,99,111,108,32,39,110,39,10,114,117,108,101,32,78,32,109,117,108,32,39,39,32,78,32,78,10,114,117,108,101,32,84,32,99,111,108,32,39,99,111,100,101,39,10,114,117,108,101,32,84,32,117,112,112,101,114,32,39,39,32,84,10,114,117,108,101,32,84,32,116,101,120,116,32,39,65,39,10,115,116,97,114,116,32,78,10]
theorem aAe:zt nd [4,2] ((iC prog i_ jY.find 3000).call 10 [.str aak] (gU ⟨.e,13⟩ []))=true:=au
def aal:List Nat:=[103,114,97,109,109,97,114,32,99,104,111,105,99,101,115,32,49,10,99,111,108,117,109,110,32,115,32,116,101,120,116,10,99,111,108,117,109,110,32,110,32,110,117,109,98,101,114,10,115,121,109,98,111,108,32,84,32,116,101,120,116,32,53,10,115,121,109,98,111,108,32,66,32,98,111,111,108,32,51,10,115,121,109,98,111,108,32,78,32,110,117,109,98,101,114,32,49,10,115,121,109,98,111,108,32,67,32,116,101,120,116,32,49,10,114,117,108,101,32,84,32,99,111,108,32,39,115,39,10,114,117,108,101,32,84,32,116,101,120,116,32,39,108,111,119,39,10,114,117,108,101,32,84,32,105,102,32,39,116,101,120,116,39,32,66,32,67,32,84,10,114,117,108,101,32,66,32,108,101,115,115,32,39,39,32,78,32,78,10,114,117,108,101,32,66,32,109,97,116,99,104,32,39,92,117,43,39,32,67,10,114,117,108,101,32,78,32,99,111,108,32,39,110,39,10,114,117,108,101,32,78,32,110,117,109,98,101,114,32,39,49,48,39,10,114,117,108,101,32,67,32,99,111,108,32,39,115,39,10,114,117,108,101,32,67,32,116,101,120,116,32,39,104,105,103,104,39,10,115,116,97,114,116,32,84,10]
theorem aAf:zt kD [5,3,1,1] ((iC prog i_ jY.find 3000).call 10 [.str aal] (gU ⟨.e,13⟩ []))=true:=au
def aam:List Nat:=[103,114,97,109,109,97,114,32,116,97,98,108,101,115,32,49,10,99,111,108,117,109,110,32,105,116,101,109,115,32,116,97,98,108,101,10,99,111,108,117,109,110,32,107,32,116,101,120,116,10,115,121,109,98,111,108,32,78,32,110,117,109,98,101,114,32,52,10,115,121,109,98,111,108,32,88,32,116,97,98,108,101,32,51,10,115,121,109,98,111,108,32,84,32,116,101,120,116,32,49,10,114,117,108,101,32,78,32,115,117,109,32,39,97,109,111,117,110,116,62,61,48,39,32,88,10,114,117,108,101,32,78,32,99,111,117,110,116,32,39,39,32,88,10,114,117,108,101,32,78,32,97,100,100,32,39,39,32,78,32,78,10,114,117,108,101,32,88,32,99,111,108,32,39,105,116,101,109,115,39,10,114,117,108,101,32,88,32,119,104,101,114,101,32,39,107,105,110,100,39,32,88,32,84,10,114,117,108,101,32,84,32,99,111,108,32,39,107,39,10,114,117,108,101,32,84,32,116,101,120,116,32,39,97,39,10,115,116,97,114,116,32,78,10]
theorem aAg:zt ml [4,3,1] ((iC prog i_ jY.find 3000).call 10 [.str aam] (gU ⟨.e,13⟩ []))=true:=au
end Go.bj.N
namespace Go.bj.N
open Go Go.Proofs.Tryz Go.ch Go.Proofs Go.RowKit Go.c0 Go.aI
section
variable {ρ:b4} {σ:bl} {h:ay} {w:World}
theorem Tx{b e o:Nat}{l:List K}(a:C' h b e o l=true)(j:c6 ρ σ h w){p:ch.lT}(ag:σ b=some p):∃(arr:Array Value) (bg:Nat×Nat) (cs:List Value),w.heap[p.aU]? =some (Obj.cells arr e bg)/\bU ρ σ l=some cs/\∀i,i<l.length->arr[p.dA+o+i]? =cs[i]? :=by
 unfold C' at a;split at a
 ·rename_i s vs t wr A;simp only[dz]at a;obtain rfl:=gV a.1;have I:=K.sN a.2;obtain⟨q,arr,bg,cs,g,d,r,n,u,k,x,m,_⟩:=j.cells A;obtain rfl:p=q:=gn (ag.symm.trans g);have f:=sU l.length (tS o k);refine⟨arr,bg,(cs.drop o).take l.length,d,by rw[←f,I],fun i hi=>?_⟩;have c:=ih List.length I;simp only[n_,pp]at c;rw[kr,m (o+i) z,oS,cv hi,HR]
 ·cases a
theorem Ty{b e o:Nat}{l:List K}(a:C' h b e o l=true)(f:c6 ρ σ h w){p:ch.lT}(ag:σ b=some p):l.length=0∨o+l.length<=p.tot:=by
 unfold C' at a;split at a
 ·rename_i k vs t wr A;simp only[dz]at a;have I:=K.sN a.2;obtain⟨q,arr,bg,cs,d,g,j,i,m,n,r,s,_⟩:=f.cells A;obtain rfl:p=q:=gn (ag.symm.trans d);have c:=ih List.length I;simp only[n_,pp]at c;omega
 ·cases a
theorem N'{p:ch.lT}{o ae l:Nat}{c:Option Nat}(b:0<ae)(a:Jz c l=true)(h:l=0∨o+l*ae<=p.tot):l<=i9 p o ae c:=by
 cases c with
 |some n=>exact gP a
 |none=>
  show l<=(p.tot-o)/ae;rcases h with h|h
  ·subst h;exact dq _
  ·exact(anR b).2 z
theorem alW:∀(l:List bA) (vs:List K),tj h vs l=true->l.length*4<=vs.length
 |[],_,_=>by simp
 |r::l,hd::op::aF::a::vs,b=>by
  simp only[tj,dz]at b
  have:=alW l vs b.2
  simp;omega
 |r::l,[],b=>by simp[tj]at b
 |r::l,[_],b=>by simp[tj]at b
 |r::l,[_,_],b=>by simp[tj]at b
 |r::l,[_,_,_],b=>by simp[tj]at b
theorem arX(n:Nat):aE ρ σ (.int .i64 (.ofNat n))=some (.int .i64 (n:Int)):=by simp[aE]
theorem aej:∀cs,bU ρ σ (q3 cs)=some (q2 cs)
 |[]=>by simp[q3,q2,bU]
 |c::l=>by simp[q3,q2,bU,zl,aE,aej l]
def xD(a:List Nat)(i:Nat):Nat:=a.getD i 1
theorem aem(F:Nat->Nat):∀(ss:List (ByteArray×Nat)) (a:List Nat) (k:Nat),a.length=ss.length->(∀i (hi:i<a.length),a[i]=F (k+i))->bU ρ σ (B8 ss a)=some (qC ss F k)
 |[],[],_,_,_=>by simp[B8,qC,bU]
 |c::l,m::f,k,d,b=>by
  have ab:=b 0 (Ax _)
  simp only[yN,hG]at ab
  have e:=aem F l f (k+1) (by simpa using d) fun i hi=>by
   have:=b (i+1) (RW hi)
   simp only[E1]at this
   rw[this,show k+1+i=k+(i+1) by omega]
  simp[B8,qC,bU,zl,aE,e,←ab]
theorem Y6:∀(ss:List (ByteArray×Nat)) (a:List Nat),a.length=ss.length->(B8 ss a).length=ss.length*3
 |[],[],_=>rfl
 |c::l,m::b,h=>by simp[B8,Y6 l b (by simpa using h)];omega
theorem aei:∀l,bU ρ σ (C7 l)=some (rV l)
 |[]=>by simp[C7,rV,bU]
 |a::l=>by simp[C7,rV,bU,aE,aei l]
theorem Tq:∀l,(C7 l).length=l.length
 |[]=>rfl
 |a::l=>by simp[C7,Tq l]
theorem TY:∀l,(q3 l).length=l.length*2
 |[]=>rfl
 |a::l=>by simp[q3,TY l];omega
theorem aqY{a:K}{args:List Nat}(d:Tr h a args=true)(n:c6 ρ σ h w){c:Value}(f:aE ρ σ a=some c):∃j k ac,c=.slice (some ⟨j,k,none⟩) args.length ac/\p5 w (some ⟨j,k,none⟩) args/\H4 w (some ⟨j,k,none⟩) args/\args.length<=ac:=by
 unfold Tr at d;split at d
 ·rename_i b o l cap;simp only[dz]at d;obtain rfl:=gV d.1.1;simp only[aE,ig]at f;obtain⟨p,ag,rfl⟩:=f;obtain⟨arr,bg,cs,g,m,r⟩:=Tx d.2 n ag;have q:=Ty d.2 n ag;rw[Tq]at q;rw[aei]at m;cases m;refine⟨p.aU,p.dA+o,_,rfl,fun _=>⟨_,_,rfl,cX g,fun i hi=>?_⟩,fun _=>⟨_,_,rfl,_,_,g⟩,N' ai d.1.2 z⟩;simp only[World.cell?,g];rw[r i (by rw[Tq];exact hi)];exact Tp args i hi
 ·rename_i b o l e;have:args=[]:=by simpa using d
  subst this;simp only[aE,ig]at f;obtain⟨p,ag,rfl⟩:=f;exact⟨_,_,_,rfl,fun h=>by simp at h,fun h=>by simp at h,dq _⟩
 ·cases d
theorem alX(g:c6 ρ σ h w){B:Nat}:∀(l:List bA) (vs:List K) (cs:List Value) (base:Nat),tj h vs l=true->bU ρ σ vs=some cs->(∀i,i<vs.length->w.cell? ⟨B,base+i,none⟩=cs[i]?)->∀i (hi:i<l.length),∃f ac,FA w B (base+i*4) l[i] f ac/\H4 w f l[i].args/\l[i].args.length<=ac
 |[],_,_,_,_,_,_,i,hi=>by simp at hi
 |r::l,hd::op::aF::a::vs,cs,base,b,c,d,i,hi=>by
  simp only[tj,dz]at b
  obtain⟨⟨⟨⟨ce,eb⟩,eV⟩,A⟩,C⟩:=b
  have ce:=K.beq_eq ce
  have eb:=K.beq_eq eb
  have eV:=K.beq_eq eV
  subst ce eb eV
  simp only[bU,zl,arX]at c
  cases e:aE ρ σ a with
  |none=>rw[e]at c;simp at c
  |some ca=>
   cases J:bU ρ σ vs with
   |none=>rw[e,J]at c;simp at c
   |some y=>
    rw[e,J]at c
    simp only[cb]at c
    subst c
    cases i with
    |zero=>
     obtain⟨t,x,ac,rfl,s,o,n⟩:=aqY A g e
     have z:=d 0 am
     have m:=d 1 am
     have k:=d 2 am
     have q:=d 3 am
     refine⟨_,ac,⟨?_,?_,?_,?_,s,⟨t,x,rfl⟩⟩,o,n⟩
     ·simpa using z
     ·simpa using m
     ·simpa using k
     ·simpa using q
    |succ i=>
     have u:=alX g l vs y (base+4) C J (fun j D=>by
      have:=d (j+4) bu
      rw[show base+4+j=base+(j+4) by omega,this]
      simp) i (by simpa using hi)
     rw[show base+(i+1)*4=base+4+i*4 by omega]
     exact u
 |r::l,[],_,_,b,_,_,_,_=>by simp[tj]at b
 |r::l,[_],_,_,b,_,_,_,_=>by simp[tj]at b
 |r::l,[_,_],_,_,b,_,_,_,_=>by simp[tj]at b
 |r::l,[_,_,_],_,_,b,_,_,_,_=>by simp[tj]at b
theorem atU{S:cO}{d:List Nat}{v:K}{c:Value}(o:zt S d (some (v,h))=true)(g:c6 ρ σ h w)(e:aE ρ σ v=some c):∃F a b,c=.tuple #[.agg F,.int .i64 a,.int .i64 b]/\vN S (xD d) S.c8 w F/\∀i,1<=xD d i/\xD d i<=5:=by
 unfold zt at o;split at o
 ·rename_i bo cZ X A JH cc bJ r ec aV rb aC qA rc aj x y bf ub;cases ub;simp only[dz]at o;obtain⟨⟨⟨⟨⟨⟨⟨⟨⟨⟨⟨⟨⟨ce,eb⟩,eV⟩,oF⟩,wL⟩,zS⟩,n⟩,R⟩,C⟩,D⟩,f⟩,O⟩,P⟩,Q⟩:=o;have ce:=K.beq_eq ce;have eb:=K.beq_eq eb;have eV:=K.beq_eq eV;subst ce eb eV;obtain rfl:=gV oF;obtain rfl:=gV wL;obtain rfl:=gV zS;have n:=gV n;have Z:∀i,1<=xD d i/\xD d i<=5:=fun i=>by
   unfold xD;rw[pm];cases hi:d[i]? with
   |none=>simp
   |some m=>have:=hs.1 R m (Aw hi);simp only[dz]at this;exact⟨by simpa using this.1,by simpa using this.2⟩
  simp only[aE,bU,zl,ig]at e;cases k:σ X with
  |none=>rw[k]at e;simp at e
  |some t=>
   cases s:σ bJ with
   |none=>rw[k,s]at e;simp at e
   |some j=>
    cases B:σ rb with
    |none=>rw[k,s,B]at e;simp at e
    |some u=>
     rw[k,s,B]at e;simp only[ob,cb]at e;obtain⟨l,I,rfl⟩:=e;subst I;obtain⟨N,J,ab,bO,cu,a3⟩:=Tx C g k;rw[aej]at cu;cases cu;obtain⟨aa,nR,jK,G,E,co⟩:=Tx D g s;rw[aem (xD d) S.aB d 0 n fun i hi=>by simp[xD,hi]]at E;cases E;have Y:=Ty C g k;rw[TY]at Y;have V:=Ty D g s;rw[Y6 _ _ n]at V;unfold alV at f;split at f
     ·rename_i bv L t3 ad U;simp only[dz]at f;obtain rfl:=gV f.1;obtain⟨q,arr,bg,cs,T,M,bb,bR,dF,W,ho,jL,_⟩:=g.cells U;obtain rfl:u=q:=gn (B.symm.trans T);refine⟨_,x,y,rfl,⟨_,_,_,_,_,_,rfl,⟨t.aU,t.dA+A,N,J,rfl,bO,fun i hi=>?_⟩,⟨j.aU,j.dA+r,rfl,⟨_,_,G⟩,fun i hi=>?_⟩,⟨u.aU,u.dA+aC,rfl,⟨_,_,M⟩,?_⟩,N' ai O z,N' ai P z,N' ai Q (by have:=alW _ _ f.2;rw[pp]at this;omega)⟩,Z⟩
      ·have H:=TX S.bs i hi;have b2:i*2+1<(q3 S.bs).length:=by rw[TY];omega
       rw[a3 (i*2) z,show t.dA+A+i*2+1=t.dA+A+(i*2+1) by omega,a3 (i*2+1) b2];exact H
      ·have H:=Y5 (xD d) S.aB 0 i hi;rw[gm]at H;have b2:i*3+2<(B8 S.aB d).length:=by rw[Y6 _ _ n];omega
       simp only[World.cell?,G];rw[co (i*3) z,show j.dA+r+i*3+1=j.dA+r+(i*3+1) by omega,co (i*3+1) z,show j.dA+r+i*3+2=j.dA+r+(i*3+2) by omega,co (i*3+2) b2];exact H
      ·refine alX g S.c8 (L.drop aC) (cs.drop aC) (u.dA+aC) f.2 (tS aC W) fun i hi=>?_;simp only[pp]at hi;rw[kr,ho (aC+i) z,HR]
     ·cases f
 ·cases o
end
theorem OK:jE prog nc:=fun g a=>⟨0,by
 have:prog.globals.size=13:=au
 rw[this]at a
 simp[nc,a]⟩
theorem Px(ρ:b4)(w:World):c6 ρ nc (gU ⟨.e,13⟩ []) w:=by
 exact Xq
def ac1(S:cO)(w':World)(e:Ending):Prop:=∃F a b M,e=.returned (.tuple #[.agg F,.int .i64 a,.int .i64 b])/\(∀i,1<=M i/\M i<=5)/\vN S M S.c8 w' F/\2<=M S.aj
theorem Hg(S:cO)(j t:List Nat)(I:2<=xD j S.aj)(ah:t.all (fun n=>decide (n<256))=true)(d:zt S j ((iC prog i_ jY.find 3000).call 10 [.str t] (gU ⟨.e,13⟩ []))=true)(w:World): Calls prog 10 #[.string (fz t)] w fun e w'=>ac1 S w' e/\Below w.heap.size w w':=by
 obtain⟨ρ,p,_⟩:=EB (mK prog) (fun _=>(0,0)) (fun _=>#[]);cases f:(iC prog i_ jY.find 3000).call 10 [.str t] (gU ⟨.e,13⟩ [])with
 |none=>rw[f]at d;cases d
 |some x=>
  obtain⟨v,q⟩:=x;rw[f]at d;have k:bU ρ nc [.str t]=some [.string (fz t)]:=by simp only[bU,aE];rw[cv ah]
  refine(ym follows (ρ:=ρ) p (lp.sY vC) wk atk OK k (l:=[]) rfl rfl (Px ρ w) f rfl).mono ?_;rintro e w' ⟨c,σ',rfl,i⟩;obtain⟨g,a,b,rfl,m,o⟩:=atU d i.h i.v;exact⟨⟨g,a,b,_,rfl,o,m,I⟩,i.b⟩
def Ai(n:Nat):List Nat:=if n=0 then aah else if n=1 then aai else if n=2 then aaj else if n=3 then aak else if n=4 then aal else aam
theorem aAh(n:Nat)(w:World):Calls prog 10 #[.string (fz (Ai n))] w fun e w'=>ac1 (cn n) w' e/\Below w.heap.size w w':=by
 unfold cn Ai;by_cases ab:n=0
 ·rw[cv ab,cv ab];exact Hg _ _ _ ai au aAb w
 rw[bn ab,bn ab];by_cases H:n=1
 ·rw[cv H,cv H];exact Hg _ _ _ ai au aAc w
 rw[bn H,bn H];by_cases I:n=2
 ·rw[cv I,cv I];exact Hg _ _ _ ai au aAd w
 rw[bn I,bn I];by_cases b:n=3
 ·rw[cv b,cv b];exact Hg _ _ _ ai au aAe w
 rw[bn b,bn b];by_cases a:n=4
 ·rw[cv a,cv a];exact Hg _ _ _ ai au aAf w
 rw[bn a,bn a];exact Hg _ _ _ ai au aAg w
def aCF(t:List Nat)(x:Option (K×ay)):Bool:=match x with
 |some (v,_)=>K.beq v (.str t)
 |none=>false
theorem atl:i_ 15=none:=au
theorem Ht(k:Nat)(t:List Nat)(ah:t.all (fun n=>decide (n<256))=true)(a:aCF t ((iC prog i_ jY.find 30).call 15 [.int .i64 (.ofNat k)] (gU ⟨.e,13⟩ []))=true)(w:World): Calls prog 15 #[.int .i64 (k:Int)] w fun e w'=>e=.returned (.string (fz t))/\Below w.heap.size w w':=by
 obtain⟨ρ,f,_⟩:=EB (mK prog) (fun _=>(0,0)) (fun _=>#[]);cases b:(iC prog i_ jY.find 30).call 15 [.int .i64 (.ofNat k)] (gU ⟨.e,13⟩ [])with
 |none=>rw[b]at a;cases a
 |some x=>obtain⟨v,g⟩:=x;rw[b]at a;have J:=K.beq_eq (show K.beq v (.str t)=true from a);subst J;refine(ym follows (ρ:=ρ) f (lp.sY vC) wk atl OK (args:=[.int .i64 (.ofNat k)]) (cs:=[.int .i64 (k:Int)]) rfl (l:=[]) rfl rfl (Px ρ w) b rfl).mono ?_;rintro e w' ⟨c,σ',rfl,d⟩;have J:=d.v;simp only[aE]at J;rw[cv ah]at J;cases J;exact⟨rfl,d.b⟩
theorem aBM(n:Nat)(a:n<6)(w:World):Calls prog 15 #[.int .i64 (n:Int)] w fun e w'=>e=.returned (.string (fz (Ai n)))/\Below w.heap.size w w':=by
 have:n=0∨n=1∨n=2∨n=3∨n=4∨n=5:=z;rcases this with rfl|rfl|rfl|rfl|rfl|rfl
 ·exact Ht 0 aah au au w
 ·exact Ht 1 aai au au w
 ·exact Ht 2 aaj au au w
 ·exact Ht 3 aak au au w
 ·exact Ht 4 aal au au w
 ·exact Ht 5 aam au au w
end Go.bj.N
namespace Go.bj.N
open Go Go.Proofs Go.RowKit Go.c0
open Go.aI (k7 sK ef tE pT QS)
def C3(t:Nat):Prop:=t=138∨t=62∨t=86∨t=3
structure im (w w':World):Prop where
 ae:w.heap.size<=w'.heap.size
 k:∀(b:Nat) (arr:Array Value) (t:Nat) (bg:Nat×Nat),C3 t->w.heap[b]? =some (Obj.cells arr t bg)->w'.heap[b]? =some (Obj.cells arr t bg)
theorem im.trans{a b c:World}(h:im a b)(g:im b c):im a c:=⟨db h.ae g.ae,fun x arr t bg ah d=>g.k x arr t bg ah (h.k x arr t bg ah d)⟩
theorem im.U{w w':World}(A:Below w.heap.size w w'):im w w':=⟨A.size,fun b arr t bg _ h=>by rw[A.block b (cX h)];exact h⟩
theorem im.set{w:World}{b t:Nat}{cs:Array Value}{fr:Nat×Nat}(A:w.heap[b]? =some (Obj.cells cs t fr))(ah:¬C3 t)(i:Nat)(u:Value):im w (w.setCell ⟨b,i,none⟩ u):=
 ⟨am,fun c arr d bg a h=>by
  rw[hm _ _ _ _ (fun e=>?_)]
  ·exact h
  ·rw[e,A]at h
   cases h
   exact ah a⟩
theorem im.next{w w':World}{f:Nat}{a:Option Addr}{n:Nat}{N:Int}{e:Ending}{c i:Nat}(g:w.heap[f]? =some (Obj.cells #[.slice a n c,.int .i64 i] 57 (0,0)))(d:tE w f a n N e w'):im w w':=
 ⟨by rw[d.2.2.1];exact aZ _,fun b arr t bg ah h=>by
  rw[d.2.2.2.1 b (fun e=>?_)]
  ·exact h
  ·rw[e,g]at h
   cases h
   rcases ah with h|h|h|h<;>cases h⟩
theorem im.cell{w w':World}(a:im w w'){b t:Nat}(ah:C3 t)(A:tK w b t)(o:Nat):w'.cell? ⟨b,o,none⟩=w.cell? ⟨b,o,none⟩:=by
 obtain⟨arr,bg,h⟩:=A;simp only[World.cell?,h,a.k b arr t bg ah h]
theorem im.Rc{w w':World}(a:im w w'){b t:Nat}(ah:C3 t)(A:tK w b t):tK w' b t:=by
 obtain⟨arr,bg,h⟩:=A;exact⟨arr,bg,a.k b arr t bg ah h⟩
theorem tK.lt{w:World}{b t:Nat}(h:tK w b t):b<w.heap.size:=by obtain⟨arr,bg,h⟩:=h;exact cX h
theorem tK.U{w w':World}{b t B:Nat}(h:tK w b t)(a:b<B)(A:Below B w w'):tK w' b t:=by
 obtain⟨arr,bg,h⟩:=h;exact⟨arr,bg,by rw[A.block b a];exact h⟩
theorem zb.at{w:World}{a:Option Addr}{ss:List (ByteArray×Nat)}{M:Nat->Nat}(h:zb w a ss M):rT w a ss M:=by
 obtain⟨b,o,e,ah,c⟩:=h;exact⟨b,o,e,ah.lt,c⟩
theorem y'.at{w:World}{ra:Option Addr}{rs:List bA}(h:y' w ra rs):uK w ra rs:=by
 obtain⟨b,o,e,ah,a⟩:=h;exact⟨b,o,e,ah.lt,fun i hi=>by obtain⟨c,ac,H,_⟩:=a i hi;exact⟨c,ac,H⟩⟩
theorem zb.hC{w w':World}{d:Option Addr}{ss:List (ByteArray×Nat)}{M:Nat->Nat}(h:zb w d ss M)(a:im w w'):zb w' d ss M:=by
 obtain⟨b,o,e,ah,f⟩:=h;have c:=fun o=>a.cell (t:=62) (.inr (.inl rfl)) ah o;exact⟨b,o,e,a.Rc (.inr (.inl rfl)) ah,fun i hi=>by rw[c,c,c];exact f i hi⟩
theorem aqZ{w w':World}{a:Option Addr}{l:List Nat}(h:p5 w a l)(ah:H4 w a l)(d:im w w'):p5 w' a l/\H4 w' a l:=by
 refine⟨fun ab=>?_,fun ab=>?_⟩
 ·obtain⟨b,o,e,k,j⟩:=h ab;obtain⟨f,g,c,A⟩:=ah ab;rw[e]at c;cases c;exact⟨b,o,e,iz k d.ae,fun i hi=>by rw[d.cell (t:=3) (.inr (.inr (.inr rfl))) A];exact j i hi⟩
 ·obtain⟨f,g,c,A⟩:=ah ab;exact⟨f,g,c,d.Rc (.inr (.inr (.inr rfl))) A⟩
theorem y'.hC{w w':World}{ra:Option Addr}{rs:List bA}(h:y' w ra rs)(a:im w w'):y' w' ra rs:=by
 obtain⟨b,o,e,ah,d⟩:=h;have c:=fun o=>a.cell (t:=86) (.inr (.inr (.inl rfl))) ah o;refine⟨b,o,e,a.Rc (.inr (.inr (.inl rfl))) ah,fun i hi=>?_⟩;obtain⟨g,ac,H,I,k⟩:=d i hi;obtain⟨j,f⟩:=aqZ H.args I a;exact⟨g,ac,⟨by rw[c];exact H.br,by rw[c];exact H.c1,by rw[c];exact H.c2,by rw[c];exact H.c3,j,H.cn⟩,f,k⟩
theorem _root_.Go.c0.iM.hC{w w':World}{ca:Option Addr}{cs:List (ByteArray×Nat)}(h:iM w ca cs)(d:im w w'):iM w' ca cs:=by
 obtain⟨b,o,arr,bg,e,c,a⟩:=h;exact⟨b,o,arr,bg,e,d.k b arr 138 bg (.inl rfl) c,a⟩
theorem vN.hC{S:cO}{M:Nat->Nat}{rs:List bA}{w w':World}{F:Array Value}(h:vN S M rs w F)(a:im w w'):vN S M rs w' F:=by
 obtain⟨ca,cc,f,c,ra,rc,e,H,I,d,b⟩:=h;exact⟨ca,cc,f,c,ra,rc,e,H.hC a,I.hC a,d.hC a,b⟩
structure hb (S:cO) (M:Nat->Nat) (rs:List bA) (base:Nat) (w:World) (ca:Option Addr) (cc ej gG du e':Nat):Prop where
 c:iM w ca S.bs
 bX:∃arr,w.heap[ej]? =some (Obj.cells arr 62 (0,0))
 s:zb w (some ⟨ej,0,none⟩) S.aB M
 fu:∃arr,w.heap[du]? =some (Obj.cells arr 86 (0,0))/\arr.size=e'*4
 r:y' w (some ⟨du,0,none⟩) rs
 rl:rs.length<=e'
 bJ:base<=ej
 rb:base<=du
 cl:S.bs.length<=cc
 EG:S.aB.length<=gG
theorem hb.atT{S:cO}{M:Nat->Nat}{rs:List bA}{base:Nat}{w:World}{ca:Option Addr}{cc ej c a b:Nat}(h:hb S M rs base w ca cc ej c a b):vN S M rs w #[.string S.bo,.int .i64 S.cZ,.slice ca S.bs.length cc,.slice (some ⟨ej,0,none⟩) S.aB.length c,.slice (some ⟨a,0,none⟩) rs.length b,.int .i64 S.aj]:=
 ⟨_,_,_,_,_,_,rfl,h.c,h.s,h.r,h.cl,h.EG,h.rl⟩
theorem hb.hC{S:cO}{M:Nat->Nat}{rs:List bA}{base:Nat}{w w':World}{ca:Option Addr}{cc ej d b c:Nat}(h:hb S M rs base w ca cc ej d b c)(a:im w w'):hb S M rs base w' ca cc ej d b c:=by
 obtain⟨arr,H⟩:=h.bX;obtain⟨f,I,e⟩:=h.fu;exact⟨h.c.hC a,⟨arr,a.k _ _ _ _ (.inr (.inl rfl)) H⟩,h.s.hC a,⟨f,a.k _ _ _ _ (.inr (.inr (.inl rfl))) I,e⟩,h.r.hC a,h.rl,h.bJ,h.rb,h.cl,h.EG⟩
theorem rA.nx{S:cO}(r:qb S){M:Nat->Nat}{rs:List bA}(P:0<rs.length){base:Nat}{w:World}{n o m:Value}{a:List tG}(h:rA S M rs base w n o m a):∃ca cc ej f c d,n=.slice ca S.bs.length cc/\o=.slice (some ⟨ej,0,none⟩) S.aB.length f/\m=.slice (some ⟨c,0,none⟩) rs.length d/\hb S M rs base w ca cc ej f c d:=by
 have t:a.length=rs.length:=by rw[←h.e,HT]
 have G:n≠ .slice none 0 0:=fun e=>by
  rcases h.c.2 with⟨_,ab⟩|⟨g,cap,s,ak,_⟩
  ·have:=r.arS;omega
  ·rw[e]at ak;cases ak
 have J:o≠ .slice none 0 0:=fun e=>by
  rcases h.s.2 with⟨_,ab⟩|⟨g,cap,s,ak,_⟩
  ·have:=r.vB;omega
  ·rw[e]at ak;cases ak
 have K:m≠ .slice none 0 0:=fun e=>by
  rcases h.r.2 with⟨_,ab⟩|⟨g,cap,s,ak,_⟩
  ·omega
  ·rw[e]at ak;cases ak
 obtain⟨u,O,y,rfl,_,a3,a4,_,eL⟩:=Nj h.c G;obtain⟨ej,f,A,rfl,D,co,N,_,k⟩:=Nj h.s J;obtain⟨c,d,B,rfl,c2,c3,c4,c5,fk⟩:=Nj h.r K;rw[t]at c4 fk;refine⟨_,_,ej,f,c,d,rfl,rfl,by rw[t],⟨u,0,y,_,rfl,a3,fun i hi=>?_⟩,⟨A,co⟩,⟨ej,0,rfl,⟨_,_,co⟩,fun i hi=>?_⟩,⟨B,c3,c5⟩,⟨c,0,rfl,⟨_,_,c3⟩,fun i hi=>?_⟩,c4,D,c2,a4,N⟩
 ·rw[gm,eL (i*2) z,eL (i*2+1) z];exact TX S.bs i hi
 ·have:=Y5 M S.aB 0 i hi;rw[gm]at this;simp only[World.cell?,co,gm];rw[k (i*3) z,k (i*3+1) z,k (i*3+2) z];exact this
 ·have q:i<a.length:=z;obtain⟨C,H,I,L⟩:=alU a i q;obtain⟨F,arr,bg,l,E⟩:=h.a a[i] (fM q);have b:rs[i]=a[i].1:=by
   have:(a.map (·.1))[i]? =some a[i].1:=by simp[q]
   rw[h.e]at this;exact(j2.1 this).2
  refine⟨some ⟨a[i].2.1,a[i].2.2.1,none⟩,a[i].2.2.2,⟨?_,?_,?_,?_,fun _=>⟨_,_,rfl,cX l,fun j x=>?_⟩,⟨_,_,rfl⟩⟩,fun _=>⟨_,_,rfl,⟨_,_,l⟩⟩,by rw[b];exact F⟩
  ·simp only[World.cell?,c3,gm];rw[fk _ z,C,b];rfl
  ·simp only[World.cell?,c3,gm];rw[fk _ z,H,b];rfl
  ·simp only[World.cell?,c3,gm];rw[fk _ z,I,b];rfl
  ·simp only[World.cell?,c3,gm];rw[fk _ z,L,b];rfl
  ·simp only[World.cell?,l];have:=E j (by rw[←b];exact x);rw[this];simp only[b];rfl
theorem hb.aB0{S:cO}{M:Nat->Nat}{rs:List bA}{base:Nat}{w:World}{ca:Option Addr}{cc ej x s u:Nat}(h:hb S M rs base w ca cc ej x s u)(i m:Nat)(hi:i<S.aB.length):hb S (fun j=>if j=i then m else M j) rs base (w.setCell ⟨ej,i*3+2,none⟩ (.int .i64 m)) ca cc ej x s u:=by
 obtain⟨arr,g⟩:=h.bX;obtain⟨C,F,K⟩:=h.fu;have Q:∀(b t:Nat) (a:Array Value) (bg:Nat×Nat),t≠62->w.heap[b]? =some (Obj.cells a t bg)->(w.setCell ⟨ej,i*3+2,none⟩ (.int .i64 m)).heap[b]? =some (Obj.cells a t bg):=fun b t a bg ah A=>by
  rw[hm _ _ _ _ (fun e=>?_)]
  ·exact A
  ·rw[e,g]at A;cases A;exact ah rfl
 have l:=hS (i:=i*3+2) g (.int .i64 m);have y:∀(b t o:Nat),tK w b t->t≠62->(w.setCell ⟨ej,i*3+2,none⟩ (.int .i64 m)).cell? ⟨b,o,none⟩=w.cell? ⟨b,o,none⟩:=fun b t o ⟨a,bg,A⟩ ah=>by simp only[World.cell?,A,Q b t a bg ah A]
 refine⟨?_,⟨_,l⟩,?_,⟨C,Q _ _ _ _ ai F,K⟩,?_,h.rl,h.bJ,h.rb,h.cl,h.EG⟩
 ·obtain⟨b,o,a,bg,e,f,d⟩:=h.c;exact⟨b,o,a,bg,e,Q _ _ _ _ ai f,d⟩
 ·obtain⟨b,o,e,ah,d⟩:=h.s;cases e;refine⟨ej,0,rfl,⟨_,_,l⟩,fun j k=>?_⟩;have H:=d j k;have I:=d i hi;simp only[World.cell?,g,gm]at H I;simp only[World.cell?,l,gm];refine⟨by rw[yG z];exact H.1,by rw[yG z];exact H.2.1,?_⟩;by_cases e:j=i
  ·subst e;have aq:j*3+2<arr.size:=(hl.1 I.2.2).1;rw[cv rfl];simp[aq]
  ·rw[bn e,yG z];exact H.2.2
 ·obtain⟨b,o,e,ah,d⟩:=h.r;refine⟨b,o,e,?_,fun j k=>?_⟩
  ·obtain⟨a,bg,A⟩:=ah;exact⟨a,bg,Q _ _ _ _ ai A⟩
  ·obtain⟨B,ac,H,I,E⟩:=d j k;have c:=fun o=>y b 86 o ah ai;refine⟨B,ac,⟨by rw[c];exact H.br,by rw[c];exact H.c1,by rw[c];exact H.c2,by rw[c];exact H.c3,fun ab=>?_,H.cn⟩,fun ab=>?_,E⟩
   ·obtain⟨r,J,n,f,G⟩:=H.args ab;obtain⟨dJ,eH,Dn,A⟩:=I ab;rw[n]at Dn;cases Dn;exact⟨r,J,n,by simpa using f,fun q D=>by rw[y r 3 _ A ai];exact G q D⟩
   ·exact ajy
end Go.bj.N
