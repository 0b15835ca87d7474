/- ItemInForce, one part of the proof. -/
import Derived.Test.YtdhifebhlocikaaGreatDoorP14
set_option linter.all false
set_option maxRecDepth 100000
set_option maxHeartbeats 16000000
namespace Go.bE
open Go Go.Proofs.Tryz Go.Proofs Go.RowKit Go.di Go.bk
open Go.bk.N (l_)
open Go.aM (er k_ fk qm hC)
def aEw{S:c8}{M:Nat->Nat}{rs:List bD}{ca u:Θ}{cc r rb aK rc:Nat}{w:Γ}(h:AS S M rs ca u cc r rb aK rc w)(dY:13<=w.heap.size)(id:Int)(a:Θ)(n c:Nat)(ai:k_ w a n)(az:∀q,a=some q->0<n->q.block<w.heap.size)(av:n<=maxLen): χ 57 #[.agg (en S rs ca u cc r rb aK rc),id,.slice a n c] w (Ms w):=by
 have AR:=A λ(m:Int) (H:0<m) (I:m<=2000000000000001) W (ah:er W (w.heap.size+2) a n)=>qm W (w.heap.size+2) a n m H I av ah;have yW:=A λW (B:β w W) x=>aHb (h.K B).oB (h.K B).cap h.apI h.an x;have Rz:=A λW (B:β w W) (aO:Θ) (bK k:Nat) (p:List Int) (ag:lT W aO p) (e':p6 rs M S.an k p) (ad:p.length<=bK) (hd:bK<=9223372036854775807) x=>ap7 (h.K B).oB aO bK k p ag e' ad hd x;have Ib:=A λW (B:β w W) (a':Θ) (eT:Nat) (JK:k_ W a' 5) (GE:∀q,a'=some q->0<5->q.block<W.heap.size)=>aIr (.string S.nm) S.dk (.slice u S.aJ r) (.slice (some ⟨rb,aK,none⟩) rs rc) S.an ca cc S.bB a' 5 eT W (h.K B).oB.c h.oB.ok.bB h.up JK GE al;have AP:=A λW (B:β w W)=>Go.bk.N.ain W (c6 dY B.size);have CR:=A λW (B:β w W) (G:Φ) (la:l_ W G) (ra:Θ) (o:Nat) (R:List bs) (bt:cm aD (aR aD 1) W ra R) (Jw:R.length=S.bB.length) (Tk:∀v∈R,e9 1 v) (aO:Θ) (bK k:Nat) (p:List Int) (ag:lT W aO p) (e':p6 rs M S.an k p) (ad:p.length<=bK) (b4:p.length<=5)=>aIf (rwc:=o) p S.an aO bK W ⟨(h.K B).oB,h.ok,la,bt,Jw.symm,Tk⟩ ag ⟨by rw[e'.len];exact e'.gD,e'.BX⟩ ad b4;obtain⟨V,kG⟩:∃V:Int,V=(((S.aJ[S.an]'h.oB.ok.an).2:Nat):Int):=⟨_,rfl⟩;have Gp:Hid (V=1∨V=2∨V=3):=A (by have:=h.kd;omega);have Ww:Hid (∀W,β w W->χ 130 #[.agg (en S rs ca u cc r rb aK rc)] W λe w'=>e=.returned V):=A λW B=>by rw[kG];exact aDQ (h.K B).oB
 clear kG;have aM:=A λW (ah:er W (w.heap.size+2) a n) (k:Int) (ab:k=1∨k=2∨k=3)=>aL0 W (w.heap.size+2) a n av ah k ab;have bj:=A λ(W:Γ) (k:Int) (s:Ψ) (N D n:Int) (va:Θ) (cB:Nat) (kv:Θ) (wc:Nat) (J:rt (.mk k s N D n [] []))=>ad1 J W (bC k s N D n va 0 cB kv 0 wc) (aR.jb aD 1 W _ _ _ _ _ _ _ _ _);have Gh:Hid (∀x,ca=some x->x.block≠w.heap.size+2):=A λx aa=>by exact an0
 have bk:=A λW (B:β w W) (ah:er W (w.heap.size+2) a n)=>λid cX fT cZ kd hM oa h6 es bY kz nr hc jC jD jj jK eX eH dI rW eu k s N D m va xA cB kv vb wc ab=>ap_ (h.K B).oB (w.heap.size+2) a n av ah Gh.out id cX fT cZ kd hM oa h6 es bY kz nr hc jC jD jj jK eX eH dI rW eu k s N D m va xA cB kv vb wc ab;have Z:=A ai;have nQ:=A az;have Iq:=A h;have aQ:=A (nl.start w a n c (en S rs ca u cc r rb aK rc));clear h ai az;go_enter func57,ntmps57;go_upto_region 2 with fail
 generalize (((w.alloc (.cells (en S rs ca u cc r rb aK rc) 29)).alloc (.cells uP 47)).alloc (.cells #[.slice a n c,.int .i64 0] 53))=am at aQ|-;go_upto_region 3 with(first
  |(go_at_call 19;(with_reducible refine(AR.out 3 al al _ (aQ.out.num Z.out nQ.out)).mono ?_);rintro e ap ⟨⟨cr,hW,h5,rfl⟩,f,g⟩;have ki:=A (aQ.out.next f g);clear f g)
  |(go_at_call 19;(with_reducible refine(AR.out 5 al al _ (ki.out.num Z.out nQ.out)).mono ?_);rintro e w3 ⟨⟨dy,lg,n9,rfl⟩,f,g⟩;have ih:=A (ki.out.next f g);clear f g)
  |(go_at_call 19;(with_reducible refine(AR.out 9 al al _ (ih.out.num Z.out nQ.out)).mono ?_);rintro e bh ⟨⟨ew,j2,vU,rfl⟩,f,g⟩;have hE:=A (ih.out.next f g);clear f g)
  |(go_at_call 19;(with_reducible refine(AR.out 5 al al _ ((hE.out.alloc _).num Z.out nQ.out)).mono ?_);rintro e bc ⟨⟨im,lh,OP,rfl⟩,f,g⟩;have jp:=A ((hE.out.alloc _).next f g);obtain⟨m,rfl⟩:∃k:Nat,im=(k:Int):=⟨im.toNat,z⟩;obtain⟨kd,Gq,zO⟩:=aDT m z bh;have c4:bc ⟨bh,m,none⟩=kd:=(by rw[nN (g.block bh aq (by have:=bM hE.out.m.choose_spec.choose_spec;omega))];exact Gq);have aV:=A zO;clear f g Gq zO))
 have aX:=jp.out.b.size;have OB:w.heap.size+3<=bc.heap.size:=bM jp.out.m.choose_spec.choose_spec;have sg:Hid (ow w a n (en S rs ca u cc r rb aK rc) bc (gj id (1+cr) dy ew kd none 0 0 0 bX 0 0 0 none 0 none 0 bX bX none 0 0) (bc.alloc (.cells (gj id (1+cr) dy ew kd none 0 0 0 bX 0 0 0 none 0 none 0 bX bX none 0 0) 47))):=A ⟨jp.out.alloc _,c7 _ _,OB⟩;clear ki ih hE jp aQ c4;have Gf:1<=1+cr/\1+cr<=3:=z;have rM:0<=ew/\ew<=8:=z;generalize 1+cr=cX at*;generalize bc.heap.size=l at*;generalize (bc.alloc (.cells (gj id cX dy ew kd none 0 0 0 bX 0 0 0 none 0 none 0 bX bX none 0 0) 47))=br at*;obtain⟨O,F,L,K,Q,P⟩:=gp sg.out.x.g;have R':=A (yW.out)
 go_region_held3 (λX=>X ⟨w,0,none⟩=S.nm/\X ⟨w,1,none⟩=S.dk/\X ⟨w,2,none⟩=some (.slice ca S.bB cc)/\X ⟨w,3,none⟩=some (.slice u S.aJ r)/\X ⟨w,4,none⟩=some (.slice (some ⟨rb,aK,none⟩) rs rc)/\X ⟨w,5,none⟩=S.an) (first|with_reducible exact⟨O,F,L,K,Q,P⟩|with_reducible exact⟨u0,u1,u2,u3,u4,u5⟩|with_reducible exact⟨v0,T,U,v3,v4,v5⟩|go_keep) (first
  |(have _:=u0;go_at_call 126;(with_reducible refine(yW.out _ MC.out.x.b _).mono ?_);rintro e dc ⟨⟨aO,bK,bi,p,rfl,hV,ij,D5,aJ,vT⟩,fR⟩;have vn:=A (λ(x:Addr) (aa:aO=some x)=>(i4 (bM MC.out.i) (vT x aa):l<x.block));clear vT;have vy:=A (MC.out.K fR);have y5:=A hV;have ru:=A ij;clear hV ij fR;obtain⟨v0,T,U,v3,v4,v5⟩:=gp vy.out.x.g)
  |(go_at_call 19;(with_reducible refine(AR.out 3000 al al _ (sg.out.drew.x.num Z.out nQ.out)).mono ?_);rintro e w7 ⟨⟨uY,aH,ys,rfl⟩,f,g⟩;have MC:=A (sg.out.drew.next f g);clear f g;obtain⟨u0,u1,u2,u3,u4,u5⟩:=gp MC.out.x.g))
 clear R' O F L K Q P u0 u1 u2 u3 u4 u5 sg MC;have aL:l<dc.heap.size:=bM vy.out.i;obtain⟨-,-,-,-,kV,-,-,-,-,-,-,-,-,-,-,qi⟩:=s8 vy.out.i;by_cases aS:kd=4
 .subst aS;go_upto_if 35 with fail
  exact aG2 Iq.out id a n Z.out nQ.out av vy.out y5.out ru.out D5 aJ vn.out OB Gf rM _ _ _ _ _ _ _ _ _ _ _ _ _ _ _ _ _ _ _ _ _ _ _ _ _ _ _ _ _ _ _ _ _ _ _ _ _ _ _ _ _ _ _ _ _ _ _ _ _ _ _ _ _ _ _ _ _ _ _ _ _ _ _ _ _ _ _ _ _ _ _ _ _ _ _ _ _ _ _ _ _ _ _ _ _ _ _ _
 .have il:(kd==4)=false:=by rw[mx];exact aS
  have Dn:=A vy.out.drew;have R3:=A (y5.out.K ((bl _ _).drew));have Fa:Hid (p.length<=5):=A (by rw[ru.out.len];exact c6 ru.out.le (Iq.out.oB.yz _).2);go_upto_region 7 with fail
  clear kV qi aL vy y5
  go_region_held3 (λX=>X ⟨w,0,none⟩=S.nm/\X ⟨w,1,none⟩=S.dk/\X ⟨w,2,none⟩=some (.slice ca S.bB cc)/\X ⟨w,3,none⟩=some (.slice u S.aJ r)/\X ⟨w,4,none⟩=some (.slice (some ⟨rb,aK,none⟩) rs rc)/\X ⟨w,5,none⟩=S.an) (first|with_reducible exact⟨v0,T,U,v3,v4,v5⟩|with_reducible exact⟨u0,u1,u2,u3,u4,u5⟩|exact⟨(vE z).trans O,(vE z).trans F,(vE z).trans L,(vE z).trans K,(vE z).trans Q,(vE z).trans P⟩|go_keep) (first
   |(go_at_call 128;refine(Ib.out _ (Dn.out.alloc _).x.b _ _ (aFV _ _ _ _ _ _) (λq aE _=>by cases aE;simp)).mono ?_;rintro e E ⟨⟨ra,o,R,rfl,Jw,au,Tk⟩,o6⟩;have wI:=A ((Dn.out.alloc _).K o6);have aj:=A ((R3.out.K ((bl _ _).alloc (aY _) _)).K o6);have uc:=A Jw;have R4:=A Tk;obtain⟨cV,DI,iO,kT⟩:=aIS o6 au (Dn.out.alloc _);have an:=A DI;clear Jw au Tk o6 DI;obtain⟨O,F,L,K,Q,P⟩:=gp wI.out.x.g;have o6:l<E.heap.size:=bM wI.out.i;have zY:E ⟨l,5,none⟩=some (.slice none 0 0):=aN 5 wI.out.i;have f5:=Go.aM.cM (i:=5) wI.out.i)
   |(go_at_call 19;(with_reducible refine(AR.out 96 al al _ (Dn.out.x.num Z.out nQ.out)).mono ?_);rintro e E ⟨⟨uY,aH,ys,rfl⟩,f,g⟩;have Dn:=A (Dn.out.next f g);have R3:=A (anK R3.out g (λx aa=>by have:=vn.out x aa;omega));clear f g;obtain⟨u0,u1,u2,u3,u4,u5⟩:=gp Dn.out.x.g))
  have ul:Hid (ow w a n (en S rs ca u cc r rb aK rc) l (gj id cX dy ew kd ra R o 0 bX 0 0 0 none 0 none 0 bX bX none 0 0) (E.setCell ⟨l,5,none⟩ (.slice ra R o))):=A (wI.out.set 5 _);have ae:Hid ((E.setCell ⟨l,5,none⟩ (.slice ra R o)).heap.size=E.heap.size):=A aq;have W8:Hid (sd cV E (E.setCell ⟨l,5,none⟩ (.slice ra R o)) ra R):=A (an.out.IR ((eR.refl _ E).set (λaa=>by have:=aa.1;omega) 5 _));have W1:Hid (lT (E.setCell ⟨l,5,none⟩ (.slice ra R o)) aO p):=A (aEk aj.out (λx aa=>vn.out x aa) 5 _);clear O F L K Q P u0 u1 u2 u3 u4 u5 v0 T U v3 v4 v5 zY f5 wI an aj Dn R3;generalize (E.setCell ⟨l,5,none⟩ (.slice ra R o))=yK at*;have JC:l<E.heap.size:=o6;clear o6;generalize E.heap.size=io at*;go_upto_region 8 with fail
  go_cut [10]from 93 (λx c0=>∃G j Y kl mf kE mD mh mE mF mj mG,x=.pointer (some ⟨G,0,none⟩)/\mc w a n (en S rs ca u cc r rb aK rc) l (gj id cX dy ew kd ra R o 0 bX 0 0 0 none 0 none 0 bX bX none 0 0) cV io ra R G (bC j Y kl mf kE mD mh mE mF mj mG) c0/\(j=1∨j=2∨j=3->mh=0/\mj=0/\rt (.mk j Y kl mf kE [] [])))
  case first=>
   obtain⟨O,F,L,K,Q,P⟩:=gp ul.out.x.g;have hG:yK ⟨l,5,none⟩=some (.slice ra R o):=aN 5 ul.out.i
   go_region_held3 (λX=>X ⟨w,0,none⟩=S.nm/\X ⟨w,1,none⟩=S.dk/\X ⟨w,2,none⟩=some (.slice ca S.bB cc)/\X ⟨w,3,none⟩=some (.slice u S.aJ r)/\X ⟨w,4,none⟩=some (.slice (some ⟨rb,aK,none⟩) rs rc)/\X ⟨w,5,none⟩=S.an/\X ⟨l,5,none⟩=some (.slice ra R o)) (first|with_reducible exact⟨v0,T,U,v3,v4,v5,hh⟩|with_reducible exact⟨u0,u1,u2,u3,u4,u5,u6⟩|with_reducible exact⟨O,F,L,K,Q,P,hG⟩|with_reducible exact⟨(fg z).trans v0,(fg z).trans T,(fg z).trans U,(fg z).trans v3,(fg z).trans v4,(fg z).trans v5,(fg z).trans hh⟩|go_keep) (first
    |(have _:=IP;go_at_call 129;(with_reducible refine(CR.out _ IP.out.y.y.x.b _ RP.out _ _ _ IP.out.s.all uc.out R4.out _ _ _ _ R2.out ru.out D5 Fa.out).mono ?_);rintro e QI ⟨⟨j,Y,kl,mf,kE,mD,mh,mE,mF,mj,mG,rfl,C⟩,zL⟩;have d:=A (IP.out.K zL);have r9:=A C;clear zL C;obtain⟨v0,T,U,v3,v4,v5⟩:=gp d.out.y.y.x.g;have hh:QI ⟨l,5,none⟩=some (.slice ra R o):=aN 5 d.out.y.y.i;have ay:=bM d.out.y.v;have JD:=d.out.y.J;have aA:=d.out.aj;have hT:=d.out.G;have hc:=aN 0 d.out.y.v;have z0:=Go.aM.cM (i:=0) d.out.y.v;have f:=aN 1 d.out.y.v;have cC:=Go.aM.cM (i:=1) d.out.y.v;have eW:=aN 2 d.out.y.v;have dC:=Go.aM.cM (i:=2) d.out.y.v;have he:=aN 3 d.out.y.v;have z3:=Go.aM.cM (i:=3) d.out.y.v;have lN:=aN 4 d.out.y.v;have z4:=Go.aM.cM (i:=4) d.out.y.v;have n5:=aN 5 d.out.y.v;have z5:=Go.aM.cM (i:=5) d.out.y.v;have rT:=aN 6 d.out.y.v;have eJ:=Go.aM.cM (i:=6) d.out.y.v;have Sb:=A (d.out.put j (.string Y) kl mf kE (.slice mD mh mE) (.slice mF mj mG)))
    |(have _:=Ft;go_at_call 129;(with_reducible refine(CR.out _ XJ.out.y.y.x.b _ (RP.out.K ((bl _ _).alloc (aY _) _)) _ _ _ XJ.out.s.all uc.out R4.out _ _ _ _ (R2.out.K ((bl _ _).alloc (aY _) _)) ru.out D5 Fa.out).mono ?_);rintro e QI ⟨⟨j,Y,kl,mf,kE,mD,mh,mE,mF,mj,mG,rfl,C⟩,zL⟩;have d:=A (XJ.out.K zL);have r9:=A C;clear zL C;obtain⟨v0,T,U,v3,v4,v5⟩:=gp d.out.y.y.x.g;have hh:QI ⟨l,5,none⟩=some (.slice ra R o):=aN 5 d.out.y.y.i;have ay:=bM d.out.y.v;have JD:=d.out.y.J;have aA:=d.out.aj;have hT:=d.out.G;have hc:=aN 0 d.out.y.v;have z0:=Go.aM.cM (i:=0) d.out.y.v;have f:=aN 1 d.out.y.v;have cC:=Go.aM.cM (i:=1) d.out.y.v;have eW:=aN 2 d.out.y.v;have dC:=Go.aM.cM (i:=2) d.out.y.v;have he:=aN 3 d.out.y.v;have z3:=Go.aM.cM (i:=3) d.out.y.v;have lN:=aN 4 d.out.y.v;have z4:=Go.aM.cM (i:=4) d.out.y.v;have n5:=aN 5 d.out.y.v;have z5:=Go.aM.cM (i:=5) d.out.y.v;have rT:=aN 6 d.out.y.v;have eJ:=Go.aM.cM (i:=6) d.out.y.v;have Sb:=A (d.out.put j (.string Y) kl mf kE (.slice mD mh mE) (.slice mF mj mG)))
    |(have _:=Ft;go_at_call 129;(with_reducible refine(CR.out _ Ft.out.x.b _ RP.out _ _ _ W9.out.all uc.out R4.out _ _ _ _ R2.out ru.out D5 Fa.out).mono ?_);rintro e QI ⟨⟨j,Y,kl,mf,kE,mD,mh,mE,mF,mj,mG,rfl,C⟩,zL⟩;have XK:=A (Ft.out.K zL);have r9:=A C;have ba:=zL.size;have Sb:=A (mc.Eh XK.out (W9.out.MK zL) z ⟨iO,kT,JC⟩ (bC j Y kl mf kE mD mh mE mF mj mG));clear zL C;obtain⟨v0,T,U,v3,v4,v5⟩:=gp XK.out.x.g;have hh:QI ⟨l,5,none⟩=some (.slice ra R o):=aN 5 XK.out.i)
    |(go_at_call 22;(with_reducible refine(AP.out _ ul.out.drew.x.b).mono ?_);rintro e q' ⟨⟨aT,rfl,la⟩,yi⟩;have Ft:=A (ul.out.drew.K yi);have RP:=A la;have W9:=A ((W8.out.MK ((bl _ _).drew)).MK yi);have R2:=A ((W1.out.K ((bl _ _).drew)).K yi);have aB:io<=q'.heap.size:=(by have:=yi.size;have:=ae.out;simp at*;omega);have XJ:=A (mc.Eh Ft.out W9.out aB ⟨iO,kT,JC⟩ fo);clear la yi;obtain⟨u0,u1,u2,u3,u4,u5⟩:=gp Ft.out.x.g;have u6:q' ⟨l,5,none⟩=some (.slice ra R o):=aN 5 Ft.out.i)
    |(go_at_call 22;(with_reducible refine(AP.out _ (ul.out.alloc (.cells fo 44)).drew.x.b).mono ?_);rintro e q' ⟨⟨aT,rfl,la⟩,yi⟩;have IP:=A ((mc.Eh ul.out W8.out (Nat.le_of_eq ae.out.symm) ⟨iO,kT,JC⟩ fo).drew.K yi);have RP:=A la;have R2:=A (((W1.out.K ((bl _ _).alloc (aY _) _)).K ((bl _ _).drew)).K yi);clear la yi;obtain⟨u0,u1,u2,u3,u4,u5⟩:=gp IP.out.y.y.x.g;have u6:q' ⟨l,5,none⟩=some (.slice ra R o):=aN 5 IP.out.y.y.i))
   all_goals(first|(go_step;go_meet;exact⟨_,_,_,_,_,_,_,_,_,_,_,_,rfl,Sb.out,r9.out⟩)|(go_wp2;go_meet;exact⟨_,_,_,_,_,_,_,_,_,_,_,_,rfl,Sb.out,r9.out⟩))
  case rest=>
   obtain⟨G,j,Y,kl,mf,kE,mD,mh,mE,mF,mj,mG,rfl,w0,C⟩:=hcut;have Xx:=A w0;have r9:=A C;clear w0 C ul W8 W1 CR AP ru vn Fa uc R4 ae;go_upto_region 10 with(go_at_call 19;(with_reducible refine(AR.out 8 al al _ (Xx.out.y.y.x.num Z.out nQ.out)).mono ?_);rintro e aG ⟨⟨aF,OQ,aC,rfl⟩,f,g⟩;have Fi:=A (Xx.out.next f g);clear f g)
   generalize (aF==7)=aZ;clear OQ aC;obtain⟨O,F,L,K,Q,P⟩:=gp Fi.out.y.y.x.g;have hG:aG ⟨G,0,none⟩=j:=aN 0 Fi.out.y.v;go_cut [73]from 93 (λx c0=>∃q:Bool,x=.bool q/\(q=false->j=V)/\mc w a n (en S rs ca u cc r rb aK rc) l (gj id cX dy ew kd ra R o 0 bX 0 0 0 none 0 none 0 bX bX none 0 0) cV io ra R G (bC j Y kl mf kE mD mh mE mF mj mG) c0)
   case first=>by_cases DU:j=V;{(have yG:(j !=V)=false:=by simp[DU]);go_region_held3 (λX=>X ⟨w,0,none⟩=S.nm/\X ⟨w,1,none⟩=S.dk/\X ⟨w,2,none⟩=some (.slice ca S.bB cc)/\X ⟨w,3,none⟩=some (.slice u S.aJ r)/\X ⟨w,4,none⟩=some (.slice (some ⟨rb,aK,none⟩) rs rc)/\X ⟨w,5,none⟩=S.an/\X ⟨G,0,none⟩=j) (first|with_reducible exact⟨v0,T,U,v3,v4,v5,hh⟩|with_reducible exact⟨O,F,L,K,Q,P,hG⟩|go_keep) (first|(go_at_call 130;(with_reducible refine(Ww.out _ Fi.out.drew.y.y.x.b).mono ?_);rintro e af ⟨rfl,Oa⟩;have A3:=A (Fi.out.drew.K Oa);clear Oa;obtain⟨v0,T,U,v3,v4,v5⟩:=gp A3.out.y.y.x.g;have hh:af ⟨G,0,none⟩=j:=aN 0 A3.out.y.v));first|(go_step;go_meet;exact⟨_,rfl,λ_=>DU,A3.out⟩)|(go_wp2;go_meet;exact⟨_,rfl,λ_=>DU,A3.out⟩)};{(have yG:(j !=V)=true:=by simp[DU]);clear DU;refine wp_region_held_drew (S:=(λX=>X ⟨w,0,none⟩=S.nm/\X ⟨w,1,none⟩=S.dk/\X ⟨w,2,none⟩=some (.slice ca S.bB cc)/\X ⟨w,3,none⟩=some (.slice u S.aJ r)/\X ⟨w,4,none⟩=some (.slice (some ⟨rb,aK,none⟩) rs rc)/\X ⟨w,5,none⟩=S.an/\X ⟨G,0,none⟩=j)) (by kernel_rfl) ⟨O,F,L,K,Q,P,hG⟩ (λH0=>?_);refine asD (i:=0) (d:=some 66) (v:=?_) rfl rfl (by kernel_rfl) (by kernel_rfl) (by kernel_rfl) (λ_ _ _ h=>h) (Or.inl ⟨by rfl,?_⟩) (by assumption) ?_;rotate_left;{intro W hW;(try dsimp only at hW);(go_simp<;>with_reducible rfl)};(try simp only[Act.put,List.setIfInBounds_toArray,List.set_cons_zero,List.set_cons_succ]);refine asD (i:=1) (d:=some 67) (v:=?_) rfl rfl (by kernel_rfl) (by kernel_rfl) (by kernel_rfl) (λ_ _ _ h=>h) (Or.inl ⟨by rfl,?_⟩) (by assumption) ?_;rotate_left;{intro W hW;(try dsimp only at hW);(go_simp<;>with_reducible rfl)};(try simp only[Act.put,List.setIfInBounds_toArray,List.set_cons_zero,List.set_cons_succ]);refine asD (i:=2) (d:=some 68) (v:=?_) rfl rfl (by kernel_rfl) (by kernel_rfl) (by kernel_rfl) (λ_ _ _ h=>h) (Or.inl ⟨by rfl,?_⟩) (by assumption) ?_;rotate_left;{intro W hW;(try dsimp only at hW);(go_simp<;>with_reducible rfl)};(try simp only[Act.put,List.setIfInBounds_toArray,List.set_cons_zero,List.set_cons_succ]);(refine wpAnyH_ready (rs:=[3]) (by kernel_rfl) (by simp) ?_;refine AllReadyH.cons (o:=_) rfl (λK0 hK=>?_) AllReadyH.nil;go_simp;go_at_call 130;(with_reducible refine(Ww.out _ Fi.out.drew.y.y.x.b).mono ?_);rintro e af ⟨rfl,Oa⟩;have A3:=A (Fi.out.drew.K Oa);clear Oa;obtain⟨v0,T,U,v3,v4,v5⟩:=gp A3.out.y.y.x.g;have hh:af ⟨G,0,none⟩=j:=aN 0 A3.out.y.v;refine hK.out _ _ ⟨v0,T,U,v3,v4,v5,hh⟩ (λH1=>?_);clear hK K0 H0;try simp only[Act.put,List.setIfInBounds_toArray,List.set_cons_zero,List.set_cons_succ]);refine asD (i:=4) (d:=some 70) (v:=?_) rfl rfl (by kernel_rfl) (by kernel_rfl) (by kernel_rfl) (λ_ _ _ h=>h) (Or.inl ⟨by rfl,?_⟩) (by assumption) ?_;rotate_left;{intro W hW;(try dsimp only at hW);(go_simp<;>with_reducible rfl)};(try simp only[Act.put,List.setIfInBounds_toArray,List.set_cons_zero,List.set_cons_succ]);refine asD (i:=5) (d:=some 71) (v:=?_) rfl rfl (by kernel_rfl) (by kernel_rfl) (by kernel_rfl) (λ_ _ _ h=>h) (Or.inl ⟨by rfl,?_⟩) (by assumption) ?_;rotate_left;{intro W hW;(try dsimp only at hW);(go_simp<;>with_reducible rfl)};(try simp only[Act.put,List.setIfInBounds_toArray,List.set_cons_zero,List.set_cons_succ]);refine asD (i:=6) (d:=some 72) (v:=undef) rfl rfl (by kernel_rfl) (by kernel_rfl) (by kernel_rfl) (λ_ _ _ h=>h) (Or.inr ⟨by rfl,rfl⟩) (by assumption) ?_;(try simp only[Act.put,List.setIfInBounds_toArray,List.set_cons_zero,List.set_cons_succ]);refine asD (i:=7) (d:=some 73) (v:=?_) rfl rfl (by kernel_rfl) (by kernel_rfl) (by kernel_rfl) (λ_ _ _ h=>h) (Or.inl ⟨by rfl,?_⟩) (by assumption) ?_;rotate_left;{intro W hW;(try dsimp only at hW);(go_simp<;>with_reducible rfl)};(try simp only[Act.put,List.setIfInBounds_toArray,List.set_cons_zero,List.set_cons_succ]);refine wpAnyH_done (by kernel_rfl) ?_ _;first|(go_step;go_meet;exact⟨_,rfl,λh=>absurd h aq,A3.out⟩)|(go_wp2;go_meet;exact⟨_,rfl,λh=>absurd h aq,A3.out⟩)}
   case rest=>
    clear O F L K Q P hG Xx Fi;obtain⟨q,rfl,aE,w0⟩:=hcut;have Mo:=A w0;clear w0;go_upto_if 73 with fail
    go_cut []from 93 (λc0=>∃k s N D m va cB kv wc,mc w a n (en S rs ca u cc r rb aK rc) l (gj id cX dy ew kd ra R o 0 bX 0 0 0 none 0 none 0 bX bX none 0 0) cV io ra R G (bC k s N D m va 0 cB kv 0 wc) c0/\rt (.mk k s N D m [] [])/\(k=1∨k=2∨k=3))
    case first=>
     cases q
     .have DU:=aE rfl;obtain⟨ak,aI,ch⟩:=r9.out (by rw[DU];exact Gp.out);subst ak;subst aI;go_wp2;go_meet;exact⟨_,_,_,_,_,_,_,_,_,Mo.out,ch,by rw[DU];exact Gp.out⟩
     .obtain⟨O,F,L,K,Q,P⟩:=gp Mo.out.y.y.x.g
      go_wp2_with (first
       |(go_at_call 130;(with_reducible refine(Ww.out _ Mo.out.y.y.x.b).mono ?_);rintro e bf ⟨rfl,ax⟩;have ar:=A (Mo.out.K ax);clear ax)
       |(go_at_call 131;(with_reducible refine(aM.out _ (ar.out.y.y.x.num Z.out nQ.out) V Gp.out).mono ?_);rintro e bg ⟨⟨iC,ajZ,aU,fn,rfl,aw⟩,_,f,g⟩;have y:=A (ar.out.next f g);have aP:=A aw;clear f g aw;have hc:=aN 0 y.out.y.v;have z0:=Go.aM.cM (i:=0) y.out.y.v;have f:=aN 1 y.out.y.v;have cC:=Go.aM.cM (i:=1) y.out.y.v;have eW:=aN 2 y.out.y.v;have dC:=Go.aM.cM (i:=2) y.out.y.v;have he:=aN 3 y.out.y.v;have z3:=Go.aM.cM (i:=3) y.out.y.v;have lN:=aN 4 y.out.y.v;have z4:=Go.aM.cM (i:=4) y.out.y.v;have n5:=aN 5 y.out.y.v;have z5:=Go.aM.cM (i:=5) y.out.y.v;have rT:=aN 6 y.out.y.v;have eJ:=Go.aM.cM (i:=6) y.out.y.v;have ay:=bM y.out.y.v))
      go_meet;exact⟨_,_,_,_,_,_,_,_,_,y.out.put _ _ _ _ _ _ _,aP.out,Gp.out⟩
    case rest=>clear r9 aE Mo;obtain⟨k,s,N,D,m,va,cB,kv,tR,w0,C,ab⟩:=hcut;have m2:=A w0;have r9:=A C;have gi:=A ab;clear w0 C ab;go_step;exact aKw Iq.out id a n Z.out nQ.out av m2.out r9.out gi.out Gf rM _ _ _ _ _ _ _ _ _ _ _ _ _ _ _ _ _ _ _ _ _ _ _ _ _ _ _ _ _ _ _ _ _ _ _ _ _ _ _ _ _ _ _ _ _ _ _ _ _ _ _ _ _ _ _ _ _ _ _ _ _ _ _ _ _ _ _ _ _ _ _ _ _ _ _ _ _ _ _ _ _ _ _ _ _ _ _ _
end Go.bE
namespace Go.bE
open Go Go.Proofs.Tryz Go.Proofs Go.RowKit Go.Lib Go.aM
def abv:(prog.info? 47).map (λi=>(i.zero,i.size,i.bytes))=some (some (.agg uP),16,216):=aw
variable{B:Nat->Prop}{w w':Γ}{F:Ω}{x:b2}
def gT.eB(h:gT B w F x)(G:eR B w w'):gT B w' F x:=by let⟨e,d,k,s,N,S,n,ca,cc,ra,rc,aO,c,H,I,b,a⟩:=h;exact⟨e,d,k,s,N,S,n,ca,cc,ra,rc,aO,c,H,I,b.eB (aR.mono B 1) G,a.eB G⟩
variable{B':Nat->Prop}
def gT.low(a:∀b,B b->B' b)(h:gT B w F x):gT B' w F x:=by let⟨g,f,k,s,N,S,n,ca,cc,ra,rc,aO,e,H,I,d,c⟩:=h;exact⟨g,f,k,s,N,S,n,ca,cc,ra,rc,aO,e,H,I,d.low a (λ_ _ _ J=>J.low a),c.low a⟩
def gT.lt(h:gT B w F x):gT (λb=>B b/\b<w) w F x:=by let⟨f,e,k,s,N,S,n,ca,cc,ra,rc,aO,d,H,I,c,a⟩:=h;exact⟨f,e,k,s,N,S,n,ca,cc,ra,rc,aO,d,H,I,c.lt (λ_ _ J=>J.lt),a.lt⟩
def gT.size(h:gT B w F x):F.size=16:=by obtain⟨c,b,k,s,N,S,n,ca,cc,ra,rc,aO,a,rfl,_⟩:=h;rfl
variable{n cap:Nat}{o:Obj}{v:Φ}{u:b2}
def gT.push{base g:Nat}(ar:(w.alloc o).grownBy w' v.ownBlock)(fG:v.ownBlock=some g∨g=w.heap.size+1)(h:gT (i_ base v) w F u):gT (i_ base (.slice (some ⟨g,0,none⟩) n cap)) w' F u:=by exact aEI
def FX:∀(a:List Ω) (_:∀F∈a,F.size=16) (j:Nat) (b:j<a) (i:Nat) (_:i<16),(a.flatMap Array.toList)[j*16+i]? =a[j][i]?
 |F::a,h,0,_,i,hi=>by have c:=h F aq;rw[yN,CM (by rw[iV];omega)];simp
 |F::a,h,j+1,b,i,hi=>by have c:=h F aq;rw[yN,EP (by rw[iV];omega),iV,c];rw[show(j+1)*16+i-16=j*16+i by omega];exact FX a (λd e=>h d (jw _ e)) j (by simpa using b) i hi
structure mW (base:Nat) (w:Γ) (v:Φ) (l:List b2):Prop where
 o:∃ce:List Ω,ce.length=l.length/\w.ownsRow base 47 16 v l.length (ce.flatMap Array.toList)/\∀j (H:j<ce.length) (I:j<l.length),gT (i_ base v) w ce[j] l[j]
def mW.nil(base:Nat)(w:Γ):mW base w (.slice none 0 0) []:=⟨[],rfl,ne _ _ _ _,λj H=>by cases H⟩
variable{l:List b2}
def mW.gX{base:Nat}(h:mW base w v l):∃a c,v=.slice a l c:=by let⟨d,H,I,b⟩:=h.o;exact UA
def mW.lt{base:Nat}(h:mW base w v l):∀g,v.ownBlock=some g->base<=g/\g<w.heap.size:=by let⟨b,H,I,a⟩:=h.o;exact I.lt
def mW.eB{base:Nat}(h:mW base w v l)(Q:eR (fj base) w w'):mW base w' v l:=by exact ao5
def mW.K{base:Nat}(h:mW base w v l)(G:β w w'):mW base w' v l:=h.eB (.hs G)
def mW.pf{base:Nat}(h:mW base w v l)(c:w.heap.size<=n)(G:base<=n)(J:gT (fj n) w' F u):gT (i_ base v) w' F u:=
 J.low λb a=>⟨c6 G a,λe=>by have:=(h.lt b e.symm).2;have:n<=b:=a;omega⟩
def mW.push{base:Nat}{w w':Γ}{v:Φ}{l:List b2}(h:mW base w v l){F:Ω}{u:b2}(i:gT (i_ base v) w F u){o:Obj}{g cap:Nat}(ar:(w.alloc o).grownBy w' v.ownBlock)(d:v.ownBlock=some g∨g=w.heap.size+1){a:List Ω}(e:a.length=l.length)(f:∀j (H:j<a.length) (I:j<l.length),gT (i_ base v) w a[j] l[j]) (k:w'.ownsRow base 47 16 (.slice (some ⟨g,0,none⟩) (l.length+1) cap) (l.length+1) (a.flatMap Array.toList++F.toList)):mW base w' (.slice (some ⟨g,0,none⟩) (l.length+1) cap) (l++[u]):=by
 refine⟨a++[F],by simp[e],by simpa using k,λj a' m=>?_⟩;by_cases c:j<a.length
 .have b:j<l.length:=z;rw[xI c,xI b];exact(f j c b).push ar d
 .have b:¬j<l.length:=z;rw[xJ z,xJ z];simp only[Rk];exact i.push ar d
def kN(B:Nat->Prop)(w:Γ)(a:Θ)(l:List b2):Prop:=l.length<=12/\(0<l.length->∃b,a=some ⟨b,0,none⟩/\B b/\(∃c,w.heap[b]? =some (.cells c 47 (0,0)))/\∀j (d:j<l.length),∃F,gT (λx=>B x/\x≠b) w F l[j]/\∀i,i<16->w ⟨b,j*16+i,none⟩=F[i]?)
variable{a:Θ}
def kN.eB(h:kN B w a l)(c:eR B w w'):kN B w' a l:=
 ⟨h.1,λaf=>by
  let⟨b,e,d,⟨m,g⟩,k⟩:=h.2 af
  have f:=bM g
  refine⟨b,e,d,⟨m,(c.2 b d f).trans g⟩,λj n=>?_⟩
  let⟨F,H,I⟩:=k j n
  exact⟨F,H.eB (c.yL λ_ h=>h.1),λi hi=>(c.cell d f).trans (I i hi)⟩⟩
def kN.K(h:kN B w a l)(G:β w w'):kN B w' a l:=h.eB (.hs G)
def kN.low(c:∀b,B b->B' b)(h:kN B w a l):kN B' w a l:=
 ⟨h.1,λaf=>by
  let⟨b,e,H,I,f⟩:=h.2 af
  refine⟨b,e,c _ H,I,λj i=>?_⟩
  let⟨F,g,d⟩:=f j i
  exact⟨F,g.low λ_ h=>⟨c _ h.1,h.2⟩,d⟩⟩
def mW.Um{base:Nat}(h:mW base w v l)(u:l.length<=12):∃a c,v=.slice a l c/\kN (fj base) w a l:=by
 let⟨k,H,I,o⟩:=h.o;obtain⟨a,c,rfl⟩:=h.gX;refine⟨a,c,rfl,u,λaf=>?_⟩;have t:∀F∈k,F.size=16:=λF d=>by let⟨j,f,e⟩:=AI.1 d;have J:=o j f z;rw[e]at J;exact J.size
 have x:=I;rcases I.2 with⟨y,A⟩|⟨g,cap,s,ak,q,r,B,D,E,K⟩
 omega
 .injection ak with m _ _
  refine⟨g,m,q,⟨s,r⟩,λj f=>?_⟩;have d:=o j z f;refine⟨k[j],d.low λb G=>⟨G.1,λe=>G.2 (by rw[m,e];rfl)⟩,λi hi=>?_⟩;have C:=d.size;have n:=FX k t j z i hi;rw[VO z]at n|-;have:=x.cells (g:=g) (by rw[m];rfl) (j*16+i) _ n;rw[AD,gy]at this;exact this
def b2.EJ(x:b2)(i:Int):b2:={x with id:=i}
def kN.arP{b:Nat}(h:kN B w (some ⟨b,0,none⟩) l)(k:Nat)(D:k<l)(x:Int):kN B (w.setCell ⟨b,k*16,none⟩ x) (some ⟨b,0,none⟩) (l.set k (l[k].EJ x)):=by
 refine⟨by rw[pY];exact h.1,λ_=>?_⟩;let⟨E,e,t,⟨G,g⟩,m⟩:=h.2 z;cases e;refine⟨b,rfl,t,⟨_,h' g _⟩,λj f=>?_⟩;rw[pY]at f;let⟨F,H,I⟩:=m j f;have a:eR (λx=>B x/\x≠b) w (w.setCell ⟨b,k*16,none⟩ x):=(eR.refl _ w).set (λh=>h.2 rfl) _ _;by_cases d:k=j
 .subst d;obtain⟨C,A,y,s,N,S,n,ca,cc,ra,rc,aO,q,rfl,r,o,u⟩:=H;refine⟨_,⟨C,A,y,s,N,S,n,ca,cc,ra,rc,aO,q,rfl,by rw[H4];exact r,by rw[H4];exact o.eB (aR.mono _ 1) a,by rw[H4];exact u.eB a⟩,λi hi=>?_⟩;simp only[H4];rcases Ro i with rfl|af
  have c:=I 0 hi;rw[hY]at c|-;rw[afn _ _ _ c];rfl
  .rw[V9 _ _ _ _ (λe=>by injection e with _ e _;omega),I i hi];rcases i with _|i
   omega;rfl
 refine⟨F,by rw[Rj d];exact H.eB a,λi hi=>?_⟩;rw[V9 _ _ _ _ (λe=>by injection e with _ e _;omega),I i hi]
end Go.bE
namespace Go.bE
structure iM (C:Type) where
 id:Int
 St:Int
 time:Int
 rest:C
variable {C:Type}
def later(a b:iM C):Bool:=if a.time=b.time then decide (a.St>b.St)else decide (a.time>b.time)
def le(i b:iM C):Prop:=b.time>i.time∨b.time=i.time/\b.St≥i.St
def le.refl(i:iM C):le i i:=.inr ⟨rfl,Int.le_refl _⟩
def le.trans{a b c:iM C}(h:le a b)(k:le b c):le a c:=by unfold le at*;omega
def aD7{a b:iM C}(h:later a b=true):le b a:=by unfold later at h;unfold le;split at h<;>simp at h<;>omega
def aD8{a b:iM C}(h:later a b=false):le a b:=by unfold later at h;unfold le;split at h<;>simp at h<;>omega
def step(id:Int)(o:Option (iM C))(i:iM C):Option (iM C):=
 if i.id=id then(match o with|none=>some i|some a=>if later a i then some a else some i)else o
def mA(l:List (iM C))(id:Int):Option (iM C):=l.foldl (step id) none
def zi(l:List (iM C))(i:iM C)(id:Int):mA (l++[i]) id=step id (mA l id) i:=by simp[mA]
def Sv(id:Int):∀(n:Nat) (l:List (iM C)),l.length=n-> (∀b,mA l id=some b->b∈l/\b.id=id/\∀i∈l,i.id=id->le i b)/\(mA l id=none->∀i∈l,i.id≠id):=by
 intro n;induction n with
 |zero=>intro l d;obtain rfl:=CN.1 d;exact⟨λb h=>(by cases h),λ_ i hi=>(by cases hi)⟩
 |succ n o=>
  intro l d;obtain⟨k,i,rfl⟩:∃k i,l=k++[i]:=by
   have m:l≠[]:=by intro h;rw[h]at d;cases d
   exact⟨l.dropLast,l.getLast m,(atm m).symm⟩
  let⟨H,I⟩:=o k (by simpa using d);rw[zi];unfold step;by_cases hi:i.id=id
  .rw[ci hi];cases G:mA k id with
   |none=>
    refine⟨λb h=>?_,λh=>by cases h⟩;obtain rfl:i=b:=gm h;refine⟨aq,hi,λj c e=>?_⟩;rcases kx.1 c with c|c
    exact absurd e (I G j c)
    .obtain rfl:=oQ.1 c;exact le.refl _
   |some a=>
    let⟨aL,g,f⟩:=H a G;by_cases d:later a i=true
    .simp only[d,oR];refine⟨λb h=>?_,λh=>by cases h⟩;obtain rfl:a=b:=gm h;refine⟨kx.2 (.inl aL),g,λj c e=>?_⟩;rcases kx.1 c with c|c
     exact f j c e;obtain rfl:=oQ.1 c;exact aD7 d
    .have d:later a i=false:=by simpa using d
     simp only[d,re,pZ];refine⟨λb h=>?_,λh=>by cases h⟩;obtain rfl:i=b:=gm h;refine⟨aq,hi,λj c e=>?_⟩;rcases kx.1 c with c|c
     exact(f j c e).trans (aD8 d);obtain rfl:=oQ.1 c;exact le.refl _
  .rw[bo hi];refine⟨λb h=>?_,λh j c=>?_⟩
   .obtain⟨aL,g,f⟩:=H b h;refine⟨kx.2 (.inl aL),g,λj c e=>?_⟩;rcases kx.1 c with c|c
    exact f j c e;obtain rfl:=oQ.1 c;exact absurd e hi
   rcases kx.1 c with c|c;exact I h j c;obtain rfl:=oQ.1 c;exact hi
structure ic (l R:List (iM C)):Prop where
 BO:R.Pairwise (λa b=>a.id<b.id)
 GH:∀x∈R,mA l x.id=some x
 all:∀i∈l,∃x∈R,x.id=i.id
def amX:∀(R S:List (iM C)),R.Pairwise (λa b=>a.id<b.id)->S.Pairwise (λa b=>a.id<b.id)->(∀x∈R,x∈S)->(∀x∈S,x∈R)->R=S
 |[],[],_,_,_,_=>rfl
 |[],y::S,_,_,_,h=>by have:=h y aq;cases this
 |x::R,[],_,_,h,_=>by have:=h x aq;cases this
 |x::R,y::S,l,j,H,I=>by have i:=H x aq;have g:=I y aq;have d:=Lg.1 l;have f:=Lg.1 j;(have e:x=y:=by rcases gJ.1 i with h|h;exact h;rcases gJ.1 g with k|k;exact k.symm;have a:=d.1 y k;have b:=f.1 x h;omega);subst e;congr 1;refine amX R S d.2 f.2 (λai c=>?_) (λai c=>?_);{(rcases gJ.1 (H ai (jw _ c))with h|h);subst h;have:=d.1 ai c;omega;exact h};{(rcases gJ.1 (I ai (jw _ c))with h|h);subst h;have:=f.1 ai c;omega;exact h}
def ic.pe{l R:List (iM C)}(h:ic l R){x:iM C}(a:x∈R):x∈l:=((Sv x.id _ l rfl).1 x (h.GH x a)).1
def ic.NA{l R S:List (iM C)}(h:ic l R)(k:ic l S):R=S:=by
 have key:∀{R S:List (iM C)},ic l R->ic l S->∀x∈R,x∈S:=λh k x b=>by let⟨y,a,e⟩:=k.all x (h.pe b);have:=k.GH y a;rw[e,h.GH x b]at this;obtain rfl:=gm this;exact a
 exact amX R S h.BO k.BO (key h k) (key k h)
def aC8{R:List (iM C)}(h:R.Pairwise (λa b=>a.id<b.id)){x y:iM C}(c:x∈R)(d:y∈R)(e:x.id=y.id):x=y:=by
 induction R with
 |nil=>cases c
 |cons ai R f=>
  have p:=Lg.1 h;rcases gJ.1 c with c|c<;>rcases gJ.1 d with d|d
  rw[c,d];rw[c]at e;have:=p.1 y d;omega;rw[d]at e;have:=p.1 x c;omega;exact f p.2 c d
variable {C:Type}
def ic.nil:ic ([]:List (iM C)) []:=⟨.nil,λ_ h=>(by cases h),λ_ h=>(by cases h)⟩
def ic.X2{l R:List (iM C)}(h:ic l R){x y:iM C}(a:y∈R)(e:x.id≠y.id):mA (l++[x]) y.id=some y:=by rw[zi];unfold step;rw[bo e,h.GH y a]
def Uf{R:List (iM C)}(h:R.Pairwise (λa b=>a.id<b.id)){i j:Nat}(d:i<j)(c:j<R):(R[i]'(Lm d c)).id<R[j].id:=
 Lh.1 h i j (Lm d c) c d
def ic.O5{l R:List (iM C)}{x:iM C}(h:ic l R)(n:Nat)(s:n<=R.length)(au:∀j (f:j<R.length),j<n->R[j].id<x.id)(r:∀f:n<R.length,x.id<R[n].id): ic (l++[x]) (R.take n++x::R.drop n):=by
 have m:∀y∈R.take n,y.id<x.id:=λy c=>by obtain⟨j,f,rfl⟩:=EQ c;rw[mw]at f;rw[Wg];exact au j z z
 have o:∀y∈R.drop n,x.id<y.id:=λy c=>by obtain⟨j,f,rfl⟩:=EQ c;rw[pm]at f;rw[Ri];have af:=r z;by_cases e:j=0;{subst e;exact af};{exact Int.lt_trans af (Uf h.BO z z)}
 have k:∀y∈R,y.id≠x.id:=λy c=>by(rw[<-xL n R]at c;rcases kx.1 c with c|c);{have:=m y c;omega};{have:=o y c;omega}
 refine⟨?_,λy c=>?_,λi hi=>?_⟩
 .rw[aty];have ag:=h.BO;rw[<-xL n R,aty]at ag;refine⟨ag.1,Lg.2 ⟨o,ag.2.1⟩,λa aL b G=>?_⟩;rcases gJ.1 G with rfl|G
  .exact m a aL
  .exact ag.2.2 a aL b G
 .have g:y=x∨y∈R:=by(rcases kx.1 c with c|c);{exact .inr (Lf c)};{(rcases gJ.1 c with c|c);{exact .inl c};{exact .inr (afF c)}}
  rcases g with rfl|g
  .rw[zi];unfold step;rw[ci rfl];cases G:mA l y.id with
   |none=>rfl
   |some a=>obtain⟨aL,q,_⟩:=(Sv y.id _ l rfl).1 a G;obtain⟨ai,d,e⟩:=h.all a aL;exact absurd (e.trans q) (k ai d)
  .exact h.X2 g (λe=>k y g e.symm)
 .rcases kx.1 hi with hi|hi
  .obtain⟨ai,d,e⟩:=h.all i hi;refine⟨ai,?_,e⟩;rw[<-xL n R]at d;rcases kx.1 d with d|d
   .exact afD _ d
   .exact afE _ (jw _ d)
  .obtain rfl:=oQ.1 hi;exact⟨i,aq,rfl⟩
def aD2{a b:iM C}(h:le a b):later a b=false:=by unfold le at h;unfold later;split<;>simp<;>omega
def aD3{a b:iM C}(h:¬le a b):later a b=true:=by unfold le at h;unfold later;split<;>simp<;>omega
def ic.hN{l R:List (iM C)}{x:iM C}(h:ic l R)(n:Nat)(a:n<R)(aP:R[n].id=x.id)(c:¬le R[n] x):ic (l++[x]) R:=by refine⟨h.BO,λy b=>?_,λi hi=>?_⟩;by_cases e:x.id=y.id;have:=aC8 h.BO b (fp a) (by rw[aP,e]);subst this;rw[zi];unfold step;rw[ci e,h.GH _ (fp a)];show(if later R[n] x=true then _ else _)=_;rw[aD3 c,ci rfl];exact h.X2 b e;rcases kx.1 hi with hi|hi;exact h.all i hi;obtain rfl:=oQ.1 hi;exact⟨R[n],fp a,aP⟩
def ic.db{l R:List (iM C)}{x:iM C}(h:ic l R)(n:Nat)(f:n<R)(aP:R[n].id=x.id)(k:le R[n] x):ic (l++[x]) (R.set n x):=by
 refine⟨?_,λy b=>?_,λi hi=>?_⟩;rw[Lh];intro i j hi a m;rw[pY]at hi a;have:=Uf h.BO m a;rw[H3,H3];by_cases ak:n=i<;>by_cases d:n=j;omega;subst ak;rw[ci rfl,bo d];omega;subst d;rw[ci rfl,bo ak];omega;rw[bo ak,bo d];exact this
 .obtain⟨j,a,rfl⟩:=EQ b;rw[pY]at a;rw[H3];by_cases e:n=j;rw[ci e,zi];unfold step;rw[ci rfl,<-aP,h.GH _ (fp f)];show(if later R[n] x=true then _ else _)=_;rw[aD2 k];rfl
  .rw[bo e];refine h.X2 (fp a) λc=>e ?_;rcases Rq n j with q|q|q
   have:=Uf h.BO q a;omega;exact q;have:=Uf h.BO q f;omega
 .have key:∀ai∈R,∃y∈R.set n x,y.id=ai.id:=λai g=>by obtain⟨j,a,rfl⟩:=EQ g;refine⟨(R.set n x)[j]'(by simpa using a),fp _,?_⟩;rw[H3];by_cases e:n=j;subst e;rw[ci rfl,aP];rw[bo e]
  rcases kx.1 hi with hi|hi;let⟨ai,g,e⟩:=h.all i hi;let⟨y,b,c⟩:=key ai g;exact⟨y,b,c.trans e⟩;obtain rfl:=oQ.1 hi;let⟨y,b,c⟩:=key _ (fp f);exact⟨y,b,c.trans aP⟩
inductive p2 {g7 B:Type} (p:g7->Prop) (f:g7->B):List g7->List B->Prop where
 |nil:p2 p f [] []
 |skip {l:List g7} {r:List B} {x:g7}:p2 p f l r->(p x∨f x∈r)->p2 p f (l++[x]) r
 |d_ {l:List g7} {r:List B} {x:g7}:p2 p f l r->¬p x->f x∉r->p2 p f (l++[x]) (r++[f x])
def p2.am7{a B:Type}{p:a->Prop}{f:a->B}{k l:List a}{r:List B}{x:a}(h:p2 p f k r)(e:k=l++[x]):(p2 p f l r/\(p x∨f x∈r))∨ ∃s,r=s++[f x]/\p2 p f l s/\¬p x/\f x∉s:=by
 cases h with
 |nil=>simp at e
 |skip h g=>obtain⟨rfl,ak⟩:=List.append_inj' e rfl;obtain rfl:=atA.1 ak;exact .inl ⟨h,g⟩
 |d_ h g b=>obtain⟨rfl,ak⟩:=List.append_inj' e rfl;obtain rfl:=atA.1 ak;exact .inr ⟨_,rfl,h,g,b⟩
def p2.NA{q B:Type}{p:q->Prop}{f:q->B}:∀(n:Nat) (l:List q),l.length=n->∀{r s:List B},p2 p f l r->p2 p f l s->r=s/\r.length<=n:=by
 intro n;induction n with
 |zero=>
  intro l g r s h k;obtain rfl:=CN.1 g;have key:∀{l:List q} {r:List B},p2 p f l r->l=[]->r=[]:=λh e=>by
   cases h with
   |nil=>rfl
   |skip=>simp at e
   |d_=>simp at e
  rw[key h rfl,key k rfl];exact⟨rfl,aY _⟩
 |succ n o=>
  intro l g r s h k;obtain⟨m,i,rfl⟩:∃k i,l=k++[i]:=by
   have t:l≠[]:=by intro h;rw[h]at g;cases g
   exact⟨l.dropLast,l.getLast t,(atm t).symm⟩
  have j:m.length=n:=by simpa using g
  rcases h.am7 rfl with⟨a,b⟩|⟨w,rfl,a,b,c⟩<;>rcases k.am7 rfl with⟨a',d⟩|⟨x,rfl,a',d,u⟩
  have:=o m j a a';exact⟨this.1,z⟩
  .have:=(o m j a a').1;subst this;rcases b with b|b
   exact absurd b d;exact absurd b u
  .have:=(o m j a a').1;subst this;rcases d with d|d
   exact absurd d b;exact absurd d c
  let⟨e,g⟩:=o m j a a';subst e;exact⟨rfl,bw⟩
end Go.bE
namespace Go.bE
open Go Go.Proofs Go.RowKit Go.Lib Go.aM
def P9{a:Type}:List a->Nat->List a->List a
 |aH,_,[]=>aH
 |aH,i,v::l=>P9 (aH.set i v) (i+1) l
def arQ{a:Type}:∀(l aH:List a) (i q:Nat),(P9 aH i l)[q]? =if i<=q/\q<i+l.length/\q<aH then l[q-i]? else aH[q]?
 |[],aH,i,q=>by rw[bo (by simp only[tV];omega)];rfl
 |v::l,aH,i,q=>by show(P9 (aH.set i v) (i+1) l)[q]? =_;rw[arQ l (aH.set i v) (i+1) q];simp only[l8,pY];by_cases e:q=i;{subst e;rw[bo z];by_cases h:q<aH;{rw[ci z,atr h,afL];rfl};{rw[bo z,rh (by simpa using h),rh z]}};{by_cases h:i+1<=q/\q<i+1+l.length/\q<aH;{rw[ci h,ci z,show q-i=(q-(i+1))+1 by omega];rfl};{rw[bo h,bo z,List.getElem?_set_ne z]}}
def S6:∀(a:List Ω) (_:∀F∈a,F.size=16),(a.flatMap Array.toList).length=a.length*16
 |[],_=>rfl
 |F::a,h=>by rw[yN,ir,S6 a (λb c=>h b (jw _ c)),iV,h F aq,l8];omega
def azF(a:List Ω)(h:∀F∈a,F.size=16)(k:Nat)(j:k<a)(F:Ω)(g:F.size=16):P9 (a.flatMap Array.toList) (k*16) F.toList=(a.set k F).flatMap Array.toList:=by
 have d:∀b∈a.set k F,b.size=16:=λb c=>by rcases atw c with c|rfl;exact h b c;exact g
 have b7:=S6 a h;have cw:=S6 (a.set k F) d;rw[pY]at cw;refine Lb λq=>?_;rw[arQ,iV,g,b7];by_cases l:q<a.length*16;have f:q/16<a.length:=z;have hi:q%16<16:=z;have e:q=q/16*16+q%16:=z;have bZ:=FX a h (q/16) f (q%16) hi;have cz:=FX (a.set k F) d (q/16) (by simpa using f) (q%16) hi;rw[<-e]at bZ cz;rw[bZ,cz,H3];by_cases i:k=q/16;rw[ci z,ci i,vc,show q-k*16=q%16 by omega];rw[bo z,bo i];rw[bo z,rh z,rh z]
def aqf{base:Nat}{e:TypeId}{size g n cap:Nat}:∀(l aH:List Φ) (W:Γ) (i:Nat),W.ownsRow base e size (.slice (some ⟨g,0,none⟩) n cap) n aH->(World.setCells W g i l).ownsRow base e size (.slice (some ⟨g,0,none⟩) n cap) n (P9 aH i l)
 |[],_,_,_,h=>h
 |v::l,aH,W,i,h=>aqf l (aH.set i v) _ (i+1) (h.stored i v).1
structure m0 (w:Γ) (ce:List Ω) (R:List b2):Prop where
 len:ce.length=R.length
 ff:∀j (H:j<ce.length) (I:j<R.length),gT aD w ce[j] R[j]
variable{w:Γ}
def m0.KD{b:List Ω}{R:List b2}(h:m0 w b R):∀F∈b,F.size=16:=λF c=>by
 obtain⟨j,a,rfl⟩:=AI.1 c
 exact(h.ff j a (h.len▸a)).size
def m0.nil(w:Γ):m0 w [] []:=⟨rfl,λ_ h=>absurd h (wu _)⟩
variable{a:List Ω}{F:Ω}
def m0.set{R:List b2}(h:m0 w a R)(k:Nat){x:b2}(b:gT aD w F x):m0 w (a.set k F) (R.set k x):=
 ⟨by simp[h.len],λj H I=>by
  rw[H3,H3]
  by_cases e:k=j
  .rw[ci e,ci e];exact b
  .rw[bo e,bo e];exact h.ff j (by simpa using H) (by simpa using I)⟩
def m0.A_{c:List Ω}{R S:List b2}(h:m0 w a R)(k:m0 w c S):m0 w (a++c) (R++S):=
 ⟨by simp[h.len,k.len],λj H I=>by
  by_cases e:j<a
  .have b:j<R.length:=h.len▸e
   rw[xI e,xI b];exact h.ff j e b
  .have b:¬j<R.length:=h.len▸e
   rw[xJ z,xJ z]
   have:=k.ff (j-a.length) (by simp at H;omega) (by simp at I;have:=h.len;omega)
   simpa only[h.len]using this⟩
def m0.take{R:List b2}(h:m0 w a R)(n:Nat):m0 w (a.take n) (R.take n):=
 ⟨by simp[h.len],λj H I=>by rw[Wg,Wg];exact h.ff j (by simp at H;omega) (by simp at I;omega)⟩
def m0.drop{R:List b2}(h:m0 w a R)(n:Nat):m0 w (a.drop n) (R.drop n):=
 ⟨by simp[h.len],λj H I=>by rw[Ri,Ri];exact h.ff (n+j) (by simp at H;omega) (by simp at I;omega)⟩
def m0.xn{x:b2}(h:gT aD w F x):m0 w [F] [x]:=
 ⟨rfl,λj H I=>by
  have e:j=0:=(by simpa using H)
  subst e;exact h⟩
structure kh (w W:Γ) (v:Φ) (ce:List Ω) (R:List b2):Prop where
 o:W.ownsRow w.heap.size 47 16 v R.length (ce.flatMap Array.toList)
 l:m0 w ce R
def kh.nil(w W:Γ):kh w W (.slice none 0 0) [] []:=⟨ne _ _ _ _,m0.nil w⟩
variable{W:Γ}{v:Φ}
def kh.gX{e:List Ω}{R:List b2}(h:kh w W v e R):∃a c,v=.slice a R c:=by
 rcases h.o.2 with⟨b,d⟩|⟨i,cap,g,ak,f,_⟩
 rw[d];exact⟨_,_,b⟩;exact⟨_,_,ak⟩
def kh.K{W':Γ}{R:List b2}(h:kh w W v a R)(G:β W W'):kh w W' v a R:=
 ⟨uS h.o (.hs G),h.l⟩
def kh.Ul{w W:Γ}{v:Φ}{a:List Ω}{R:List b2}(h:kh w W v a R)(af:0<R.length):∃g cap,v=.slice (some ⟨g,0,none⟩) R.length cap/\R.length<=cap/\w.heap.size<=g/\g<W.heap.size/\(∃b,W.heap[g]? =some (.cells b 47 (0,0)))/\∀j (k:j<R.length) (e:j<a.length) i,i<16->W ⟨g,j*16+i,none⟩=a[j][i]? :=by
 have c:=h.o;rcases c.2 with⟨m,n⟩|⟨g,cap,b,rfl,f,d,l,o,q,r⟩
 .omega
 .refine⟨g,cap,rfl,l,f,bM d,⟨b,d⟩,λj k e i hi=>?_⟩;rw[c.cellAt (j*16+i) z];exact FX a h.l.KD j e i hi
def kh.set{g cap:Nat}{R:List b2}(h:kh w W (.slice (some ⟨g,0,none⟩) R cap) a R)(k:Nat)(d:k<R){x:b2}(b:gT aD w F x): kh w (World.setCells W g (k*16) F.toList) (.slice (some ⟨g,0,none⟩) (R.set k x).length cap) (a.set k F) (R.set k x):=by have c:=h.l.len;refine⟨?_,h.l.set k b⟩;rw[<-azF a h.l.KD k z F b.size,pY];exact aqf _ _ _ _ h.o
def kh.Um{w W:Γ}{v:Φ}{d:List Ω}{R:List b2}(h:kh w W v d R)(G:β w W)(q:R.length<=12):∃a c,v=.slice a R.length c/\kN aD W a R:=by
 obtain⟨a,c,J⟩:=h.gX;refine⟨a,c,J,q,λaf=>?_⟩;obtain⟨g,cap,ak,_,ar,_,k,l⟩:=h.Ul af;have r:=h.l.len;rw[J]at ak;injection ak with o _ _
 refine⟨g,o,gL,k,λj f=>⟨d[j],?_,λi hi=>l j f z i hi⟩⟩;have m:gT (λb=>aD b/\b<w.heap.size) w d[j] R[j]:=(h.l.ff j z f).lt;exact(m.eB ⟨G.size,λb H I=>G.block b I⟩).low λb n=>⟨gL,λe=>by have:=n.2;omega⟩
end Go.bE
namespace Go.Proofs
open Go.Proofs.Tryz Go.Shelf
def sortA_ren:Go.Shelf.Ren:=⟨fun|5=>25|8=>59|7=>58|19=>143|20=>144|10=>134|11=>135|12=>136|13=>137|14=>138|15=>139|16=>140|17=>141|18=>142|30=>218|31=>219|32=>220|33=>221|34=>222|35=>223|40=>311|n=>n,fun|23=>22|25=>3|3=>3|32=>117|22=>22|0=>0|44=>189|46=>191|4=>4|36=>182|35=>181|41=>66|5=>5|9=>9|53=>271|57=>275|63=>344|64=>235|n=>n,fun|n=>n⟩
def sortA:Go.Proofs.SlLaysM.n5 prog sortA_ren:={
 mixed:=aw
 f5:=⟨f25.name,al,func25.trans (iY some aw)⟩
 f7:=⟨f58.name,al,func58.trans (iY some aw)⟩
 f8:=func59.trans (iY some aw)
 f10:=⟨f134.name,al,func134.trans (iY some aw)⟩
 f11:=⟨f135.name,al,func135.trans (iY some aw)⟩
 f12:=⟨f136.name,al,func136.trans (iY some aw)⟩
 f13:=⟨f137.name,al,func137.trans (iY some aw)⟩
 f14:=⟨f138.name,al,func138.trans (iY some aw)⟩
 f15:=⟨f139.name,al,func139.trans (iY some aw)⟩
 f16:=⟨f140.name,al,func140.trans (iY some aw)⟩
 f17:=⟨f141.name,al,func141.trans (iY some aw)⟩
 f18:=⟨f142.name,al,func142.trans (iY some aw)⟩
 f19:=func143.trans (iY some aw)
 f20:=func144.trans (iY some aw)
 f30:=⟨f218.name,al,func218.trans (iY some aw)⟩
 f31:=func219.trans (iY some aw)
 f32:=func220.trans (iY some aw)
 f33:=⟨f221.name,al,func221.trans (iY some aw)⟩
 f34:=⟨f222.name,al,func222.trans (iY some aw)⟩
 f35:=⟨f223.name,al,func223.trans (iY some aw)⟩
 f40:=⟨f311.name,al,func311.trans (iY some aw)⟩
 t0:=underlying0
 a0:=isAgg0
 z0:=sizeOf0
 v0:=zeroValue0
 t3:=vd
 a3:=isAgg3
 z3:=sizeOf3
 v3:=zeroValue3
 t4:=underlying4
 a4:=isAgg4
 z4:=sizeOf4
 v4:=zeroValue4
 t5:=xH
 a5:=isAgg5
 z5:=sizeOf5
 v5:=zeroValue5
 t9:=K6
 a9:=isAgg9
 z9:=sizeOf9
 v9:=zeroValue9
 t22:=pj
 a22:=isAgg22
 z22:=sizeOf22
 v22:=zeroValue22
 t23:=pj
 a23:=isAgg22
 z23:=sizeOf22
 v23:=zeroValue22
 t25:=vd
 a25:=isAgg3
 z25:=sizeOf3
 v25:=zeroValue3
 t32:=underlying117
 a32:=isAgg117
 z32:=sizeOf117
 v32:=zeroValue117
 t35:=underlying181
 a35:=isAgg181
 z35:=sizeOf181
 v35:=zeroValue181
 t36:=underlying182
 a36:=isAgg182
 z36:=sizeOf182
 v36:=zeroValue182
 t41:=underlying66
 a41:=isAgg66
 z41:=sizeOf66
 v41:=zeroValue66
 t44:=underlying189
 a44:=isAgg189
 z44:=sizeOf189
 v44:=zeroValue189
 t46:=underlying191
 a46:=isAgg191
 z46:=sizeOf191
 v46:=zeroValue191
 t53:=underlying271
 a53:=isAgg271
 z53:=sizeOf271
 v53:=zeroValue271
 t57:=underlying275
 a57:=isAgg275
 z57:=sizeOf275
 v57:=zeroValue275
 t63:=underlying344
 a63:=isAgg344
 z63:=sizeOf344
 v63:=zeroValue344
 t64:=underlying235
 a64:=isAgg235
 z64:=sizeOf235
 v64:=zeroValue235}
end Go.Proofs
namespace Go.bE
open Go Go.Proofs.Tryz Go.Proofs Go.RowKit Go.Lib Go.aM
variable{w wr:Γ}{F:Ω}{t:Nat}
def lu.arO(h:lu w F t wr)(i:Nat)(u:Φ):lu w (F.setIfInBounds i u) t (wr.setCell ⟨w,i,none⟩ u):=
 ⟨h.b.setCell (p:=⟨w,i,none⟩) (aY _) u,h' h.g u,(ht _ _ _ _ (by show w.heap.size+1≠w.heap.size;omega)).trans h.o⟩
def lu.grown{c w7:Γ}(h:lu w F t c){o:Obj}{row:Option Nat}(ar:(c.alloc o).grownBy w7 row)(a:∀b,row=some b->w.heap.size+2<=b):lu w F t w7:=by have H:=h.K ((bl _ _).alloc (aY _) o);refine⟨(H.b).grown ar (by have:=h.b.size;simp;omega) (λb G=>by have:=a b G;omega),?_,?_⟩;rw[ar.block _ (bM H.g) (λe=>by have:=a _ e.symm;omega)];exact H.g;rw[ar.block _ (bM H.o) (λe=>by have:=a _ e.symm;omega)];exact H.o
def aFe(n:Nat)(h:n<=100)(W:Γ):(Instr.makeSlice 34 (.int .i64 0) n).run prog W=.ok (.slice (some ⟨W,0,none⟩) 0 n) (W.alloc (.cells (madeCells #[Value.slice none 0 0] n) 45)):=by let⟨i,hi,af,H,I⟩:=iz J3;have:=run_make (P:=prog) W 34 45 i _ K5 hi af .i64 .i64 0 n al z (by rw[I];omega) z;rw[H]at this;simp only[Rg,tX]at this;exact this
def aFf(n:Nat)(h:n<=100)(W:Γ):(Instr.makeSlice 45 (.int .i64 0) n).run prog W=.ok (.slice (some ⟨W,0,none⟩) 0 n) (W.alloc (.cells (madeCells fo (n*7)) 44)):=by let⟨i,hi,af,H,I⟩:=iz abw;have:=run_make (P:=prog) W 45 44 i _ underlying45 hi af .i64 .i64 0 n al z (by rw[I];omega) z;rw[H]at this;simp only[Rg,tX]at this;exact this
def iu.Pm(base d n:Nat)(h:n<=100)(W:Γ)(G:base<=W.heap.size):iu base d (W.alloc (.cells (madeCells #[Value.slice none 0 0] n) 45)) (.slice (some ⟨W,0,none⟩) 0 n) []:=⟨[],rfl,World.ownsRow_made W _ n G (by unfold maxLen;omega) (by rw[size_madeCells];try omega),λj H=>by cases H⟩
def k7.Pm(base d n:Nat)(h:n<=100)(W:Γ)(G:base<=W.heap.size):k7 base d (W.alloc (.cells (madeCells fo (n*7)) 44)) (.slice (some ⟨W,0,none⟩) 0 n) []:=⟨[],rfl,World.ownsRow_made W _ n G (by unfold maxLen;omega) (by rw[size_madeCells];try omega),λj H=>by cases H⟩
def ai9(d:Nat)(k:Int)(s:Ψ)(N S n:Int)(cs:List Ψ)(aG:List (List bs))(y1:0<aG.length->∀(w:Γ) (F:Ω) (v:bs),aR aD d w F v->χ 60 #[.agg F] w (vu d w v)) (w:Γ)(F:Ω)(h:aR aD (d+1) w F (.mk k s N S n cs aG)):χ 60 #[.agg F] w (vu (d+1) w (.mk k s N S n cs aG)):=by
 obtain⟨ca,cc,ra,rc,rfl,gt,qU⟩:=h;have q:=A (lu.start w (bC k s N S n ca cs cc ra aG rc) 44);have nf:=A λW (M:β w W)=>axN W ca cc cs (gt.K M);let⟨av,ak,BJ,GB,yw⟩:=iz abw;let⟨O0,Ow,nC,hW,lg⟩:=iz J3;go_enter func60,ntmps60;go_upto_region 1 with fail
 generalize ((w.alloc (.cells (bC k s N S n ca cs cc ra aG rc) 44)).alloc (.cells fo 44))=m at q|-;have h2:m ⟨w,5,none⟩=some (.slice ca cs cc):=aN 5 q.out.g;have hm:=A (nf.out m q.out.b);have f5:=kt 5 q.out.g;have b7:=bM q.out.g;clear nf gt;go_upto_region 2 with(go_at_call 145;(with_reducible refine hm.out.mono ?_);rintro e D ⟨⟨c1,c2,rfl,jI⟩,bu⟩;have ki:=A (q.out.K bu);have ud:=A jI;have BQ:D ⟨w,5,none⟩=some (.slice ca cs cc):=aN 5 ki.out.g;have z5:=kt 5 ki.out.g)
 have ih:lu w (bC k s N S n c1 cs c2 ra aG rc) 44 (D.setCell ⟨w,5,none⟩ (.slice c1 cs c2)):=ki.out.arO 5 _;have oH:=bu.size;have Dj:g0 (fj m) (D.setCell ⟨w,5,none⟩ (.slice c1 cs c2)) c1 cs:=ud.out.eB ((eR.refl _ D).set (by show ¬(m.heap.size<=w.heap.size);omega) 5 _);have JY:m.heap.size<=(D.setCell ⟨w,5,none⟩ (.slice c1 cs c2)).heap.size:=by simpa using oH
 have kr:w.heap.size+2<=m.heap.size:=bM q.out.o;have hE:=A ih;have Mw:=A Dj;clear bu jI ki ud BQ z5 ih Dj hm h2 f5 q oH;generalize (D.setCell ⟨w,5,none⟩ (.slice c1 cs c2))=w3 at*;have Q:w3 ⟨w,6,none⟩=some (.slice ra aG rc):=aN 6 hE.out.g;have Jq:=qU.1;have gQ:(aG.length:Int)<=100:=z;have qf:=aFe aG Jq w3;have jp:=A (hE.out.K ((bl _ _).alloc (aY _) (.cells (madeCells #[Value.slice none 0 0] aG.length) 45)));have Dk:=A (Mw.out.lt.K ((bl _ _).alloc (aY _) (.cells (madeCells #[Value.slice none 0 0] aG.length) 45)));have WD:=A (iu.Pm w3 d aG Jq w3 (aY _));have ae:w3.heap.size<=(w3.alloc (.cells (madeCells #[Value.slice none 0 0] aG.length) 45)).heap.size:=aq;go_upto_region 3 with fail
 clear qf Q hE Mw;generalize (w3.alloc (.cells (madeCells #[Value.slice none 0 0] aG.length) 45))=bc at*;have Q:bc ⟨w,6,none⟩=some (.slice ra aG rc):=aN 6 jp.out.g;generalize (Value.slice (some ⟨w3,0,none⟩) 0 aG)=v5 at*;obtain⟨B,NR⟩:∃B,B=w3.heap.size:=⟨_,rfl⟩;rw[<-NR]at Dk WD ae;have af:m.heap.size<=B:=z;clear NR JY;have ig:=A (λW (M:β w W)=>(fz.K (aR.mono aD d) qU M).2);have gM:=A y1;clear qU y1;go_wp2;go_loopw [3,20] (λv i wr=>∃j:Nat,j<=aG.length/\i=.int .i64 j/\iu B d wr v (aG.take j)/\lu w (bC k s N S n c1 cs c2 ra aG rc) 44 wr/\g0 (λb=>fj m b/\b<B) wr c1 cs/\B<=wr.heap.size) (λ_ i _=>aG.length-(RowKit.intOf i).toNat);case atStart=>exact⟨0,dh _,rfl,WD,jp,Dk,ae⟩
 case round=>
  clear jp Dk WD Q ae;obtain⟨j,ab,rfl,E,o,Y,NS⟩:=hrel;let⟨va,C,tC⟩:=E.gX;have vR:(aG.take j).length=j:=by rw[mw];omega
  rw[vR]at tC;subst tC;by_cases au:j<aG
  .obtain⟨dK,eL,rfl,_,iE,h4⟩:=ig.out _ o.b z;let⟨dI,eu,aE,ad⟩:=h4 j au;have OQ:=ad.1;have k9:=A (λW (M:β wr W)=>(cm.K (aR.mono aD d) ad M).2);have ai:=A (gM.out z);have L:=A E;have aQ:=A o;have gz:=A Y;have eh:Hid (aG.take (j+1)=aG.take j++[aG[j]]):=A (r6 au);have vm:=A vR;have dZ:(0:Int)<=(j:Int):=z;have jh:(j:Int)<aG.length:=z;clear h4 ad E o Y vR;generalize aG[j]=row at*;have gb:(row.length:Int)<=8:=z;have qf:=aFf row z wr;have WE:=A (k7.Pm wr d row z wr (aY _));have gC:=A (fu wr (.cells (madeCells fo (row.length*7)) 44));go_upto_region 7 with fail
   clear qf aE;generalize (wr.alloc (.cells (madeCells fo (row.length*7)) 44))=br at*;generalize (Value.slice (some ⟨wr,0,none⟩) 0 row)=hh at*;obtain⟨K,ah⟩:∃K,K=wr:=⟨_,rfl⟩;rw[<-ah]at k9 L aQ gz WE gC NS;go_wp2;go_loopw [6,29] (λs i c0=>∃k:Nat,k<=row.length/\i=.int .i64 k/\k7 K d c0 s (row.take k)/\β K c0) (λ_ i _=>row.length-(RowKit.intOf i).toNat);case atStart=>exact⟨0,dh _,rfl,WE,gC⟩
   case round=>
    clear WE gC;obtain⟨i,hi,rfl,ar,G⟩:=hrel;let⟨X,R,OU⟩:=ar.gX;have Gl:(row.take i).length=i:=by rw[mw];omega
    rw[Gl]at OU;subst OU;by_cases nB:i<row
    .obtain⟨ax,Y4,rfl,_,aj,On⟩:=k9.out _ G z;let⟨bN,T,U,Z,V,fq,mB,fs,e5,mO,e6,ag,Gz⟩:=On i nB;let⟨eQ,dB,dF,gB,hI,h8,iI⟩:=Gz;have fJ:=fu wr (.cells (bC bN T U Z V fq mB fs e5 mO e6) 44);have gi:=A (ai.out _ _ _ (ag.K fJ));have wA:Hid (row.take (i+1)=row.take i++[row[i]]):=A (r6 nB);have sv:(row.take i).length<=100:=z;have ni:=A ar;have fd:=A fJ;have aw:=A Gl;have g3:(0:Int)<=(i:Int):=z;have Eg:(i:Int)<row.length:=z;have dO:=G.size;have eV:=c7 wr (.cells (bC bN T U Z V fq mB fs e5 mO e6) 44);have Xe:=A eV;clear On ag ar fJ Gl eV;go_upto_region 10 with fail
     clear eQ dB dF gB hI h8 iI;generalize row[i]=x at*;let⟨QP,aH,QM,QN,QQ,QO,QR⟩:=x;have pF:wr.heap.size<(wr.alloc (.cells (bC bN T U Z V fq mB fs e5 mO e6) 44)).heap.size:=aq;have hw:=A (G.trans (fd.out.mono dO));generalize (wr.alloc (.cells (bC bN T U Z V fq mB fs e5 mO e6) 44))=w7 at*;let⟨eQ,dB,dF,gB,hI,h8,iI⟩:=eU Xe;go_wp2_with (first|(go_at_call 60;refine gi.out.mono ?_;rintro e dc ⟨⟨F,rfl,J⟩,fR⟩;obtain⟨g9,ho,h9,hQ,rfl,_⟩:=J.gX;have hn:=A J;have JZ:=fR.size;clear J)|(at_builtin;refine KR rfl _ _ rfl (base:=K.heap.size) (d:=d) (l:=row.take i) (y:=.mk QP aH QM QN QQ QO QR) (v:=.slice X i R) rfl ((ni.out.K fd).K fR) rfl ((ni.out.K fd).pf (aY _) z hn) sv z ?_;intro v9 gI a_ _ bI;have RG:=A a_;have E0:=A ((hw.out.trans (fR.mono z)).trans bI);clear a_ bI));exact apj
    .obtain rfl:i=row.length:=z;have Eg:¬(row.length:Int)<row.length:=z;rw[sL]at ar;let⟨a',eT,cg,Tm⟩:=ar.P7 OQ;cases cg;let⟨ss,BG,yu,GA⟩:=L.out.o;have dD:=yu;rw[vm.out]at BG yu;have em:=A yu;have vo:=A GA;have Iu:=A BG;have pp:=A Tm;have O:=A G;have an:=G.size;clear ar Tm BG yu GA dD G
     go_wp2_with (at_builtin;refine Wa _ rfl _ _ 34 rfl B 45 O0 _ 1 24 K5 Ow nC hW lg rfl al (.slice va j C) j ss rfl ((uS em (.hs O)).alloc _) ⟨wr,0,none⟩ 1 1 [.slice X row R] rfl rfl (r5 (cs:=#[.slice X row R]) (t:=45) (fr:=(0,0)) (pW wr _)) (by simp[Value.oneCell']) al (by unfold maxLen;omega) z bw (wr.heap.size+1) aq ?_;intro g cap w7 cR P fG TW);have Tg:=L.out.K O;have pE:iu B d w7 (.slice (some ⟨g,0,none⟩) (j+1) cap) (aG.take j++[row]):=by
      have:=Tg.push (a:=X) (u:=row) (c:=R) (L.out.pf (aY _) NS pp) P fG (Iu.out.trans vm.out.symm) (λp H I=>by
       let⟨b_,cv,e,ag⟩:=vo.out p H I
       exact⟨b_,cv,e,ag.eB (λ_ _ _ _ ag G=>ag.eB G) (.hs O)⟩) (by rw[vm.out];exact cR)
      rw[vm.out]at this;exact this
     rw[<-eh.out]at pE;have BM:B<=w7.heap.size:=by have:=P.size;simp at this;omega
     have N7:=(aQ.out.K O).grown P (λb G=>by have:=(L.out.lt b G).1;omega);have N1:=(gz.out.K O).eB (w':=w7) ⟨by have:=P.size;simp at this;omega,λb G au=>by
      rw[P.block b bw (λe=>by have:=(L.out.lt b e.symm).1;have:=G.2;omega)]
      exact CJ wr _ b au⟩
     exact⟨⟨j+1,z,bz,pE,N7,N1,BM⟩,by simp[RowKit.intOf];omega⟩
  .obtain rfl:j=aG.length:=z;have Eg:¬(aG.length:Int)<aG.length:=z;rw[sL]at E;let⟨a',eT,cg,dE⟩:=E.aG Jq;cases cg;have Q:wr ⟨w,6,none⟩=some (.slice ra aG rc):=aN 6 o.g;have l7:=kt 6 o.g;have q2:=bM o.g;have f:Hid (lu w (bC k s N S n c1 cs c2 va aG C) 44 (wr.setCell ⟨w,6,none⟩ (.slice va aG C))):=A (o.arO 6 _);have jN:=A (fz.eB (aR.mono (fj B) d) dE ((eR.refl _ wr).set (r:=w.heap.size) (by show ¬(B<=w.heap.size);omega) 6 (.slice va aG C)));have gz:=A (Y.eB ((eR.refl _ wr).set (r:=w.heap.size) (λaa=>by have:m.heap.size<=w.heap.size:=aa.1;omega) 6 (.slice va aG C)));clear E dE Y o NS;go_upto_region 15 with fail
   clear Q l7 q2;generalize (wr.setCell ⟨w,6,none⟩ (.slice va aG C))=br at*;let⟨eQ,dB,dF,gB,hI,h8,iI⟩:=eU f.out.g;have hf:=aN 0 f.out.o;have z0:=kt 0 f.out.o;have dn:=aN 1 f.out.o;have cC:=kt 1 f.out.o;have dR:=aN 2 f.out.o;have dC:=kt 2 f.out.o;have fy:=aN 3 f.out.o;have z3:=kt 3 f.out.o;have gG:=aN 4 f.out.o;have z4:=kt 4 f.out.o;have hg:=aN 5 f.out.o;have z5:=kt 5 f.out.o;have hj:=aN 6 f.out.o;have eJ:=kt 6 f.out.o;have eo:=bM f.out.o;have q2:=bM f.out.g;go_wp2;refine gd (BV (fn:=f60) rfl _ _ (w.heap.size+1) 44 _ (0,0) _ rfl (iJ f.out.o _ _ _ _ _ _ _) k2 rfl jk) rfl ?_;refine⟨⟨_,rfl,c1,c2,va,C,rfl,?_,?_⟩,iU f.out.b z _ _ _ _ _ _ _⟩;exact(gz.out.eB (Kr (eR.refl _ br) (λaa=>by have:m.heap.size<=w.heap.size+1:=aa.1;omega) _ _ _ _ _ _ _)).low λb G=>c6 (c6 (H8 _ 2) kr) G.1;exact fz.low (λb (G:B<=b)=>(c6 (c6 (c6 (H8 _ 2) kr) af) G:w.heap.size<=b)) (λ_ _ _ J=>J.low λb (G:B<=b)=>(c6 (c6 (c6 (H8 _ 2) kr) af) G:w.heap.size<=b)) (fz.eB (aR.mono (fj B) d) jN (Kr (eR.refl _ br) (by show ¬(B<=w.heap.size+1);omega) _ _ _ _ _ _ _))
def ai8(w:Γ)(F:Ω)(v:bs)(h:aR aD 0 w F v):χ 60 #[.agg F] w (vu 0 w v):=by let⟨k,s,N,S,n,cs,aG⟩:=v;have H:=h.HG;obtain⟨rfl,_⟩:=h;refine(ai9 0 k s N S n cs [] (λh=>absurd h aq) w F H).mono ?_;rintro e w' ⟨⟨a,rfl,ca,cc,ra,rc,ak,I,_⟩,G⟩;exact⟨⟨a,rfl,rfl,ca,cc,ra,rc,ak,I⟩,G⟩
def ax7(w:Γ)(F:Ω)(v:bs)(h:aR aD 1 w F v):χ 60 #[.agg F] w (vu 1 w v):=by let⟨k,s,N,S,n,cs,aG⟩:=v;exact ai9 0 k s N S n cs aG (λ_ w F v h=>ai8 w F v h) w F h
def ai7(w:Γ)(a:Θ)(c:Nat)(l:List bs)(h:cm aD (aR aD 1) w a l): χ 31 #[.slice a l c] w (Se 1 w l):=by
 have k9:=A (λW (ao:β w W)=>(cm.K (aR.mono aD 1) h ao).2);have Z:=h.1;have gb:(l.length:Int)<=8:=z;clear h;go_enter func31,ntmps31;go_wp2;go_loopw [3,8] (λs i L=>∃k:Nat,k<=l.length/\i=.int .i64 k/\k7 w 1 L s (l.take k)/\β w L) (λ_ i _=>l.length-(RowKit.intOf i).toNat);case atStart=>exact⟨0,dh _,rfl,k7.nil _ _ _,bl _ _⟩
 case round=>(obtain⟨i,hi,rfl,ar,G⟩:=hrel;let⟨be,aW,E⟩:=ar.gX;have u:(l.take i).length=i:=by rw[mw];omega);rw[u]at E;subst E;by_cases U:i<l;{(obtain⟨ad,Y4,rfl,_,aa,H⟩:=k9.out _ G z;let⟨bN,b,f,j,g,o,r,q,m,t,n,ag,Y⟩:=H i U;let⟨O,M,N,Q,S,R,T⟩:=Y;have B:=fu wr (.cells (bC bN b f j g o r q m t n) 44);have gi:=A (ax7 _ _ _ (ag.K B));have wA:Hid (l.take (i+1)=l.take i++[l[i]]):=A (r6 U);have sv:(l.take i).length<=100:=z;have V:=A ar;have D:=A B;have ab:=A u;have g3:(0:Int)<=(i:Int):=z;have X:(i:Int)<l.length:=z;have dO:=G.size;have P:=c7 wr (.cells (bC bN b f j g o r q m t n) 44);have Xe:=A P;clear H ag ar B u P;go_upto_region 5 with fail);clear O M N Q S R T;generalize l[i]=x at*;let⟨QP,aH,QM,QN,QQ,QO,QR⟩:=x;have pF:wr.heap.size<(wr.alloc (.cells (bC bN b f j g o r q m t n) 44)).heap.size:=aq;have hw:=A (G.trans (D.out.mono dO));generalize (wr.alloc (.cells (bC bN b f j g o r q m t n) 44))=w7 at*;let⟨O,M,N,Q,S,R,T⟩:=eU Xe;go_wp2_with (first|(go_at_call 60;refine gi.out.mono ?_;rintro e dc ⟨⟨F,rfl,J⟩,C⟩;obtain⟨g9,ho,h9,hQ,rfl,_⟩:=J.gX;have hn:=A J;have JZ:=C.size;clear J)|(at_builtin;refine KR rfl _ _ rfl (base:=w.heap.size) (d:=1) (l:=l.take i) (y:=.mk QP aH QM QN QQ QO QR) (v:=.slice be i aW) rfl ((V.out.K D).K C) rfl ((V.out.K D).pf (aY _) z hn) sv z ?_;intro v9 gI I _ K;have RG:=A I;have E0:=A ((hw.out.trans (C.mono z)).trans K);clear I K));exact apj};{obtain rfl:i=l.length:=z;have X:¬(l.length:Int)<l.length:=z;rw[sL]at ar;let⟨a',eT,cg,Tm⟩:=ar.P7 Z;cases cg;go_wp2;go_ret;exact⟨⟨_,_,rfl,Tm⟩,G⟩}
structure wB (w:Γ) (F:Ω) (wr:Γ):Prop where
 b:Below w.heap.size w wr
 g:wr.heap[w.heap.size]? =some (.cells F 47 (0,0))
 o:wr.heap[w.heap.size+1]? =some (.cells uP 47 (0,0))
def wB.K{w':Γ}(h:wB w F wr)(G:β wr w'):wB w F w':=
 ⟨b3 h.b G,by rw[G.block _ (bM h.g)];exact h.g,by rw[G.block _ (bM h.o)];exact h.o⟩
def wB.set(h:wB w F wr)(i:Nat)(u:Φ):wB w (F.setIfInBounds i u) (wr.setCell ⟨w,i,none⟩ u):=
 ⟨h.b.setCell (p:=⟨w,i,none⟩) (aY _) u,h' h.g u,(ht _ _ _ _ (by show w.heap.size+1≠w.heap.size;omega)).trans h.o⟩
def wB.start(w:Γ)(F:Ω):wB w F ((w.alloc (.cells F 47)).alloc (.cells uP 47)):=by have T:=k0 w (.cells F 47) (.cells uP 47);exact⟨T.h,T.p,T.q⟩
def ax5(w:Γ)(F:Ω)(x:b2)(h:gT aD w F x): χ 26 #[.agg F] w λe w'=>(∃aF,e=.returned (.agg aF)/\gT (fj w) w' aF x):=by
 obtain⟨B,y,k,s,N,D,n,ca,cc,ra,rc,aO,m,rfl,mL,hx,aa⟩:=h;have p:=A (wB.start w (gj x.id x.cX x.fT x.cZ x.kd B x.ej y k s N D n ca cc ra rc x.eX x.eH aO x.prog m));have bp:=A λW (M:β w W)=>ai7 W B y x.ej (cm.K (aR.mono aD 1) hx M);have bP:=A λW=>ai8 W (bC k s N D n ca 0 cc ra 0 rc) (.mk k s N D n [] []) (aR.jb aD 0 W _ _ _ _ _ _ _ _ _);have ia:=A λW (M:β w W)=>axM W aO m x.prog (aa.eB (.hs M));clear hx aa;go_enter func26,ntmps26;go_upto_region 1 with fail
 generalize ((w.alloc (.cells (gj x.id x.cX x.fT x.cZ x.kd B x.ej y k s N D n ca cc ra rc x.eX x.eH aO x.prog m) 47)).alloc (.cells uP 47))=c at p|-;have R:c ⟨w,5,none⟩=some (.slice B x.ej y):=aN 5 p.out.g;have hm:=A (bp.out c p.out.b);go_upto_region 2 with(go_at_call 31;(with_reducible refine hm.out.mono ?_);rintro e u ⟨⟨qj,d,rfl,jI⟩,P⟩;have H:=A (p.out.K P);have ud:=A jI;have lj:=P.size;clear P jI;have R:u ⟨w,5,none⟩=some (.slice B x.ej y):=aN 5 H.out.g;have f5:=kt 5 H.out.g;have I:=bM H.out.g)
 have Q:Hid (wB w (gj x.id x.cX x.fT x.cZ x.kd qj x.ej d k s N D n ca cc ra rc x.eX x.eH aO x.prog m) (u.setCell ⟨w,5,none⟩ (.slice qj x.ej d))):=A (H.out.set 5 _);have af:=bM p.out.o;have Dj:Hid (cm (fj c) (aR (fj c) 1) (u.setCell ⟨w,5,none⟩ (.slice qj x.ej d)) qj x.ej):=A (cm.eB (aR.mono _ 1) ud ((eR.refl _ u).set (by show ¬(c.heap.size<=w.heap.size);omega) 5 _));clear H ud hm p R f5 I;generalize (u.setCell ⟨w,5,none⟩ (.slice qj x.ej d))=w3 at*;obtain⟨-,-,-,-,-,-,S,T,U,V,X,Y,rN⟩:=YF Q.out.g;go_upto_region 3 with(go_at_call 60;(with_reducible refine(bP.out w3).mono ?_);rintro e K ⟨⟨ad,rfl,GC⟩,O⟩;obtain⟨_,g,j,rb,f,rfl,_⟩:=GC;have z:=A (Q.out.K O);have Mw:=A (cm.K (aR.mono _ 1) Dj O);clear O;obtain⟨-,-,-,-,-,-,S,T,U,V,X,Y,rN⟩:=YF z.out.g;obtain⟨-,-,-,-,-,-,Bl,f7,f8,FW,f10,f11,f12⟩:=azR z.out.g;have I:=bM z.out.g)
 have E:Hid (wB w (gj x.id x.cX x.fT x.cZ x.kd qj x.ej d k s N D n g j rb f x.eX x.eH aO x.prog m) (((((((K.setCell ⟨w,6,none⟩ k).setCell ⟨w,7,none⟩ (.string s)).setCell ⟨w,8,none⟩ N).setCell ⟨w,9,none⟩ D).setCell ⟨w,10,none⟩ n).setCell ⟨w,11,none⟩ (.slice g 0 j)).setCell ⟨w,12,none⟩ (.slice rb 0 f))):=A (((((((z.out.set 6 _).set 7 _).set 8 _).set 9 _).set 10 _).set 11 _).set 12 _);have Dk:Hid (cm (fj c) (aR (fj c) 1) (((((((K.setCell ⟨w,6,none⟩ k).setCell ⟨w,7,none⟩ (.string s)).setCell ⟨w,8,none⟩ N).setCell ⟨w,9,none⟩ D).setCell ⟨w,10,none⟩ n).setCell ⟨w,11,none⟩ (.slice g 0 j)).setCell ⟨w,12,none⟩ (.slice rb 0 f)) qj x.ej):=A (cm.eB (aR.mono _ 1) Mw ((((((((eR.refl _ K).set (by show ¬(c.heap.size<=w.heap.size);omega) 6 _).set (by show ¬(c.heap.size<=w.heap.size);omega) 7 _).set (by show ¬(c.heap.size<=w.heap.size);omega) 8 _).set (by show ¬(c.heap.size<=w.heap.size);omega) 9 _).set (by show ¬(c.heap.size<=w.heap.size);omega) 10 _).set (by show ¬(c.heap.size<=w.heap.size);omega) 11 _).set (by show ¬(c.heap.size<=w.heap.size);omega) 12 _));clear Q Dj z Mw S Bl T f7 U f8 V FW X f10 Y f11 rN f12 I;generalize (((((((K.setCell ⟨w,6,none⟩ k).setCell ⟨w,7,none⟩ (.string s)).setCell ⟨w,8,none⟩ N).setCell ⟨w,9,none⟩ D).setCell ⟨w,10,none⟩ n).setCell ⟨w,11,none⟩ (.slice g 0 j)).setCell ⟨w,12,none⟩ (.slice rb 0 f))=q at*;have Z:q ⟨w,15,none⟩=some (.slice aO x.prog m):=aN 15 E.out.g;have yY:=A (ia.out q E.out.b);go_upto_region 4 with(go_at_call 61;(with_reducible refine yY.out.mono ?_);rintro e o ⟨⟨pb,l,rfl,D7⟩,L⟩;have C:=A (E.out.K L);have Sg:=A (cm.K (aR.mono _ 1) Dk L);have R':=A D7;have GF:=L.size;clear L D7;have Z:o ⟨w,15,none⟩=some (.slice aO x.prog m):=aN 15 C.out.g;have f15:=kt 15 C.out.g;have I:=bM C.out.g)
 have a:Hid (wB w (gj x.id x.cX x.fT x.cZ x.kd qj x.ej d k s N D n g j rb f x.eX x.eH pb x.prog l) (o.setCell ⟨w,15,none⟩ (.slice pb x.prog l))):=A (C.out.set 15 _);have ae:=bM E.out.o;have Fl:Hid (cm (fj c) (aR (fj c) 1) (o.setCell ⟨w,15,none⟩ (.slice pb x.prog l)) qj x.ej):=A (cm.eB (aR.mono _ 1) Sg ((eR.refl _ o).set (by show ¬(c.heap.size<=w.heap.size);omega) 15 _));have ab:Hid (qD (fj q) (o.setCell ⟨w,15,none⟩ (.slice pb x.prog l)) pb x.prog):=A (R'.out.eB ((eR.refl _ o).set (by show ¬(q.heap.size<=w.heap.size);omega) 15 _));clear E Dk C Sg R' yY Z f15 I;generalize (o.setCell ⟨w,15,none⟩ (.slice pb x.prog l))=w7 at*;let⟨dZ,gQ,gb,jg,kV,R,S,T,U,V,X,Y,rN,pL,rO,Z⟩:=s8 a.out.g;have hf:=aN 0 a.out.o;have z0:=kt 0 a.out.o;have dn:=aN 1 a.out.o;have cC:=kt 1 a.out.o;have dR:=aN 2 a.out.o;have dC:=kt 2 a.out.o;have fy:=aN 3 a.out.o;have z3:=kt 3 a.out.o;have gG:=aN 4 a.out.o;have z4:=kt 4 a.out.o;have hg:=aN 5 a.out.o;have z5:=kt 5 a.out.o;have hj:=aN 6 a.out.o;have eJ:=kt 6 a.out.o;have PE:=aN 7 a.out.o;have CF:=kt 7 a.out.o;have PF:=aN 8 a.out.o;have r4:=kt 8 a.out.o;have PG:=aN 9 a.out.o;have z9:=kt 9 a.out.o;have Py:=aN 10 a.out.o;have QS:=kt 10 a.out.o;have Pz:=aN 11 a.out.o;have QT:=kt 11 a.out.o;have PA:=aN 12 a.out.o;have QU:=kt 12 a.out.o;have PB:=aN 13 a.out.o;have QV:=kt 13 a.out.o;have PC:=aN 14 a.out.o;have QW:=kt 14 a.out.o;have PD:=aN 15 a.out.o;have QX:=kt 15 a.out.o;have kr:w.heap.size+1<w7.heap.size:=bM a.out.o;have oH:w.heap.size<w7.heap.size:=bM a.out.g;have cN:=A (Ks a.out.o [x.id,x.cX,x.fT,x.cZ,x.kd,.slice qj x.ej d,k,s,N,D,n,.slice g 0 j,.slice rb 0 f,x.eX,x.eH,.slice pb x.prog l] rfl);have bR:=A (Ag (rj w) [x.id,x.cX,x.fT,x.cZ,x.kd,.slice qj x.ej d,k,s,N,D,n,.slice g 0 j,.slice rb 0 f,x.eX,x.eH,.slice pb x.prog l] 0 w7 a.out.b);have bt:=A (cm.eB (aR.mono _ 1) Fl (MF (r:=w.heap.size+1) (by show ¬(c.heap.size<=w.heap.size+1);omega) [x.id,x.cX,x.fT,x.cZ,x.kd,.slice qj x.ej d,k,s,N,D,n,.slice g 0 j,.slice rb 0 f,x.eX,x.eH,.slice pb x.prog l] 0 w7));have e':=A (ab.out.eB (MF (r:=w.heap.size+1) (by show ¬(q.heap.size<=w.heap.size+1);omega) [x.id,x.cX,x.fT,x.cZ,x.kd,.slice qj x.ej d,k,s,N,D,n,.slice g 0 j,.slice rb 0 f,x.eX,x.eH,.slice pb x.prog l] 0 w7));go_wp2;refine gd (BV (fn:=f26) rfl _ _ (w.heap.size+1) 47 _ (0,0) _ rfl cN CI rfl KH) rfl ?_;exact⟨⟨_,rfl,qj,d,k,s,N,D,n,g,j,rb,f,pb,l,rfl,mL,cm.low (λb (G:c.heap.size<=b)=>(by show w.heap.size<=b;omega)) (λ_ _ _ J=>J.low λb (G:c.heap.size<=b)=>(by show w.heap.size<=b;omega)) bt,e'.out.low λb (G:q.heap.size<=b)=>(by show w.heap.size<=b;omega)⟩,bR⟩
end Go.bE
namespace Go.bE
open Go Go.Proofs.Tryz Go.Proofs Go.RowKit Go.Lib Go.aM Go.Maps
open Go.bk (gS)
def oo(zs:List Int):List Int:=zs.mergeSort λx y=>decide (x<=y)
def aJF(w:Γ)(base:Nat)(a:Θ)(c:Nat)(zs:List Int)(h:w.ownsRow base 3 1 (.slice a zs c) zs (gS zs))(j:zs.length<=100): Calls prog 25 #[.slice a zs c] w λe w'=>e=.returned (.tuple #[])/\w'.ownsRow base 3 1 (.slice a zs c) zs (gS (oo zs))/\w.grownBy w' (Value.slice a zs c).ownBlock:=by
 rcases h.2 with⟨e,af⟩|⟨g,cap,i,e,ar,G,H,I,b,aj⟩
 have d:zs=[]:=CL af;subst d;cases e;refine(AnyM.slices_Sort_int_none sortA none 0 w).mono ?_;rintro e w' ⟨rfl,rfl⟩;exact⟨rfl,by simpa[oo]using h,⟨rfl,rfl,rfl,aY _,λ_ _ _=>rfl⟩⟩;cases e;have f:=holds_of_blockI (ss:=zs) G (by rw[tX]at aj;exact aj);refine(AnyM.slices_Sort_int sortA g 0 c zs w f (bM G) z).mono ?_;rintro e w' ⟨rfl,n,os,rfl⟩;exact⟨rfl,ownsRow_sortedI (ss:=zs) (atu zs) ar G H I b,grownBy_sortedI _⟩
structure p4 (w:Γ) (b n:Nat) (f:Int->Option Int):Prop where
 o:∃D:DataW Unit,w.ownsMap prog 3 (plainElem prog 3) b n D/\Tidy D/\(∀x:Int,has D (.int .i64 x)=(f x).isSome)/\∀x c:Int,f x=some c->D.atKey (.int .i64 x) (.lit (.int .i64 0))=.lit (.int .i64 c)
def p4.Pm(w:Γ):p4 (w.alloc (.map #[] 0)) w 0 (λ_=>none):=⟨.map [],World.ownsMap_made w _ _ _,tidy_empty,λx=>rfl,λx c h=>by cases h⟩
variable{w w':Γ}{b n:Nat}{f:Int->Option Int}
def p4.kept{row:Option Nat}(h:p4 w b n f)(ar:w.grownBy w' row)(a:some b≠row):p4 w' b n f:=by let⟨D,H,I⟩:=h.o;exact⟨D,H.kept ar a,I⟩
def p4.K(h:p4 w b n f)(G:β w w'):p4 w' b n f:=
 h.kept (row:=none) ⟨G.os,G.tape,G.output,G.size,λk a _=>G.block k a⟩ aq
def p4.mono{n':Nat}(h:p4 w b n f)(a:n<=n'):p4 w b n' f:=by let⟨D,H,I⟩:=h.o;exact⟨D,H.mono a,I⟩
def abA(x:Int):WideAt.IsKeyLit (.int .i64 x):=by constructor
def db(f:Int->Option Int)(k c:Int):Int->Option Int:=λx=>if x=k then some c else f x
def aHH{D:DataW Unit}{f:Int->Option Int}(H:Tidy D)(I:∀x:Int,has D (.int .i64 x)=(f x).isSome)(d:∀x c:Int,f x=some c->D.atKey (.int .i64 x) (.lit (.int .i64 0))=.lit (.int .i64 c))(k c:Int): Tidy (D.put (.int .i64 k) (.lit (.int .i64 c)))/\(∀x:Int,has (D.put (.int .i64 k) (.lit (.int .i64 c))) (.int .i64 x)=(db f k c x).isSome)/\∀x b:Int,db f k c x=some b->(D.put (.int .i64 k) (.lit (.int .i64 c))).atKey (.int .i64 x) (.lit (.int .i64 0))=.lit (.int .i64 b):=by
 refine⟨H.put (abA k) _,λx=>?_,λx b a=>?_⟩
 .by_cases e:x=k
  .subst e;rw[has_put_same H.isMap (abA _)];simp[db]
  .rw[has_put_other (λh=>e (by injection h)),I];simp[db,e]
 .by_cases e:x=k
  .subst e;simp[db]at a;subst a;exact atKey_put_same H.isMap (abA _) _ _
  .simp[db,e]at a;rw[atKey_put_other (λh=>e (by injection h))];exact d x b a
end Go.bE
namespace Go.bE
open Go Go.Proofs Go.RowKit Go.Lib Go.aM
def b2.vs(x:b2):iM b2:=⟨x.id,x.cX,x.cZ,x⟩
variable{id:Int}
def adC(o:Option (iM b2)){i:iM b2}(h:i.id≠id):step id o i=o:=by unfold step;rw[bo h]
def aJ_{i:iM b2}(h:i.id=id):step id none i=some i:=by unfold step;rw[ci h]
def asg{i:iM b2}(a:iM b2)(h:i.id=id):step id (some a) i=if later a i=true then some a else some i:=by unfold step;rw[ci h]
structure mY (l:List b2) (j:Nat) (f:Int->Option Int) (fc:List Int):Prop where
 gY:∀id,f id=none->mA ((l.take j).map b2.vs) id=none
 KV:∀id c,f id=some c->∃(t:Nat) (aj:t<l.length),t<j/\c=t/\mA ((l.take j).map b2.vs) id=some l[t].vs
 UN:fc.Nodup
 pe:∀id,id∈fc↔ ∃c,f id=some c
 len:fc.length<=j
 qj:∀x∈fc,1<=x/\x<=4
def mY.start(l:List b2):mY l 0 (λ_=>none) []:=
 ⟨λ_ _=>rfl,λ_ _ h=>(by cases h),List.nodup_nil,λid=>aq,aY _,λx h=>(by cases h)⟩
def KL(l:List b2)(j:Nat)(a:j<l):(l.take (j+1)).map b2.vs=(l.take j).map b2.vs++[l[j].vs]:=by rw[r6 a,yO];rfl
section
variable {l:List b2} {j:Nat} {f:Int->Option Int} {fc:List Int}
def mY.d_(h:mY l j f fc)(ab:j<l)(g:f l[j].id=none)(G:1<=l[j].id/\l[j].id<=4):mY l (j+1) (db f l[j].id j) (fc++[l[j].id]):=by
 have aa:∀id,id≠l[j].id->mA ((l.take (j+1)).map b2.vs) id=mA ((l.take j).map b2.vs) id:=λid hid=>by rw[KL l j ab,zi,adC _ (λe=>hid e.symm)]
 have V:mA ((l.take (j+1)).map b2.vs) l[j].id=some l[j].vs:=by rw[KL l j ab,zi,h.gY _ g,aJ_ (id:=l[j].id) (i:=l[j].vs) rfl]
 refine⟨λid hid=>?_,λid c hid=>?_,?_,λid=>?_,by rw[ir,AH];have:=h.len;omega,λx aa=>?_⟩;exact anZ;exact aoo;refine List.nodup_append.2 ⟨h.UN,aq,λa aL b k e=>?_⟩;obtain rfl:=oQ.1 k;let⟨c,d⟩:=(h.pe a).1 aL;rw[e,g]at d;cases d;rw[kx,oQ,h.pe];by_cases e:id=l[j].id;simp[db,e];simp[db,e];rcases kx.1 aa with H|H;exact h.qj x H;obtain rfl:=oQ.1 H;exact G
variable{t:Nat}
def mY.hN(h:mY l j f fc)(g:j<l)(aj:t<l)(m:f l[j].id=some (t:Int))(d:later l[t].vs l[j].vs=true):mY l (j+1) f fc:=by
 have b:∀id,mA ((l.take (j+1)).map b2.vs) id=mA ((l.take j).map b2.vs) id:=λid=>by rw[KL l j g,zi];by_cases e:l[j].vs.id=id;let⟨n,o,H,I,a⟩:=h.KV _ _ m;have:n=t:=z;subst this;have k:l[j].id=id:=e;rw[<-k,a,asg (id:=l[j].id) (i:=l[j].vs) _ rfl];simp only[d,oR];rw[adC _ e]
 exact⟨λid hid=>by rw[b];exact h.gY id hid,λid c hid=>by
  let⟨t,aj,H,I,a⟩:=h.KV id c hid
  exact⟨t,aj,z,I,by rw[b];exact a⟩,h.UN,h.pe,by have:=h.len;omega,h.qj⟩
def mY.aKZ(h:mY l j f fc)(ab:j<l)(aj:t<l)(a:f l[j].id=some (t:Int))(b:later l[t].vs l[j].vs=false):mY l (j+1) (db f l[j].id j) fc:=by
 have aa:∀id,id≠l[j].id->mA ((l.take (j+1)).map b2.vs) id=mA ((l.take j).map b2.vs) id:=λid hid=>by rw[KL l j ab,zi,adC _ (λe=>hid e.symm)]
 have V:mA ((l.take (j+1)).map b2.vs) l[j].id=some l[j].vs:=by rw[KL l j ab,zi];let⟨d,g,H,I,ah⟩:=h.KV _ _ a;have:d=t:=z;subst this;rw[ah,asg (id:=l[j].id) (i:=l[j].vs) _ rfl];simp only[b,re,pZ]
 refine⟨λid hid=>?_,λid c hid=>?_,h.UN,λid=>?_,by have:=h.len;omega,h.qj⟩;exact anZ;exact aoo;rw[h.pe];by_cases e:id=l[j].id;subst e;simp[db,a];simp[db,e]
def aD4(a b:b2):later a.vs b.vs=decide (b.cZ<a.cZ∨a.cZ=b.cZ/\b.cX<a.cX):=by unfold later;show(if a.cZ=b.cZ then decide (a.cX>b.cX)else decide (a.cZ>b.cZ))=_;by_cases e:a.cZ=b.cZ;rw[ci e];simp[e];rw[bo e];simp[e]
def mY.azG(h:mY l l.length f fc)(R:List b2)(C:R.length=(oo fc).length)(g:∀p (H:p<R.length) (I:p<(oo fc).length),R[p].id=(oo fc)[p]/\mA (l.map b2.vs) R[p].id=some R[p].vs):ic (l.map b2.vs) (R.map b2.vs):=by
 have ag:(oo fc).Perm fc:=atx fc _;have r:(oo fc).Pairwise λx y=>x<=y:=by have:=List.pairwise_mergeSort (le:=λx y:Int=>decide (x<=y)) (λa b c H I=>by simp at*;omega) (λa b=>bw) fc;exact this.imp λh=>by simpa using h
 have o:(oo fc).Nodup:=ag.symm.nodup h.UN;refine⟨?_,λx s=>?_,λi hi=>?_⟩
 .rw[List.pairwise_map,Lh];intro p q d w m;have H:=(g p d z).1;have I:=(g q w z).1;show R[p].id<R[q].id;rw[H,I];have B:=Lh.1 r p q z z m;have A:(oo fc)[p]'z≠(oo fc)[q]'z:=Lh.1 o p q z z m;omega
 .obtain⟨y,k,rfl⟩:=AJ.1 s;obtain⟨p,d,rfl⟩:=AI.1 k;exact(g p d z).2
 .obtain⟨y,k,rfl⟩:=AJ.1 hi;have t:mA (l.map b2.vs) y.id≠none:=λe=>(Sv y.id _ (l.map b2.vs) rfl).2 e y.vs (AJ.2 ⟨y,k,rfl⟩) rfl;have n:y.id∈fc:=by
   rw[h.pe];cases u:f y.id with
   |none=>exact absurd (by have:=h.gY _ u;rwa [sL]at this) t
   |some c=>exact⟨c,rfl⟩
  obtain⟨p,d,e⟩:=AI.1 (ag.symm.mem_iff.1 n);exact⟨R[p].vs,AJ.2 ⟨R[p],fp z,rfl⟩,((g p z d).1.trans e:R[p].id=y.id)⟩
end
end Go.bE
namespace Go.bE
open Go Go.Proofs Go.RowKit Go.Lib Go.aM Go.bk
def x2(w:Γ)(size:Nat)(ca:Θ)(m:Nat)(fD:List Φ):Prop:=
 (m=0/\fD=[])∨(0<m/\∃ad,ca=some ad/\fD.length=m*size/\(∀j u,fD[j]? =some u->w.cell? (ad.add j)=some u)/\∀u∈fD,u.oneCell'=true)
section
variable {P:Program} {w:Γ}
variable{o:Oper}{a:Act}
def asZ{y:Act->Γ->Prop}{c':Exit->Act->Γ->Prop}(s x:Operand)(t:TypeId) (r:o.op=.call {callee:=.builtin .append,args:=#[s,x],argTypes:=#[t,t]}) (base:Nat)(e:TypeId)(i:TypeInfo)(ai:Φ)(size bytes:Nat)(aj:P.underlying t=some (.slice e))(hi:P.info? e=some i)(E:i.zero=some ai) (Q:i.size=size)(M:i.bytes=bytes)(J:ai.cells.size=size)(I:0<size) (b n d:Nat)(aH:List Φ)(l:a.eval s=.slice (some ⟨b,0,none⟩) n d)(k:w.ownsRow base e size (.slice (some ⟨b,0,none⟩) n d) n aH) (ca:Θ)(m c:Nat)(fD:List Φ)(q:a.eval x=.slice ca m c)(ag:x2 w size ca m fD) (O:n+m<=maxLen)(N:(n+m)*bytes<=140737488355328)(L:base<=w.heap.size) (h:∀g cap w',w'.ownsRow base e size (.slice (some ⟨g,0,none⟩) (n+m) cap) (n+m) (aH++fD)->w.grownBy w' (some b)->(b=g∨g=w.heap.size)->y (a.put o.dst (.slice (some ⟨g,0,none⟩) (n+m) cap)) w'):o.wp P a w y c':=by
 rcases ag with⟨rfl,rfl⟩|⟨C,ad,rfl,z,D,H⟩
 .have K:n<=d:=by(rcases k.2 with⟨A,_⟩|⟨S,T,R,ak,_,_,G,_⟩);cases A;cases ak;exact G
  have F:Src P i.size t (.slice ca 0 c) 0 [] w:=by
   cases ca with
   |none=>exact Src.ofNil w aj c
   |some ad=>exact Src.ofSlice w aj ad 0 c [] aq (λj u hu=>by simp at hu) (λu hu=>by cases hu)
  have B:=run_append_room_src (P:=P) w t t o.type e i aj hi b 0 n d (.slice ca 0 c) 0 [] F K (λj f=>by cases f) (λj f=>by cases f);unfold Oper.wp execOp;simp only[r,resolve,invoke,builtin,e7,fI,eY,Rl,qu,ER,l,q,B];exact h b d w (by simpa using k) ⟨rfl,rfl,rfl,aY _,λ_ _ _=>rfl⟩ (.inl rfl)
 .refine wp_append_lies w s x t r base e i ai size bytes aj hi E Q M J I _ n aH l k ad m c fD q z D H C O N L _ rfl λg cap w' bN dx gc _=>h g cap w' bN dx ?_;rcases gc with gc|gc
  exact .inl (gm gc);exact .inr gc
variable{ops:Array Oper}
def adB{f:Act->Γ->Prop}{c':Exit->Act->Γ->Prop}{E:Prop}(z:o.guard=none)(s x:Operand)(t:TypeId) (p:o.op=.call {callee:=.builtin .append,args:=#[s,x],argTypes:=#[t,t]}) (base:Nat)(e:TypeId)(i:TypeInfo)(ai:Φ)(size bytes:Nat)(aj:P.underlying t=some (.slice e))(hi:P.info? e=some i)(l:i.zero=some ai) (D:i.size=size)(A:i.bytes=bytes)(u:ai.cells.size=size)(r:0<size) (b n d:Nat)(aH:List Φ)(j:a.eval s=.slice (some ⟨b,0,none⟩) n d)(q:w.ownsRow base e size (.slice (some ⟨b,0,none⟩) n d) n aH) (ca:Θ)(m c:Nat)(fD:List Φ)(k:a.eval x=.slice ca m c)(ag:x2 w size ca m fD) (C:n+m<=maxLen)(B:(n+m)*bytes<=140737488355328)(y:base<=w.heap.size) (h:∀g cap w',w'.ownsRow base e size (.slice (some ⟨g,0,none⟩) (n+m) cap) (n+m) (aH++fD)->w.grownBy w' (some b)->(b=g∨g=w.heap.size)->f (a.put o.dst (.slice (some ⟨g,0,none⟩) (n+m) cap)) w'): if Region.wanted o (yielded ops a.tmps)=true then Oper.wp P o a w f c' else E:=by rw[ci (by simp[Region.wanted,z])];exact asZ s x t p base e i ai size bytes aj hi l D A u r b n d aH j q ca m c fD k ag C B y h
def KQ{rest:List Oper}{c':Exit->Act->Γ->Prop}(z:o.guard=none)(s x:Operand)(t:TypeId)
  (l:o.op=.call {callee:=.builtin .append,args:=#[s,x],argTypes:=#[t,t]})
  (base:Nat)(e:TypeId)(i:TypeInfo)(ai:Φ)(size bytes:Nat)(aj:P.underlying t=some (.slice e))(hi:P.info? e=some i)(k:i.zero=some ai)
  (D:i.size=size)(A:i.bytes=bytes)(u:ai.cells.size=size)(r:0<size)
  (b n d:Nat)(aH:List Φ)(f:a.eval s=.slice (some ⟨b,0,none⟩) n d)(p:w.ownsRow base e size (.slice (some ⟨b,0,none⟩) n d) n aH)
  (ca:Θ)(m c:Nat)(fD:List Φ)(j:a.eval x=.slice ca m c)(ag:x2 w size ca m fD)
  (C:n+m<=maxLen)(B:(n+m)*bytes<=140737488355328)(y:base<=w.heap.size)
  (h:∀g cap w',w'.ownsRow base e size (.slice (some ⟨g,0,none⟩) (n+m) cap) (n+m) (aH++fD)->w.grownBy w' (some b)->(b=g∨g=w.heap.size)->wpList P ops c' rest (a.put o.dst (.slice (some ⟨g,0,none⟩) (n+m) cap)) w'):wpList P ops c' (o::rest) a w:=
 Wb z λ_ q=>asZ s x t l base e i ai size bytes aj hi k D A u r b n d aH f p ca m c fD j ag C B y λg cap w' bN dx gc=>q _ _ (h g cap w' bN dx gc)
end
variable{w:Γ}{F:Ω}
def gT.xn{B:Nat->Prop}{x:b2}(h:gT B w F x):∀u∈F.toList,u.oneCell'=true:=by obtain⟨l,m,bN,a,b,k,c,f,g,d,e,i,j,rfl,_⟩:=h;simp[Value.oneCell']
def m0.ap4{b:List Ω}{R:List b2}(h:m0 w b R):∀u∈b.flatMap Array.toList,u.oneCell'=true:=λu hu=>by
 let⟨F,c,hu⟩:=Le.1 hu
 obtain⟨j,a,rfl⟩:=AI.1 c
 exact(h.ff j a (h.len▸a)).xn u hu
variable{W:Γ}{cap:Nat}
def kh.part{v:Φ}{a:List Ω}{R:List b2}(h:kh w W v a R)(p q:Nat)(k:p<=q)(m:q<=R.length){g:Nat}(J:v=.slice (some ⟨g,0,none⟩) R cap): x2 W 16 (some ⟨g,p*16,none⟩) (q-p) (((a.drop p).take (q-p)).flatMap Array.toList):=by
 subst J;have l:=h.l.len;have b:=(h.l.drop p).take (q-p);by_cases e:q-p=0;left;rw[e];exact⟨rfl,rfl⟩
 .right;have c:=S6 _ b.KD;have d:((a.drop p).take (q-p)).length=q-p:=by rw[mw,pm];omega
  refine⟨z,_,rfl,by rw[c,d],λj u hu=>?_,b.ap4⟩;have n:j<(q-p)*16:=by have:=(kL.1 hu).1;rw[c,d]at this;exact this
  have hi:j%16<16:=z;have o:j/16<q-p:=z;have ak:=FX _ b.KD (j/16) z (j%16) hi;rw[show j/16*16+j%16=j by omega,hu,Wg,Ri]at ak;have f:=FX a h.l.KD (p+j/16) z (j%16) hi;have i:=h.o.cellAt ((p+j/16)*16+j%16) z;rw[AD,show p*16+j=(p+j/16)*16+j%16 by omega,i,f,<-ak]
variable{m:Nat}
def x2.oe{base:Nat}{e:TypeId}{size g:Nat}{aH:List Φ}(h:W.ownsRow base e size (.slice (some ⟨g,0,none⟩) m cap) m aH)(a:0<m)(H:∀u∈aH,u.oneCell'=true):x2 W size (some ⟨g,0,none⟩) m aH:=
 .inr ⟨a,_,rfl,h.1,λj u hu=>h.cells (g:=g) rfl j u hu,H⟩
def kh.kept{W':Γ}{g n b:Nat}{a:List Ω}{R:List b2}(h:kh w W (.slice (some ⟨g,0,none⟩) n cap) a R)(ar:W.grownBy W' (some b))(c:g≠b):kh w W' (.slice (some ⟨g,0,none⟩) n cap) a R:=
 ⟨h.o.kept ar (.inr λe=>c (gm e)),h.l⟩
def kh.O5{a:List Ω}{R:List b2}{x:b2}(b:m0 w a R)(c:gT aD w F x)(n:Nat)(f:n<=R.length){g:Nat} (h:W.ownsRow w 47 16 (.slice (some ⟨g,0,none⟩) m cap) m ((a.take n).flatMap Array.toList++(F.toList++(a.drop n).flatMap Array.toList)))(d:m=R.length+1): kh w W (.slice (some ⟨g,0,none⟩) m cap) (a.take n++F::a.drop n) (R.take n++x::R.drop n):=by have e:(R.take n++x::R.drop n).length=m:=bw;refine⟨?_,(b.take n).A_ ((m0.xn c).A_ (b.drop n))⟩;rw[e];simpa using h
def ic.aer{l R:List b2}{x:b2}(h:ic (l.map b2.vs) (R.map b2.vs))(n:Nat)(c:n<=R.length)(au:∀j (a:j<R.length),j<n->R[j].id<x.id)(d:∀a:n<R.length,x.id<R[n].id): ic (l.map b2.vs++[x.vs]) ((R.take n++x::R.drop n).map b2.vs):=by have:=h.O5 (x:=x.vs) n (by simpa using c) (λj a b=>by simpa[b2.vs]using au j (by simpa using a) b) (λa=>by simpa[b2.vs]using d (by simpa using a));simpa using this
def ic.aL5{l R:List b2}{x:b2}(h:ic (l.map b2.vs) (R.map b2.vs))(n:Nat)(b:n<R)(aP:R[n].id=x.id)(a:¬(x.cZ>R[n].cZ∨x.cZ=R[n].cZ/\x.cX≥R[n].cX)):ic (l.map b2.vs++[x.vs]) (R.map b2.vs):=
 h.hN (x:=x.vs) n (by simpa using b) (by simpa[b2.vs]using aP) (by simpa[le,b2.vs]using a)
def ic.aL6{l R:List b2}{x:b2}(h:ic (l.map b2.vs) (R.map b2.vs))(n:Nat)(b:n<R)(aP:R[n].id=x.id)(a:x.cZ>R[n].cZ∨x.cZ=R[n].cZ/\x.cX≥R[n].cX):ic (l.map b2.vs++[x.vs]) ((R.set n x).map b2.vs):=by have:=h.db (x:=x.vs) n (by simpa using b) (by simpa[b2.vs]using aP) (by simpa[le,b2.vs]using a);rw[List.map_set];exact this
end Go.bE
namespace Go.bE
open Go Go.Proofs.Tryz Go.Proofs Go.RowKit Go.Lib Go.aM Go.bk
def Pt:List Nat->Code->Code
 |0::p,.seq a _=>Pt p a
 |1::p,.seq _ b=>Pt p b
 |2::p,.block _ c=>Pt p c
 |3::p,.loop c=>Pt p c
 |_,c=>c
variable{B:Nat->Prop}{w:Γ}{F:Ω}
def gT.aik{x:b2}(h:gT B w F x):F[1]? =x.cX:=by obtain⟨_,_,_,_,_,_,_,_,_,_,_,_,_,rfl,_⟩:=h;rfl
def gT.asF{x:b2}(h:gT B w F x):F[3]? =x.cZ:=by obtain⟨_,_,_,_,_,_,_,_,_,_,_,_,_,rfl,_⟩:=h;rfl
variable{W:Γ}
def acW{b o:Nat}(c:F.size=16)(h:∀i,i<16->W ⟨b,o+i,none⟩=F[i]?):W.rangeAt b o F.toList:=λj v J=>by
 have a:j<16:=by have:=(kL.1 J).1;simpa[c]using this
 rw[h j a,<-J,vc]
def aHI(a:Act):a.put (@none Nat) undef=a:=rfl
def am0{F:List Φ}(h:F.length=16):(prog.info? 47).map (·.size)=some F.length:=by rw[h];kernel_rfl
variable{w3:Γ}{Y:Ω}
def awJ{Z:Ω}(b:Z.size=16)(a:Y.size=16):
  (World.setCells (w3.alloc (.cells Z 47)) w3 0 Y.toList).heap[w3.heap.size]? =some (.cells Y 47 (0,0))/\β w3 (World.setCells (w3.alloc (.cells Z 47)) w3 0 Y.toList):=
 ⟨Ks (c7 w3 _) Y.toList (by rw[iV,b,a]),Ag (aY _) _ _ _ ((bl _ _).alloc (aY _) _)⟩
def aKS(Z:Ω)(d:Z.size=16)(c:Y.size=16):World.there (w3.alloc (.cells Z 47)) w3 0 Y.toList.toArray.size:=λj a=>by
 have a:j<Z.size:=by rw[d,<-c];exact a
 have b:=c7 w3 (.cells Z 47)
 rw[gy]
 exact⟨by rw[kQ (i:=j) b (VO a)];rfl,by unfold World.frozen?;rw[b];simp⟩
def asE{w W:Γ}{g n cap:Nat}{b:List Ω}{R:List b2}{X:Ω}(h:kh w W (.slice (some ⟨g,0,none⟩) R.length cap) b R)(d:n<R.length)(f:X.size=16):W.there g (n*16) X.toList.toArray.size:=λj a=>by
 have a:j<16:=by rw[<-f];exact a
 have i:=h.l.len
 obtain⟨l,m,e,_,_,_,_,c⟩:=h.Ul z
 cases e
 refine⟨?_,h.o.frozenAt _⟩
 have k:(b[n]'z).size=16:=h.l.KD _ (fp _)
 rw[c n d z j a,VO z]
 rfl
variable{n cap:Nat}
def aLV{c a k g:Nat}{l R:List b2}{ce:List Ω}{x y:b2}{X:Ω} (bf:k<l)(r:n<R)(o2:l.length<=12)(bj:R.length<=k)(jV:a<w) (s:Hid (∀W,β w W->∀i,i<16->W ⟨a,k*16+i,none⟩=X[i]?))(d:Hid (gT aD w X x))(em:Hid (kh w w3 (.slice (some ⟨g,0,none⟩) R cap) ce R))(co:Hid (β w w3))(oG:g<w3) (y2:Hid (∀i,i<16->w3 ⟨g,n*16+i,none⟩=Y[i]?))(f:Hid (gT aD w Y y)){cf:Act->Γ->Prop}{t:Exit->Act->Γ->Prop}{m b nc Cu Hx t9 EB u B C D E G H I J L M t22 t23 N t25 O P Q S T U t32 V Ck t35 t36 Cl Cm Cn Co t41 Cp Cq t44 Cr t46 Cs Ct Hh Hi Hj t53 Hk Hl Hm t57 Hn Ho Hp Hq Hr t63 t64 Hs Ht Hu Hv Hw Qi Qj Qk Ql Qm Qn Qo Qp Qq Qr Qs Qt Qu Qv Qw Qx Qy Qz QA Hy Hz HA HB ai aj ak am an ao ap ab ad ae af ag ah:Φ} (sr:∀{eJ a' ba aC z53 aE aF aG z57 aH aI aJ aK aL z63 z64 aM aN aO aP aQ aR aS aT aU aV aW aX aY aZ a_ aq ar au av aw ay az aA aB:Φ} {W:Γ},kh w W (.slice (some ⟨g,0,none⟩) R cap) (ce.set n X) (R.set n x)->(y.cZ<x.cZ∨x.cZ=y.cZ/\y.cX<=x.cX)->β w W->t (.exit 1) ⟨#[.slice (some ⟨a,0,none⟩) l c,m,b,.slice (some ⟨g,0,none⟩) R cap,k,n,eJ,Cu,Hx,t9,EB,u,B,C,D,E,G,H,I,J,L,M,t22,t23,N,t25,O,P,Q,S,T,U,t32,V,Ck,t35,t36,Cl,Cm,Cn,Co,t41,Cp,Cq,t44,Cr,t46,Cs,Ct,.bool true,a',ba,aC,z53,aE,aF,aG,z57,aH,aI,aJ,aK,aL,z63,z64,aM,aN,aO,aP,aQ,aR,aS,aT,aU,aV,aW,aX,aY,aZ,a_,aq,ar,au,av,aw,ay,az,aA,aB,Hy,Hz,HA,HB,ai,aj,ak,am,an,ao,ap,ab,ad,ae,af,ag,ah],[]⟩ W) (be:∀{eJ a' ba aC z53 aE aF aG z57 aH aI aJ aK aL z63 z64 aM aN aO aP aQ aR aS aT aU aV aW aX aY aZ a_ aq ar au av aw ay az aA aB:Φ} {W:Γ},kh w W (.slice (some ⟨g,0,none⟩) R cap) ce R->¬(y.cZ<x.cZ∨x.cZ=y.cZ/\y.cX<=x.cX)->β w W->t (.exit 1) ⟨#[.slice (some ⟨a,0,none⟩) l c,m,b,.slice (some ⟨g,0,none⟩) R cap,k,n,eJ,Cu,Hx,t9,EB,u,B,C,D,E,G,H,I,J,L,M,t22,t23,N,t25,O,P,Q,S,T,U,t32,V,Ck,t35,t36,Cl,Cm,Cn,Co,t41,Cp,Cq,t44,Cr,t46,Cs,Ct,.bool true,a',ba,aC,z53,aE,aF,aG,z57,aH,aI,aJ,aK,aL,z63,z64,aM,aN,aO,aP,aQ,aR,aS,aT,aU,aV,aW,aX,aY,aZ,a_,aq,ar,au,av,aw,ay,az,aA,aB,Hy,Hz,HA,HB,ai,aj,ak,am,an,ao,ap,ab,ad,ae,af,ag,ah],[]⟩ W): Code.wp prog (Pt [1,1,0,1,2,3,1,0,2,1,1,0,1] (f8.body.getD .ret)) (Exit.then cf t) ⟨#[.slice (some ⟨a,0,none⟩) l c,m,b,.slice (some ⟨g,0,none⟩) R cap,k,n,nc,Cu,Hx,t9,EB,u,B,C,D,E,G,H,I,J,L,M,t22,t23,N,t25,O,P,Q,S,T,U,t32,V,Ck,t35,t36,Cl,Cm,Cn,Co,t41,Cp,Cq,t44,Cr,t46,Cs,Ct,.bool true,Hh,Hi,Hj,t53,Hk,Hl,Hm,t57,Hn,Ho,Hp,Hq,Hr,t63,t64,Hs,Ht,Hu,Hv,Hw,Qi,Qj,Qk,Ql,Qm,Qn,Qo,Qp,Qq,Qr,Qs,Qt,Qu,Qv,Qw,Qx,Qy,Qz,QA,Hy,Hz,HA,HB,ai,aj,ak,am,an,ao,ap,ab,ad,ae,af,ag,ah],[]⟩ w3:=by
 have C8:= @A _ @sr;have gi:= @A _ @be;have dZ:(0:Int)<=(k:Int):=z;have jh:(k:Int)<l.length:=z;have hc:(0:Int)<=(n:Int):=z;have bg:(n:Int)<R.length:=z;clear sr be;have j:=A d.out.size;have o:=A f.out.size;have bb:=A (acW o y2);have bd:=A (all_oneCell_toArray f.out.xn);have RO:=A (all_oneCell_toArray d.out.xn);have WX:=A (am0 (F:=Y.toList) (by rw[iV,o]));have q:=A (am0 (F:=X.toList) (by rw[iV,j]));have uy:=awJ (w3:=w3) (Z:=#[.int .i64 0,.int .i64 0,.int .i64 0,.int .i64 0,.int .i64 0,.slice none 0 0,.int .i64 0,.string ⟨#[]⟩,.int .i64 0,.int .i64 0,.int .i64 0,.slice none 0 0,.slice none 0 0,.string ⟨#[]⟩,.string ⟨#[]⟩,.slice none 0 0]) (Y:=Y) rfl o;show Code.wp prog (Code.cond _ _ _) _ _ _;go_upto_region 10 with(first|(refine afs (by rfl) 47 _ (by rfl) g (n*16) (by rfl) Y.toList _ bb CI (by rfl) WX ?_)|(refine aft (by rfl) 47 _ _ (by rfl) w3 0 Y.toList.toArray (by rfl) (by rfl) (aKS _ rfl o) WX bd ?_))
 rw[aHI];generalize World.setCells (w3.alloc (.cells #[.int .i64 0,.int .i64 0,.int .i64 0,.int .i64 0,.int .i64 0,.slice none 0 0,.int .i64 0,.string ⟨#[]⟩,.int .i64 0,.int .i64 0,.int .i64 0,.slice none 0 0,.slice none 0 0,.string ⟨#[]⟩,.string ⟨#[]⟩,.slice none 0 0] 47)) w3 0 Y.toList=bh at*;let⟨GC,aa⟩:=uy;have wy:=A (em.out.K aa);have i7:=A (b3 co aa);have c1:bh ⟨a,k*16+1,none⟩=x.cX:=(s.out _ i7 1 al).trans d.out.aik;have c3:bh ⟨a,k*16+3,none⟩=x.cZ:=(s.out _ i7 3 al).trans d.out.asF;have dn:bh ⟨w3,1,none⟩=y.cX:=kQ (i:=1) GC f.out.aik;have fy:bh ⟨w3,3,none⟩=y.cZ:=kQ (i:=3) GC f.out.asF;clear co em GC aa bb bd WX y2 f o;by_cases m:y.cZ<x.cZ
 .go_quiet (fail);have ub:=A (wy.out.K (pV (bl bh bh) nq));have qA:=A (pV i7 nq);clear wy i7 c1 c3 dn fy;generalize bh.drewN nq=bc at*;have W5:=A (acW j (s.out bc qA));have Xd:=A (asE ub r j);have gz:=A (ub.out.set n r d);have Il:=A (Ag (ub.out.o.lt g rfl).1 X.toList (n*16) _ qA);go_wp2_with (first|(refine afs (by rfl) 47 _ (by rfl) a (k*16) (by rfl) X.toList _ W5 CI (by rfl) q ?_)|(refine aft (by rfl) 47 _ _ (by rfl) g (n*16) X.toList.toArray (by rfl) (by rfl) Xd q RO ?_));have e:=gz.out;rw[pY]at e;exact C8.out e (.inl m) Il
 .by_cases b:x.cZ=y.cZ
  .by_cases t3:y.cX<=x.cX
   .go_quiet (fail);have ub:=A (wy.out.K (pV (bl bh bh) nq));have qA:=A (pV i7 nq);clear wy i7 c1 c3 dn fy;generalize bh.drewN nq=bc at*;have W5:=A (acW j (s.out bc qA));have Xd:=A (asE ub r j);have gz:=A (ub.out.set n r d);have Il:=A (Ag (ub.out.o.lt g rfl).1 X.toList (n*16) _ qA);go_wp2_with (first|(refine afs (by rfl) 47 _ (by rfl) a (k*16) (by rfl) X.toList _ W5 CI (by rfl) q ?_)|(refine aft (by rfl) 47 _ _ (by rfl) g (n*16) X.toList.toArray (by rfl) (by rfl) Xd q RO ?_));have e:=gz.out;rw[pY]at e;exact C8.out e (.inr ⟨b,t3⟩) Il
   exact apa
  .have bi:(x.cZ==y.cZ)=false:=by simpa using b
   exact apa
end Go.bE
