/- ItemInForce, one part of the proof. -/
import Derived.Test.YtdhifebhlocikaaGreatDoorP15
set_option linter.all false
set_option maxRecDepth 100000
set_option maxHeartbeats 16000000
namespace Go.bE
open Go Go.Proofs.Tryz Go.Proofs Go.RowKit Go.Lib Go.aM Go.bk
theorem aIb(w:World)(a:Option Addr)(c:Nat)(l:List b2)(h:kN aD w a l): Calls prog 8 #[.slice a l.length c] w fun e w'=>(∃a' eT R,e=.returned (.slice a' (R:List b2).length eT)/\kN aD w' a' R/\ic (l.map b2.vs) (R.map b2.vs))/\Below w.heap.size w w':=by
 have hS:Hid (0<l.length->∃C,a=some ⟨C,0,none⟩/\C<w.heap.size/\∀j (E:j<l.length),∃F,gT aD w F l[j]/\∀i,i<16->w.cell? ⟨C,j*16+i,none⟩=F[i]?):=A fun af=>(by
  obtain⟨C,e,_,⟨cq,ad⟩,aa⟩:=h.2 af
  exact⟨C,e,bM ad,fun j E=>(by
   obtain⟨F,H,I⟩:=aa j E
   exact⟨F,H.low fun _ _=>gL,I⟩)⟩)
 have o2:=h.1;obtain⟨v',vQ,vX,hb,fm⟩:=iz abv;clear h;go_enter func8,ntmps8
 go_wp2;go_loopw [3,4] (fun v i wr=>∃(k:Nat) (N:List (Array Value)) (R:List b2),k<=l.length/\i=.int .i64 k/\kh w wr v N R/\(R.length=0->v=.slice none 0 0)/\ic ((l.take k).map b2.vs) (R.map b2.vs)/\R.length<=k/\Below w.heap.size w wr) (fun _ i _=>l.length-(RowKit.intOf i).toNat);case atStart=>exact⟨0,[],[],dh _,rfl,kh.nil _ _,fun _=>rfl,ic.nil,aY _,bl _ _⟩
 case round=>
  generalize wr=am at*;obtain⟨k,N,R,az,rfl,dD,BJ,bR,aw,G⟩:=hrel;by_cases au:k<l.length
  ·have jh:(k:Int)<l.length:=z;have dZ:(0:Int)<=(k:Int):=z;obtain⟨C,rfl,jV,g'⟩:=hS.out z;obtain⟨F,ly,tb⟩:=g' k au;have cN:∃x,x=l[k]/\gT aD w F x:=⟨_,rfl,ly⟩;clear ly g';obtain⟨x,v_,ly⟩:=cN;have ua:=A ly;have eh:Hid ((l.take (k+1)).map b2.vs=(l.take k).map b2.vs++[x.vs]):=A (by rw[KL l k au,v_]);have iv:=A bR;have d:=A dD;have f:=A G;obtain⟨X,Z,bN,K,L,V,M,Q,S,O,P,T,U,rfl,_,_,_⟩:=ly;have gM:Hid (∀W,Below w.heap.size w W->∀i,i<16->W.cell? ⟨C,k*16+i,none⟩=(gj x.id x.cX x.fT x.cZ x.kd X x.ej.length Z bN K L V M Q S O P x.eX x.eH T x.prog.length U)[i]?):=A fun W ao i hi=>(ao.cell jV).trans (tb i hi);clear v_ bR dD G tb;by_cases F_:R.length=0
   ·obtain rfl:=CN.1 F_;have ar:N=[]:=CN.1 d.out.l.len;subst ar;obtain rfl:=BJ rfl
    go_wp2;go_loopw [5] (fun i c0=>i=.int .i64 0/\Below w.heap.size w c0) (fun _ _=>0);case atStart=>exact⟨rfl,f.out⟩
    case round=>
     have aB:=d;clear f;obtain⟨rfl,G⟩:=hrel;have f:=A G;have dT:Hid (∀j (E:j<([]:List b2).length),j<0->([]:List b2)[j].id<x.id):=A fun j E=>absurd E (wu _);have d:Hid (kh w wr (.slice none 0 0) [] []):=A (kh.nil w wr);have bi:wr.cell? ⟨C,k*16,none⟩=some (.int .i64 x.id):=gM.out _ G 0 al;go_upto_region 6 with fail
     go_quiet (fail)
     go_wp2;have m:=A (pV (bl wr.heap.size wr) nq);have t:=A (d.out.K m.out);have s:=A (b3 f.out m.out);have r:(wr.drewN nq).cell? ⟨C,k*16,none⟩=some (.int .i64 x.id):=bi;clear d f m bi;generalize wr.drewN nq=o at*;have d:=t;have f:=s;have bi:=r;clear t s r;go_quiet (fail);have m:=A (pV (bl o.heap.size o) nq);have t:=A (d.out.K m.out);have s:=A (b3 f.out m.out);have r:(o.drewN nq).cell? ⟨C,k*16,none⟩=some (.int .i64 x.id):=bi;clear d f m bi;generalize o.drewN nq=w3 at*;have d:=t;have f:=s;have bi:=r;clear t s r;go_upto_region 12 with fail
     obtain⟨dZ,gQ,gb,jg,kV,nE,nF,nG,q0,q1,qY,qZ,rN,pL,rO,qi⟩:=BN (fun i h=>gM.out w3 f.out i h);have E9:=A d.out.l;have ah:=d.out.l.len;have DO:=f.out.size;have L7:=A (K7 (base:=w.heap.size) (e:=47) (size:=16) w3 (gj x.id x.cX x.fT x.cZ x.kd X x.ej.length Z bN K L V M Q S O P x.eX x.eH T x.prog.length U) 1 z al rfl);have xP:Below w3.heap.size w3 (w3.alloc (.cells (gj x.id x.cX x.fT x.cZ x.kd X x.ej.length Z bN K L V M Q S O P x.eX x.eH T x.prog.length U) 47)).drew:=((bl _ _).alloc (aY _) _).drew;have CY:=A (f.out.trans (xP.mono DO));clear xP
     go_region_law (first
      |(refine adB (by rfl) _ _ 31 (by rfl) w.heap.size 47 v' _ 16 216 yM vQ vX hb fm rfl al w3.heap.size 1 1 (gj x.id x.cX x.fT x.cZ x.kd X x.ej.length Z bN K L V M Q S O P x.eX x.eH T x.prog.length U).toList (by rfl) L7.out.drew _ 0 _ [] (by rfl) (.inl ⟨rfl,rfl⟩) (by unfold maxLen;omega) z bw ?_;intro Y s6 w7 lI n4 Gd;simp only[hY,rf]at lI))
     all_goals(
      have Ou:Y<w7.heap.size:=(lI.lt Y rfl).2
      have fd:=A (CY.out.grown n4 bw (fun b G=>by cases G;exact DO))
      have L_:=A lI
      have DN:=fd.out.size
      have yV:Below w7.heap.size w7 (w7.alloc (.cells #[] 47)):=(bl _ _).alloc (aY _) _
      have L8:=A (K7 (base:=w.heap.size) (e:=47) (size:=16) w7 #[] 0 z al rfl)
      have LM:=A (fd.out.trans (yV.mono DN))
      have L9:=A (L_.out.alloc (.cells #[] 47))
      have LZ:Hid (∀u∈(gj x.id x.cX x.fT x.cZ x.kd X x.ej.length Z bN K L V M Q S O P x.eX x.eH T x.prog.length U).toList,u.oneCell'=true):=A (ua.out.xn)
      clear lI n4 Gd CY yV
      go_wp2_with (first
       |(at_builtin;refine KQ rfl _ _ 31 rfl w.heap.size 47 v' _ 16 216 yM vQ vX hb fm rfl al yb 0 M4 _ rfl C9.out (some ⟨Y,0,none⟩) 1 s6 _ rfl L0.out (by unfold maxLen;omega) z z ?_;intro qb zm gI qS qQ Ge;have L':=A qS;have AU:=A (l'.out.grown qQ z (fun b G=>by cases G;exact(C9.out.lt yb rfl).1));clear qS qQ Ge)
       |(at_builtin;refine KQ rfl _ _ 31 rfl w.heap.size 47 v' _ 16 216 yM vQ vX hb fm rfl al w7.heap.size 0 0 [] rfl L8.out _ 0 _ [] rfl (.inl ⟨rfl,rfl⟩) (by unfold maxLen;omega) z bw ?_;intro yb M4 dc m9 ke DM;simp only[gy,vf]at m9;have C9:=A m9;have l':=A (LM.out.grown ke bw (fun b G=>by cases G;exact DN));have L0:=A (x2.oe (L9.out.kept ke (.inr (fun e=>(sM Ou) (gm e)))) z LZ.out);have aj:=l'.out.size;clear m9 ke DM))
      have wz:=A (kh.O5 E9.out ua.out 0 z (by simpa using L'.out) z)
      refine⟨⟨k+1,_,_,z,bz,wz.out,fun af=>absurd af aq,?_,(by first|(simp;done)|(simp;omega)),AU.out⟩,by simp[RowKit.intOf];omega⟩
      rw[eh.out]
      exact ic.aer (l:=l.take k) (R:=[]) iv.out 0 z dT.out (fun E=>absurd E (wu _)))
   ·obtain⟨g,cap,J,j1,TH,tm,iQ,qN⟩:=d.out.Ul z;subst J;clear BJ tm iQ qN
    go_wp2;go_loopw [5] (fun i c0=>∃n:Nat,n<=R.length/\i=.int .i64 n/\(∀j (E:j<R.length),j<n->R[j].id<x.id)/\kh w c0 (.slice (some ⟨g,0,none⟩) R.length cap) N R/\Below w.heap.size w c0) (fun i _=>R.length-(RowKit.intOf i).toNat);case atStart=>exact⟨0,dh _,rfl,fun _ _ h=>absurd h (wu _),d.out,f.out⟩
    case round=>
     clear d f;obtain⟨n,ax,rfl,cK,dD,G⟩:=hrel;have dT:=A cK;have d:=A dD;have f:=A G;clear cK;have bi:wr.cell? ⟨C,k*16,none⟩=some (.int .i64 x.id):=gM.out _ G 0 al;by_cases rJ:n<R.length
     ·obtain⟨mH,si,cg,_,_,_,⟨cq,iQ⟩,qN⟩:=d.out.Ul z;injection cg with ak _ bv
      injection ak with ak
      injection ak with ak _ _
      subst ak;subst bv;have lE:n<N.length:=by rw[d.out.l.len];exact rJ
      have ZR:=qN n rJ lE;have DG:∃y,y=R[n]/\gT aD w N[n] y:=⟨_,rfl,d.out.l.ff n lE rJ⟩;clear qN;obtain⟨y,uN,ai⟩:=DG;generalize N[n]=aF at*;have ay:=A ai;obtain⟨xg,xh,dx,g6,dd,tZ,eW,nt,n0,ln,lo,mM,mN,rfl,_,_,_⟩:=ai;have gW:wr.cell? ⟨g,n*16,none⟩=some (.int .i64 y.id):=ZR 0 al;have B:=bM iQ;have y7:=A uN;have y2:=A ZR;have hc:(0:Int)<=(n:Int):=z;have aA:(n:Int)<R.length:=z;clear uN ZR iQ;go_upto_region 6 with fail
      by_cases av:y.id<x.id
      ·go_quiet (fail)
       go_wp2;exact⟨⟨n+1,z,bz,fun j E h=>(by
        rcases Ll.1 h with h|h
        ·exact dT.out j E h
        ·subst h;rw[←y7.out];exact av),d.out.K (pV (bl _ _) _),pV f.out _⟩,by simp[RowKit.intOf];omega⟩
      ·go_quiet (fail)
       go_wp2;have m:=A (pV (bl wr.heap.size wr) nq);have t:=A (d.out.K m.out);have s:=A (b3 f.out m.out);have r:(wr.drewN nq).cell? ⟨C,k*16,none⟩=some (.int .i64 x.id):=bi;have Dv:(wr.drewN nq).cell? ⟨g,n*16,none⟩=some (.int .i64 y.id):=gW;have D:g<(wr.drewN nq).heap.size:=B;have LO:Hid (∀i,i<16->(wr.drewN nq).cell? ⟨g,n*16+i,none⟩=(gj y.id y.cX y.fT y.cZ y.kd xg y.ej.length xh dx g6 dd tZ eW nt n0 ln lo y.eX y.eH mM y.prog.length mN)[i]?):=y2;clear d f m B y2 bi gW;generalize wr.drewN nq=o at*;have d:=t;have y2:=LO;have f:=s;have B:=D;have bi:=r;have gW:=Dv;clear t s D LO r Dv;by_cases rE:y.id=x.id
       ·go_quiet (fail);have m:=A (pV (bl o.heap.size o) nq);have t:=A (d.out.K m.out);have s:=A (b3 f.out m.out);have r:(o.drewN nq).cell? ⟨C,k*16,none⟩=some (.int .i64 x.id):=bi;have Dv:(o.drewN nq).cell? ⟨g,n*16,none⟩=some (.int .i64 y.id):=gW;have D:g<(o.drewN nq).heap.size:=B;have LO:Hid (∀i,i<16->(o.drewN nq).cell? ⟨g,n*16+i,none⟩=(gj y.id y.cX y.fT y.cZ y.kd xg y.ej.length xh dx g6 dd tZ eW nt n0 ln lo y.eX y.eH mM y.prog.length mN)[i]?):=y2;clear d f m B y2 bi gW;generalize o.drewN nq=w3 at*;have d:=t;have y2:=LO;have f:=s;have B:=D;have bi:=r;have gW:=Dv;clear t s D LO r Dv;go_step;go_step;refine aLV au rJ o2 aw jV gM ua d f B y2 ay ?_ ?_
        ·intros
         rename_i W ao ad ZO
         go_wp2;refine⟨⟨k+1,_,_,z,bz,ao,fun af=>absurd af (by rw[pY];omega),?_,by rw[pY];omega,ZO⟩,by simp[RowKit.intOf];omega⟩;rw[eh.out];exact ic.aL6 (l:=l.take k) iv.out n rJ (by rw[←y7.out];exact rE) (by rw[←y7.out];exact ad)
        ·intros
         rename_i W ao ad ZO
         go_wp2;refine⟨⟨k+1,_,_,z,bz,ao,fun af=>absurd af z,?_,z,ZO⟩,by simp[RowKit.intOf];omega⟩;rw[eh.out];exact ic.aL5 (l:=l.take k) iv.out n rJ (by rw[←y7.out];exact rE) (by rw[←y7.out];exact ad)
       ·have aC:(y.id==x.id)=false:=by simpa using rE
        go_quiet (fail);have m:=A (pV (bl o.heap.size o) nq);have t:=A (d.out.K m.out);have s:=A (b3 f.out m.out);have r:(o.drewN nq).cell? ⟨C,k*16,none⟩=some (.int .i64 x.id):=bi;have Dv:(o.drewN nq).cell? ⟨g,n*16,none⟩=some (.int .i64 y.id):=gW;have D:g<(o.drewN nq).heap.size:=B;clear d f m B bi gW;generalize o.drewN nq=w3 at*;have d:=t;have f:=s;have B:=D;have bi:=r;have gW:=Dv;clear t s D r Dv;go_upto_region 12 with fail
        obtain⟨dZ,gQ,gb,jg,kV,nE,nF,nG,q0,q1,qY,qZ,rN,pL,rO,qi⟩:=BN (fun i h=>gM.out w3 f.out i h);have aH:¬cap=n:=z;have E9:=A d.out.l;have ah:=d.out.l.len;have ae:(N.drop n).take (R.length-n)=N.drop n:=vg (by rw[pm];omega);have DO:=f.out.size;have L7:=A (K7 (base:=w.heap.size) (e:=47) (size:=16) w3 (gj x.id x.cX x.fT x.cZ x.kd X x.ej.length Z bN K L V M Q S O P x.eX x.eH T x.prog.length U) 1 z al rfl);have xP:Below w3.heap.size w3 (w3.alloc (.cells (gj x.id x.cX x.fT x.cZ x.kd X x.ej.length Z bN K L V M Q S O P x.eX x.eH T x.prog.length U) 47)).drew:=((bl _ _).alloc (aY _) _).drew;have ag:=A ((d.out.K xP).part n R.length z (aY _) rfl);rw[ae]at ag;have LX:=A (d.out.K xP);have CY:=A (f.out.trans (xP.mono DO));clear ae xP
        go_region_law (first
         |(refine adB (by rfl) _ _ 31 (by rfl) w.heap.size 47 v' _ 16 216 yM vQ vX hb fm rfl al w3.heap.size 1 1 (gj x.id x.cX x.fT x.cZ x.kd X x.ej.length Z bN K L V M Q S O P x.eX x.eH T x.prog.length U).toList (by rfl) L7.out.drew (some ⟨g,n*16,none⟩) (R.length-n) (cap-n) _ (by rfl) ag.out (by unfold maxLen;omega) z bw ?_;intro Y s6 w7 lI n4 Gd))
        all_goals(
         have T1:Y≠g:=fun e=>by rcases Gd with q|q<;>(try simp at q)<;>omega
         have Ou:Y<w7.heap.size:=(lI.lt Y rfl).2
         have r_:=A (LX.out.kept n4 z)
         have fd:=A (CY.out.grown n4 bw (fun b G=>by cases G;exact DO))
         have L_:=A lI
         have DN:=fd.out.size
         have yV:Below w7.heap.size w7 (w7.alloc (.cells #[] 47)):=(bl _ _).alloc (aY _) _
         have L8:=A (K7 (base:=w.heap.size) (e:=47) (size:=16) w7 #[] 0 z al rfl)
         have y5:Hid (x2 (w7.alloc (.cells #[] 47)) 16 (some ⟨g,0,none⟩) n ((N.take n).flatMap Array.toList)):=A (by have:=(r_.out.K yV).part 0 n (dh _) z rfl;simpa using this)
         have LM:=A (fd.out.trans (yV.mono DN))
         have L9:=A (L_.out.alloc (.cells #[] 47))
         have LZ:Hid (∀u∈(gj x.id x.cX x.fT x.cZ x.kd X x.ej.length Z bN K L V M Q S O P x.eX x.eH T x.prog.length U).toList++(N.drop n).flatMap Array.toList,u.oneCell'=true):=A fun u hu=>(by
          rcases kx.1 hu with hu|hu
          ·exact ua.out.xn u hu
          ·exact(E9.out.drop n).ap4 u hu)
         clear lI n4 Gd LX CY yV r_
         go_wp2_with (first
          |(at_builtin;refine KQ rfl _ _ 31 rfl w.heap.size 47 v' _ 16 216 yM vQ vX hb fm rfl al yb n M4 _ rfl C9.out (some ⟨Y,0,none⟩) (1+(R.length-n)) s6 _ rfl L0.out (by unfold maxLen;omega) z z ?_;intro qb zm gI qS qQ Ge;have L':=A qS;have AU:=A (l'.out.grown qQ z (fun b G=>by cases G;exact(C9.out.lt yb rfl).1));clear qS qQ Ge)
          |(at_builtin;refine KQ rfl _ _ 31 rfl w.heap.size 47 v' _ 16 216 yM vQ vX hb fm rfl al w7.heap.size 0 0 [] rfl L8.out (some ⟨g,0,none⟩) n cap _ rfl y5.out (by unfold maxLen;omega) z bw ?_;intro yb M4 dc m9 ke DM;simp only[gy,vf]at m9;have C9:=A m9;have l':=A (LM.out.grown ke bw (fun b G=>by cases G;exact DN));have L0:=A (x2.oe (L9.out.kept ke (.inr (fun e=>(sM Ou) (gm e)))) z LZ.out);have aj:=l'.out.size;clear m9 ke DM))
         have wz:=A (kh.O5 E9.out ua.out n z (by simpa using L'.out) z)
         refine⟨⟨k+1,_,_,z,bz,wz.out,fun af=>absurd af aq,?_,(by first|(simp;done)|(simp;omega)),AU.out⟩,by simp[RowKit.intOf];omega⟩
         rw[eh.out]
         exact ic.aer (l:=l.take k) iv.out n z dT.out (fun E=>by rw[←y7.out];omega))
     ·obtain rfl:n=R.length:=z;have eW:¬(R.length:Int)<R.length:=z;have B:g<wr.heap.size:=(d.out.o.lt g rfl).2;go_upto_region 6 with fail
      go_quiet (fail)
      go_wp2;have m:=A (pV (bl wr.heap.size wr) nq);have t:=A (d.out.K m.out);have s:=A (b3 f.out m.out);have r:(wr.drewN nq).cell? ⟨C,k*16,none⟩=some (.int .i64 x.id):=bi;have D:g<(wr.drewN nq).heap.size:=B;clear d f m B bi;generalize wr.drewN nq=o at*;have d:=t;have f:=s;have B:=D;have bi:=r;clear t s D r;go_quiet (fail);have m:=A (pV (bl o.heap.size o) nq);have t:=A (d.out.K m.out);have s:=A (b3 f.out m.out);have r:(o.drewN nq).cell? ⟨C,k*16,none⟩=some (.int .i64 x.id):=bi;have D:g<(o.drewN nq).heap.size:=B;clear d f m B bi;generalize o.drewN nq=w3 at*;have d:=t;have f:=s;have B:=D;have bi:=r;clear t s D r;go_upto_region 12 with fail
      obtain⟨dZ,gQ,gb,jg,kV,nE,nF,nG,q0,q1,qY,qZ,rN,pL,rO,qi⟩:=BN (fun i h=>gM.out w3 f.out i h);have E9:=A d.out.l;have ah:=d.out.l.len;have DO:=f.out.size;have L7:=A (K7 (base:=w.heap.size) (e:=47) (size:=16) w3 (gj x.id x.cX x.fT x.cZ x.kd X x.ej.length Z bN K L V M Q S O P x.eX x.eH T x.prog.length U) 1 z al rfl);have xP:Below w3.heap.size w3 (w3.alloc (.cells (gj x.id x.cX x.fT x.cZ x.kd X x.ej.length Z bN K L V M Q S O P x.eX x.eH T x.prog.length U) 47)).drew:=((bl _ _).alloc (aY _) _).drew;have LX:=A (d.out.K xP);have CY:=A (f.out.trans (xP.mono DO));clear xP
      go_region_law (first
       |(refine adB (by rfl) _ _ 31 (by rfl) w.heap.size 47 v' _ 16 216 yM vQ vX hb fm rfl al w3.heap.size 1 1 (gj x.id x.cX x.fT x.cZ x.kd X x.ej.length Z bN K L V M Q S O P x.eX x.eH T x.prog.length U).toList (by rfl) L7.out.drew _ 0 _ [] (by rfl) (.inl ⟨rfl,rfl⟩) (by unfold maxLen;omega) z bw ?_;intro Y s6 w7 lI n4 Gd;simp only[hY,rf]at lI))
      all_goals(
       have T1:Y≠g:=fun e=>by rcases Gd with q|q<;>(try simp at q)<;>omega
       have Ou:Y<w7.heap.size:=(lI.lt Y rfl).2
       have r_:=A (LX.out.kept n4 z)
       have fd:=A (CY.out.grown n4 bw (fun b G=>by cases G;exact DO))
       have L_:=A lI
       have DN:=fd.out.size
       have yV:Below w7.heap.size w7 (w7.alloc (.cells #[] 47)):=(bl _ _).alloc (aY _) _
       have L8:=A (K7 (base:=w.heap.size) (e:=47) (size:=16) w7 #[] 0 z al rfl)
       have y5:Hid (x2 (w7.alloc (.cells #[] 47)) 16 (some ⟨g,0,none⟩) R.length ((N.take R.length).flatMap Array.toList)):=A (by have:=(r_.out.K yV).part 0 R.length (dh _) z rfl;simpa using this)
       have LM:=A (fd.out.trans (yV.mono DN))
       have L9:=A (L_.out.alloc (.cells #[] 47))
       have LZ:Hid (∀u∈(gj x.id x.cX x.fT x.cZ x.kd X x.ej.length Z bN K L V M Q S O P x.eX x.eH T x.prog.length U).toList,u.oneCell'=true):=A (ua.out.xn)
       clear lI n4 Gd LX CY yV r_
       go_wp2_with (first
        |(at_builtin;refine KQ rfl _ _ 31 rfl w.heap.size 47 v' _ 16 216 yM vQ vX hb fm rfl al yb R.length M4 _ rfl C9.out (some ⟨Y,0,none⟩) 1 s6 _ rfl L0.out (by unfold maxLen;omega) z z ?_;intro qb zm gI qS qQ Ge;have L':=A qS;have AU:=A (l'.out.grown qQ z (fun b G=>by cases G;exact(C9.out.lt yb rfl).1));clear qS qQ Ge)
        |(at_builtin;refine KQ rfl _ _ 31 rfl w.heap.size 47 v' _ 16 216 yM vQ vX hb fm rfl al w7.heap.size 0 0 [] rfl L8.out (some ⟨g,0,none⟩) R.length cap _ rfl y5.out (by unfold maxLen;omega) z bw ?_;intro yb M4 dc m9 ke DM;simp only[gy,vf]at m9;have C9:=A m9;have l':=A (LM.out.grown ke bw (fun b G=>by cases G;exact DN));have L0:=A (x2.oe (L9.out.kept ke (.inr (fun e=>(sM Ou) (gm e)))) z LZ.out);have aj:=l'.out.size;clear m9 ke DM))
       have wz:=A (kh.O5 E9.out ua.out R.length z (by rw[K' (show N.length<=R.length by rw[E9.out.len];exact aY _)];simpa using L'.out) rfl)
       refine⟨⟨k+1,_,_,z,bz,wz.out,fun af=>absurd af aq,?_,(by first|(simp;done)|(simp;omega)),AU.out⟩,by simp[RowKit.intOf];omega⟩
       rw[eh.out]
       exact ic.aer (l:=l.take k) iv.out R.length z dT.out (fun E=>absurd E (Rp _)))
  ·obtain rfl:k=l.length:=z;have jh:¬(l.length:Int)<l.length:=z;rw[sL]at bR;obtain⟨aE,aG,rfl,an⟩:=dD.Um G z
   go_wp2;go_ret;exact⟨⟨_,_,R,rfl,an,bR⟩,G⟩
end Go.bE
namespace Go.bE
open Go Go.Proofs.Tryz Go.Proofs Go.RowKit Go.Lib Go.aM
attribute [local irreducible] wpStill in
def aKb(w:Γ)(a b:Θ)(c d:Nat)(l m:List Ψ)(h:g0 aD w a l)(g:g0 aD w b m): χ 62 #[.slice a l c,.slice b m d] w λe w'=>p7 (λr=>r=true↔l=m) e:=by
 by_cases f:l.length=m.length
 .have dA:((l.length:Int) !=(m.length:Int))=false:=by simp[f]
  have ig:=A (λW (i:β w W)=>(h.K i).2);have k9:=A (λW (i:β w W)=>(g.K i).2);have dT:=A f;have n:=h.1;clear h g f;go_enter func62,ntmps62;go_wp2;go_loopw [13] (λv wr=>∃k:Nat,k<=l.length/\v=.int .i64 k/\(∀(j:Nat) (H:j<l) (I:j<m),j<k->l[j]=m[j])/\β w wr) (λv _=>l.length-(RowKit.intOf v).toNat);case atStart=>exact⟨0,dh _,rfl,λ_ _ _ h=>absurd h (wu _),bl _ _⟩
  case round=>exact ao_
 .have dA:((l.length:Int) !=(m.length:Int))=true:=bw;have g8:Hid (l≠m):=A λe=>f (by rw[e]);clear h g;go_enter func62,ntmps62;exact Kd
def If(P c':Γ->Ω->bs->Prop):Prop:=∀(w:Γ) (F a:Ω) (v u:bs),P w F v->c' w a u->
 Calls prog 29 #[.agg F,.agg a] w λe w'=>p7 (λr=>r=true↔v=u) e/\Below w.heap.size w w'
def ajT{P c':Γ->Ω->bs->Prop}(uQ:qF aD P)(xi:qF aD c')(k8:If P c')(w:Γ)(a b:Θ)(c d:Nat)(l m:List bs)(h:cm aD P w a l)(i:cm aD c' w b m): χ 28 #[.slice a l c,.slice b m d,.func (.func 29) #[] #[]] w λe w'=>p7 (λr=>r=true↔l=m) e:=by
 by_cases g:l.length=m.length
 .have dA:((l.length:Int) !=(m.length:Int))=false:=by simp[g]
  have ig:=A (λW (n:β w W)=>(cm.K uQ h n).2);have k9:=A (λW (n:β w W)=>(cm.K xi i n).2);have gM:=A k8;have dT:=A g;have e8:=h.1;clear h i g k8;go_enter func28,ntmps28;go_wp2;go_loopw [17] (λv wr=>∃k:Nat,k<=l.length/\v=.int .i64 k/\(∀(j:Nat) (H:j<l) (I:j<m),j<k->l[j]=m[j])/\β w wr) (λv _=>l.length-(RowKit.intOf v).toNat);case atStart=>exact⟨0,dh _,rfl,λ_ _ _ h=>absurd h (wu _),bl _ _⟩
  case round=>
   obtain⟨k,aa,rfl,uz,G⟩:=hrel;have HEq:=A uz;clear uz;by_cases au:k<l
   .have o:=G;obtain⟨dK,eL,rfl,_,iE,Y⟩:=ig.out _ o z;obtain⟨cV,lX,rfl,_,iO,kc⟩:=k9.out _ o (by have:=dT.out;omega);let⟨bN,u,x,D,y,S,mB,U,L,mO,M,ag,f⟩:=Y k au;let⟨dx,V,K,Q,O,nt,q,n0,ln,s,lo,t,aj⟩:=kc k (by have:=dT.out;omega);have gQ:(0:Int)<=(k:Int):=z;have gb:(k:Int)<l.length:=z;have jg:(k:Int)<m.length:=by have:=dT.out;omega
    have wb:dK<wr.heap.size:=iE;have GN:cV<wr.heap.size:=iO;have gz:Hid (l[k]=m[k]'(by have:=dT.out;omega)->∀(j:Nat) (H:j<l) (I:j<m),j<k+1->l[j]=m[j]):=A λaP j H I ah=>(by
     rcases Ll.1 ah with h|h
     .exact HEq.out j H I h
     .subst h;exact aP)
    have g8:Hid (l[k]≠m[k]'(by have:=dT.out;omega)->l≠m):=A λbO e=>bO (by subst e;rfl);have T:=k0 wr (.cells (bC bN u x D y S mB U L mO M) 44 (0,0)) (.cells (bC dx V K Q O nt q n0 ln s lo) 44 (0,0));have gi:=A (gM.out _ _ _ _ _ (uQ _ _ _ _ ag (eR.hs T.h)) (xi _ _ _ _ t (eR.hs T.h)));have N:=f.bi;have F:=f.c1;have J:=f.c2;have X:=f.c3;have hI:=f.c4;have Z:=f.c5;have iI:=f.fe;have fi:=aj.bi;have B:=aj.c1;have E:=aj.c2;have R:=aj.c3;have il:=aj.c4;have lm:=aj.c5;have kJ:=aj.fe;clear Y kc f aj ag t;go_upto_region 7 with fail
    have lr:=A (b3 o T.h);clear N F J X hI Z iI fi B E R il lm kJ;generalize ((wr.alloc (.cells (bC bN u x D y S mB U L mO M) 44 (0,0))).alloc (.cells (bC dx V K Q O nt q n0 ln s lo) 44 (0,0)))=ap at*;let⟨N,F,J,X,hI,Z,iI⟩:=eU T.p;let⟨fi,B,E,R,il,lm,kJ⟩:=eU T.q;go_wp2_with (go_at_call 29;refine gi.out.mono ?_;rintro e bh ⟨⟨im,rfl,lh⟩,C⟩;have sT:=A lh;clear lh;have i7:=A (b3 lr C);clear C;cases im);exact an4;exact aoG
   exact Uz
 .have dA:((l.length:Int) !=(m.length:Int))=true:=bw;have g8:Hid (l≠m):=A λe=>g (by rw[e]);clear h i;go_enter func28,ntmps28;exact Kd
def aza{P c':Γ->Ω->bs->Prop}(i:qF aD P)(j:qF aD c')(g:If P c')(w:Γ)(a b:Θ)(c d:Nat)(l m:List bs)(h:cm aD P w a l)(f:cm aD c' w b m): χ 64 #[.slice a l c,.slice b m d] w λe w'=>p7 (λr=>r=true↔l=m) e:=by have gi:=A (ajT i j g w a b c d l m h f);clear h f;go_enter func64,ntmps64;exact apm
def Y'{P c':Γ->Ω->bs->Prop}(y:qF aD P)(C:qF aD c')(t:If P c')(w:Γ)(a b:Θ)(c d:Nat)(l m:List (List bs))(h:fz aD P w a l)(f:fz aD c' w b m): χ 63 #[.slice a l c,.slice b m d,.func (.func 64) #[] #[]] w λe w'=>p7 (λr=>r=true↔l=m) e:=by
 by_cases g:l.length=m.length
 .have dA:((l.length:Int) !=(m.length:Int))=false:=by simp[g]
  have R:=A (λW (i:β w W)=>(fz.K y h i).2);have T:=A (λW (i:β w W)=>(fz.K C f i).2);have M:=A (λW a b c d l m h f=>aza y C t W a b c d l m h f);have dT:=A g;have e8:=h.1;clear h f g t;go_enter func63,ntmps63;go_wp2;go_loopw [17] (λv wr=>∃k:Nat,k<=l.length/\v=.int .i64 k/\(∀(j:Nat) (H:j<l) (I:j<m),j<k->l[j]=m[j])/\β w wr) (λv _=>l.length-(RowKit.intOf v).toNat);case atStart=>exact⟨0,dh _,rfl,λ_ _ _ h=>absurd h (wu _),bl _ _⟩
  case round=>
   obtain⟨k,Y,rfl,B,G⟩:=hrel;have HEq:=A B;clear B;by_cases au:k<l
   .have n:=G;obtain⟨J,eL,rfl,_,O,s⟩:=R.out _ n z;obtain⟨F,lX,rfl,_,Q,u⟩:=T.out _ n (by have:=dT.out;omega);let⟨K,L,ag,o⟩:=s k au;let⟨U,V,Z,aj⟩:=u k (by have:=dT.out;omega);have gQ:(0:Int)<=(k:Int):=z;have gb:(k:Int)<l.length:=z;have jg:(k:Int)<m.length:=by have:=dT.out;omega
    have wb:J<wr.heap.size:=O;have X:F<wr.heap.size:=Q;have gz:Hid (l[k]=m[k]'(by have:=dT.out;omega)->∀(j:Nat) (H:j<l) (I:j<m),j<k+1->l[j]=m[j]):=A λaP j H I D=>(by
     rcases Ll.1 D with h|h
     .exact HEq.out j H I h
     .subst h;exact aP)
    have g8:Hid (l[k]≠m[k]'(by have:=dT.out;omega)->l≠m):=A λE e=>E (by subst e;rfl);have N:=A (M.out _ K U L V _ _ o aj);clear s u o aj;go_wp2_with (go_at_call 64;refine N.out.mono ?_;rintro e bh ⟨⟨S,rfl,x⟩,q⟩;have sT:=A x;clear x;have i7:=A (b3 n q);clear q;cases S);exact an4;exact aoG
   exact Uz
 .have dA:((l.length:Int) !=(m.length:Int))=true:=bw;have g8:Hid (l≠m):=A λe=>g (by rw[e]);clear h f;go_enter func63,ntmps63;exact Kd
theorem Zd(w:World)(k N S n f l m n':Int)(s o:ByteArray)(ca ra g q:Option Addr)(cc rc x u:Nat)(cs c:List ByteArray)(aG d:List (List bs))(h:g0 aD w ca cs)(C:g0 aD w g c) (a:∀W,Below w.heap.size w W->Calls prog 63 #[.slice ra aG.length rc,.slice q d.length u,.func (.func 64) #[] #[]] W fun e w'=>p7 (fun r=>r=true↔aG=d) e/\Below W.heap.size W w'): Calls prog 29 #[.agg (bC k s N S n ca cs.length cc ra aG.length rc),.agg (bC f o l m n' g c.length x q d.length u)] w fun e w'=>p7 (fun r=>r=true↔bs.mk k s N S n cs aG=bs.mk f o l m n' c d) e/\Below w.heap.size w w':=by
 have jn:Below w.heap.size w ((w.alloc (.cells (bC k s N S n ca cs.length cc ra aG.length rc) 44 (0,0))).alloc (.cells (bC f o l m n' g c.length x q d.length u) 44 (0,0))):=
  ((bl _ _).alloc (aY _) _).alloc aq _
 by_cases dA:k=f
 ·subst dA;by_cases ak:s=o
  ·subst ak;have H:=qH s;by_cases aI:N=l
   ·subst aI;by_cases bv:S=m
    ·subst bv;by_cases cI:n=n'
     ·subst cI;have F:=A (aKb _ ca g cc x cs c (h.K jn) (C.K jn));have T:=k0 w (.cells (bC k s N S n ca cs.length cc ra aG.length rc) 44 (0,0)) (.cells (bC k s N S n g c.length x q d.length u) 44 (0,0));have z:=A a;have I:=A jn;clear a jn h C;go_enter HQ,K1
      go_wp2_with (first
       |(go_at_call 62;(with_reducible refine(F.out).mono ?_);rintro e M ⟨⟨K,rfl,E⟩,B⟩;have uc:=A E;clear E;have D:=T.K B;have R:=aN 6 D.p;have Q:=aN 6 D.q;have cu:=A (b3 I.out B);cases K)
       |(go_at_call 63;(with_reducible refine(z.out _ cu.out).mono ?_);rintro e G ⟨⟨L,rfl,j⟩,y⟩;have L2:=A j;clear j;have ex:=A (b3 cu.out y);clear cu))
      ·exact an5
      ·go_wp2_with (first
        |(go_at_call 63;(with_reducible refine(z.out _ cu.out).mono ?_);rintro e G ⟨⟨L,rfl,j⟩,y⟩;have L2:=Lib.hid j;clear j;have ex:=Lib.hid (b3 cu.out y);clear cu))
       exact aoT
     ·have U:(n==n')=false:=by simpa using cI
      clear a;go_enter HQ,K1;exact aoC
    ·have P:(S==m)=false:=by simpa using bv
     clear a;go_enter HQ,K1;exact aop
   ·have O:(N==l)=false:=by simpa using aI
    clear a;go_enter HQ,K1;exact an9
  ·have H:=fX ak;clear a;go_enter HQ,K1;exact ao'
 ·have fi:(k==f)=false:=by simpa using dA
  clear a;go_enter HQ,K1;exact aon
def azb:∀(d b:Nat),If (aR aD d) (aR aD b):=by
 have E:∀P,If (λ_ _ _=>False) P:=λP w F z v u h=>h.elim;have G:∀P,If P (λ_ _ _=>False):=λP w F z v u _ h=>h.elim;have B:qF aD (λ_ _ _=>False):=λ_ _ _ _ h=>h.elim;have C:∀w a,fz aD (λ_ _ _=>False) w a []:=λw a=>⟨aq,λaf=>absurd af aq⟩;intro d;induction d with
 |zero=>intro b w F z v u h g;let⟨k,s,N,S,n,cs,aG⟩:=v;let⟨q,r,x,y,n',t,m⟩:=u;obtain⟨rfl,ca,cc,ra,rc,rfl,o⟩:=h;obtain⟨i,j,c,e,rfl,l,A⟩:=g.gX;exact Zd w k N S n q x y n' s r ca ra i c cc rc j e cs t [] m o l (λW f=>Y' B (aR.mono aD (b-1)) (E _) W ra c rc e [] m (C _ _) (fz.K (aR.mono aD _) A f))
 |succ d H=>
  intro b w F z v u h g;let⟨k,s,N,S,n,cs,aG⟩:=v;let⟨q,r,x,y,n',t,m⟩:=u;obtain⟨ca,cc,ra,rc,rfl,o,D⟩:=h.gX;cases b with
  |zero=>obtain⟨rfl,i,j,c,e,rfl,l⟩:=g;exact Zd w k N S n q x y n' s r ca ra i c cc rc j e cs t aG [] o l (λW f=>Y' (aR.mono aD d) B (G _) W ra c rc e aG [] (fz.K (aR.mono aD _) D f) (C _ _))
  |succ b=>obtain⟨i,j,c,e,rfl,l,A⟩:=g.gX;exact Zd w k N S n q x y n' s r ca ra i c cc rc j e cs t aG m o l (λW f=>Y' (aR.mono aD d) (aR.mono aD b) (H b) W ra c rc e aG m (fz.K (aR.mono aD _) D f) (fz.K (aR.mono aD _) A f))
def aIx(d f:Nat)(w:Γ)(a b:Θ)(c e:Nat)(l m:List bs)(h:uk d w a l)(g:uk f w b m):
  χ 28 #[.slice a l c,.slice b m e,.func (.func 29) #[] #[]] w λe w'=>p7 (λr=>r=true↔l=m) e:=
 ajT (aR.mono aD d) (aR.mono aD f) (azb d f) w a b c e l m h g
end Go.bE
namespace Go.bE
open Go Go.Proofs.Tryz Go.Proofs Go.RowKit Go.Lib Go.aM Go.bk
def aDm(w:Γ)(a:Θ)(c B:Nat)(row:List bs)(F:Ω)(x:b2)(h:uk 1 w a row)(d:jM w B 47 F)(j:gT aD w F x): χ 27 #[.slice a row c,.pointer (some ⟨B,0,none⟩)] w λe w'=>p7 (λr=>r=true↔row=x.ej) e:=by obtain⟨g,f,bN,k,l,C,m,q,s,n,o,y,z,rfl,_,hi,_⟩:=j;have u:=bM d;have c5:w ⟨B,5,none⟩=some (.slice g x.ej f):=aN 5 d;have gi:=A (aIx 1 1 w a g c f row x.ej h hi);clear h d hi;go_enter func27,ntmps27;exact apm
def aDa(w:Γ)(a:Θ)(c B:Nat)(aG:List (List bs))(F:Ω)(x:b2)(h:fz aD (aR aD 1) w a aG)(l:jM w B 47 F)(g:gT aD w F x): χ 65 #[.slice a aG c,.func (.func 27) #[] #[.pointer (some ⟨B,0,none⟩)]] w λe w'=>(∃ai:Int,e=.returned ai/\(0<=ai↔x.ej∈aG)):=by
 have O:=A (λW (b:β w W)=>(fz.K (aR.mono aD 1) h b).2);have D:=A (λW (b:β w W)=>l.K b);have N:=A (λW (b:β w W)=>g.eB (.hs b));have T:=h.1;clear h l g;go_enter func65,ntmps65;go_wp2;go_loopw [5,8] (λ_ i wr=>∃k:Nat,k<=aG.length/\i=.int .i64 k/\(∀(j:Nat) (H:j<aG),j<k->aG[j]≠x.ej)/\β w wr) (λ_ i _=>aG.length-(RowKit.intOf i).toNat);case atStart=>exact⟨0,dh _,rfl,λ_ _ h=>absurd h (wu _),bl _ _⟩
 case round=>
  obtain⟨k,Q,rfl,n,G⟩:=hrel;have o:=A n;clear n;by_cases au:k<aG
  .obtain⟨S,U,rfl,_,V,q⟩:=O.out _ G z;let⟨E,I,ag,f⟩:=q k au;have J:(0:Int)<=(k:Int):=z;have K:(k:Int)<aG.length:=z;have L:=A (aDm wr E I B aG[k] F x f (D.out _ G) (N.out _ G));have P:Hid (aG[k]=x.ej->x.ej∈aG):=A λe=>e▸fp _;have d:Hid (aG[k]≠x.ej->∀(j:Nat) (H:j<aG),j<k+1->aG[j]≠x.ej):=A λaP j H y=>(by
    rcases Ll.1 y with h|h
    .exact o.out j H h
    .subst h;exact aP)
   clear q f;go_wp2_with (go_at_call 27;refine L.out.mono ?_;rintro e R ⟨⟨M,rfl,s⟩,m⟩;have t:=A s;clear s;have r:=A (b3 G m);clear m;cases M)
   .go_wp2;go_roundw;case rel=>exact⟨k+1,z,bz,d (λe=>by have:=t.out.2 e;simp_all),r⟩
    case measure=>simp[RowKit.intOf];omega
   .go_wp2;go_ret;exact⟨⟨_,rfl,λ_=>P.out (t.out.1 (by trivial)),λ_=>J⟩,r⟩
  .have K:¬(k:Int)<aG.length:=z;have d:Hid (x.ej∉aG):=A λC=>(by
    let⟨j,u,e⟩:=AI.1 C
    exact o.out j u z e)
   go_wp2;go_ret;exact⟨⟨_,rfl,z,λh=>absurd h d⟩,G⟩
def ax2(w:Γ)(a:Θ)(c B:Nat)(aG:List (List bs))(F:Ω)(x:b2)(h:fz aD (aR aD 1) w a aG)(f:jM w B 47 F)(d:gT aD w F x): χ 30 #[.slice a aG c,.func (.func 27) #[] #[.pointer (some ⟨B,0,none⟩)]] w λe w'=>p7 (λr=>r=true↔x.ej∈aG) e:=by have i:=A (aDa w a c B aG F x h f d);clear h f d;go_enter func30,ntmps30;go_wp2_with (go_at_call 65;refine i.out.mono ?_;rintro e w' ⟨⟨ai,rfl,b⟩,g⟩;have j:=A b;clear b);go_ret;exact⟨⟨_,rfl,by simpa using j.out⟩,g⟩
def asX{ops:Array Oper}{rest:List Oper}{o:Oper}{a:Act}{c':Exit->Act->Γ->Prop}(u:o.guard=none)(s x:Operand) (n:o.op=.call {callee:=.builtin .append,args:=#[s,x],argTypes:=#[34,34]}) {w:Γ}{base d:Nat}{v:Φ}{l:List (List bs)}{ra:Θ}{y:List bs}{rc:Nat} (j:a.eval s=v)(g:iu base d w v l)(k:a.eval x=.slice (some ⟨w,0,none⟩) 1 1)(q:cm (i_ base v) (aR (i_ base v) d) w ra y)(C:l.length<=100)(jE:base<=w.heap.size) (h:∀e w',iu base d w' e (l++[y])->Below base w w'->wpList prog ops c' rest (a.put o.dst e) w'): wpList prog ops c' (o::rest) a (w.alloc (.cells #[.slice ra y rc] 45)):=by
 let⟨i,hi,r,A,B⟩:=iz J3;let⟨ss,H,I,m⟩:=g.o;refine asW u s x 34 n base 45 i _ 1 24 K5 hi r A B rfl al v l ss j (uS I ((eR.refl _ w).alloc _)) ⟨w,0,none⟩ 1 1 [.slice ra y rc] k rfl (r5 (cs:=#[.slice ra y rc]) (t:=45) (fr:=(0,0)) (pW w _)) (by simp[Value.oneCell']) al (by unfold maxLen;omega) z bw λe w' f bb E c=>h e w' ?_ ?_
 .rcases f.2 with⟨aS,D⟩|⟨mH,cap,cq,rfl,aI,bv,cI⟩
  omega
  .refine g.push q bb ?_ H m f;rcases c with c|c
   exact .inl c.symm;right;have:=gm c;simpa using this
 exact aph
def QD{b:Type}(l:List b)(j:Nat)(a:j<l):l.take (j+1)=l.take j++[l[j]]:=r6 a
abbrev Dd(l:List b2)(r:List (List bs)):Prop:=p2 (λx:b2=>x.kd=4) b2.ej l r
def aDn(w:Γ)(a:Θ)(c:Nat)(l:List b2)(h:kN aD w a l): χ 9 #[.slice a l c] w λe w'=>(∃a' eT r,e=.returned (.slice a' (r:List (List bs)).length eT)/\fz aD (aR aD 1) w' a' r/\Dd l r):=by
 have hS:=A λW (ao:β w W)=>(h.K ao).2;have o2:=h.1;clear h;go_enter func9,ntmps9;go_wp2;go_loopw [3,9] (λv i wr=>∃(j:Nat) (r:List (List bs)),j<=l.length/\i=.int .i64 j/\iu w 1 wr v r/\Dd (l.take j) r/\β w wr) (λ_ i _=>l.length-(RowKit.intOf i).toNat);case atStart=>exact⟨0,[],dh _,rfl,iu.nil _ _ _,p2.nil,bl _ _⟩
 case round=>(obtain⟨j,r,ab,rfl,b',cy,G⟩:=hrel;have ad:r.length<=12:=by have:=(p2.NA j (l.take j) (by rw[mw];omega) cy cy).2;omega);by_cases au:j<l;{(have jh:(j:Int)<l.length:=z;have Y:(0:Int)<=(j:Int):=z;obtain⟨bG,rfl,_,iQ,wZ⟩:=hS.out wr G z;let⟨F,n,tb⟩:=wZ j au;have cN:∃x,x=l[j]/\gT (λx=>aD x/\x≠bG) wr F x:=⟨_,rfl,n⟩;clear n wZ iQ;let⟨x,Q,n⟩:=cN;have U:=n.low (B':=aD) λ_ _=>gL;obtain⟨f,k,bN,s,u,M,B,H,I,C,D,K,L,rfl,sy,tE,JX⟩:=n;have R:Hid (x.kd=4∨x.ej∈r->Dd (l.take (j+1)) r):=A λq=>by rw[QD l j au,<-Q];exact .skip cy q);(have ud:Hid (¬x.kd=4->x.ej∉r->Dd (l.take (j+1)) (r++[x.ej])):=A λq gx=>by rw[QD l j au,<-Q];exact .d_ cy q gx);(clear Q cy;let⟨Y,gQ,gb,jg,kV,nE,nF,nG,q0,q1,qY,qZ,rN,pL,rO,qi⟩:=BN tb;have N:=A (c7 wr (.cells (gj x.id x.cX x.fT x.cZ x.kd f x.ej k bN s u M B H I C D x.eX x.eH K x.prog L) 47));have g:=fu wr (.cells (gj x.id x.cX x.fT x.cZ x.kd f x.ej k bN s u M B H I C D x.eX x.eH K x.prog L) 47);have pF:wr.heap.size<(wr.alloc (.cells (gj x.id x.cX x.fT x.cZ x.kd f x.ej k bN s u M B H I C D x.eX x.eH K x.prog L) 47)).heap.size:=aq;have V:=A (b3 G g);have X:=A (b'.K g);have RU:=A (cm.K (aR.mono _ 1) (cm.low (λ_ _=>gL) (λ_ _ _ h=>aR.low (λ_ _=>gL) h) tE:cm aD (aR aD 1) wr f x.ej) g);obtain⟨be,aW,rfl,dE⟩:=(b'.K g).aG z;have gM:=A (ax2 _ be aW wr r _ x (fz.low (λ_ _=>gL) (λ_ _ _ h=>aR.low (λ_ _=>gL) h) dE) (N.out:jM _ wr 47 _) (U.eB (.hs g)));have o7:=G.size;clear tb sy tE JX U dE b' G g;go_upto_region 5 with fail);clear Y gQ gb jg kV nE nF nG q0 q1 qY qZ rN pL rO qi;generalize (wr.alloc (.cells (gj x.id x.cX x.fT x.cZ x.kd f x.ej k bN s u M B H I C D x.eX x.eH K x.prog L) 47))=br at*;have v4:br ⟨wr,4,none⟩=x.kd:=aN 4 N;by_cases o:x.kd=4;{(have cI:(x.kd !=4)=false:=by simp[o]);(go_wp2;go_roundw;case rel=>exact⟨j+1,r,z,bz,X,R (.inl o),V⟩);case measure=>simp[RowKit.intOf];omega};{(have cI:(x.kd !=4)=true:=by simp[o]);go_wp2_with (first|(go_at_call 30;refine gM.out.mono ?_;rintro e w7 ⟨⟨im,rfl,lh⟩,m⟩;have sT:=A lh;clear lh;have E:=A (b3 V m);have P:=A (X.out.K m);have aa:=A (cm.K (aR.mono aD 1) RU m);have T:=A (jM.K N m);clear m;have v5:w7 ⟨wr,5,none⟩=some (.slice f x.ej k):=aN 5 T;have ae:=bM T;cases im)|(go_at_call 31;refine(ai7 _ f k x.ej aa).mono ?_;rintro e dc ⟨⟨fw,me,rfl,tf⟩,Z⟩;have Xa:=A tf;have O:=A Z;clear tf Z)|(at_builtin;refine asX rfl _ _ rfl (base:=w.heap.size) (d:=1) (l:=r) (y:=x.ej) (v:=.slice be r aW) rfl (P.out.K O) rfl (P.out.pf (aY _) (by have:=E.out.size;omega) Xa) z (by have:=E.out.size;have:=O.out.size;omega) ?_;intro v9 gI qb S;have C3:=A qb;have AU:=A ((b3 E O).trans S);clear qb S));{(go_roundw;case rel=>exact⟨j+1,r++[x.ej],z,bz,C3,ud o (λq=>by have:=sT.out.2 q;simp_all),AU⟩);case measure=>simp[RowKit.intOf];omega};{(go_roundw;case rel=>exact⟨j+1,r,z,bz,P,R (.inr (sT.out.1 (by trivial))),E⟩);case measure=>simp[RowKit.intOf];omega}}};exact an1
def aIc(w:Γ)(a:Θ)(c:Nat)(l:List b2)(h:kN aD w a l): χ 10 #[.slice a l c] w λe w'=>(∃a' eT r,e=.returned (.slice a' (r:List (List bs)).length eT)/\fz aD (aR aD 1) w' a' r/\Dd l r):=by
 have hS:=A λW (k:β w W)=>(h.K k).2;have o2:=h.1;clear h;go_enter func10,ntmps10;go_wp2;go_loopw [3,4] (λv i wr=>∃(j:Nat) (r:List (List bs)),j<=l.length/\i=.int .i64 j/\iu w 1 wr v r/\Dd (l.take j) r/\β w wr) (λ_ i _=>l.length-(RowKit.intOf i).toNat);case atStart=>exact⟨0,[],dh _,rfl,iu.nil _ _ _,p2.nil,bl _ _⟩
 case round=>
  generalize wr=g at*;obtain⟨j,r,ab,rfl,b',cy,G⟩:=hrel;have af:r.length<=12:=by have:=(p2.NA j (l.take j) (by rw[mw];omega) cy cy).2;omega
  by_cases au:j<l
  .have jh:(j:Int)<l.length:=z;have dZ:(0:Int)<=(j:Int):=z;obtain⟨B,rfl,_,⟨cq,S⟩,wZ⟩:=hS.out g G z;let⟨F,ly,K⟩:=wZ j au;have T:=bM S;have cN:∃x,x=l[j]/\gT (λx=>aD x/\x≠B) g F x:=⟨_,rfl,ly⟩;clear ly wZ S;obtain⟨x,L,u,C,bN,bH,bL,hm,bT,fq,fs,e5,e6,hO,hP,rfl,_,tE,_⟩:=cN;have Iu:Hid (x.kd=4∨x.ej∈r->Dd (l.take (j+1)) r):=A λq=>by rw[QD l j au,<-L];exact .skip cy q
   have ud:Hid (¬x.kd=4->x.ej∉r->Dd (l.take (j+1)) (r++[x.ej])):=A λq gx=>by rw[QD l j au,<-L];exact .d_ cy q gx
   have O:=A λW (k:β g W)=>cm.K (aR.mono _ 1) (cm.low (λ_ _=>gL) (λ_ _ _ h=>aR.low (λ_ _=>gL) h) tE:cm aD (aR aD 1) g u x.ej) k;clear L cy tE;have kV:g ⟨B,j*16+4,none⟩=x.kd:=K 4 al;have nE:g ⟨B,j*16+5,none⟩=some (.slice u x.ej C):=K 5 al;have D:=A b';have s:=A G;let⟨be,aW,J,dE⟩:=b'.aG z;subst J;have jN:=A λW (k:β g W)=>fz.K (aR.mono aD 1) (fz.low (λ_ _=>gL) (λ_ _ _ h=>aR.low (λ_ _=>gL) h) dE:fz aD (aR aD 1) g be r) k;clear K dE b' G;go_wp2;go_loopw [5,6] (λt i c0=>∃(b:Bool) (n:Nat),n<=r.length/\t=.bool b/\i=.int .i64 n/\(b=true↔x.kd=4∨x.ej∈r.take n)/\β g c0) (λ_ i _=>r.length-(RowKit.intOf i).toNat);case atStart=>exact⟨_,0,dh _,rfl,rfl,aq,bl _ _⟩
   case round=>
    obtain⟨b,n,ax,rfl,rfl,M,m⟩:=hrel;have o:=A M;clear M;have c5:=aA m T nE;by_cases rJ:n<r
    .obtain⟨bS,eI,rfl,_,j3,U⟩:=(jN.out _ m).2 z;let⟨Y,Z,ag,P⟩:=U n rJ;have ae:(n:Int)<r.length:=z;have hc:(0:Int)<=(n:Int):=z;have E:Hid (r.take (n+1)=r.take n++[r[n]]):=A (QD r n rJ);have gM:=A λW (k:β wr W)=>arJ 1 1 W Y u Z C r[n] x.ej (cm.K (aR.mono aD 1) P k) (O.out W (b3 m k));have f:=A m;have ad:=cT m T;clear U P;cases b with
     |true=>
      go_upto_region 9 with fail
      go_quiet (fail)
      go_wp2;exact⟨⟨true,n+1,z,rfl,bz,⟨λ_=>by rw[E.out];rcases o.out.1 rfl with q|q;exact .inl q;exact .inr (afD _ q),λ_=>rfl⟩,pV f _⟩,by simp[RowKit.intOf];omega⟩
     |false=>
      generalize aC:r[n]=y at*;clear aC;go_upto_region 9 with fail
      go_region_held3 (λX=>X ⟨bS,eI+n,none⟩=some (.slice Y y Z)/\X ⟨B,j*16+5,none⟩=some (.slice u x.ej C)) (first|with_reducible exact⟨ag,c5⟩|with_reducible exact⟨hI,il⟩|go_keep) (first|(go_at_call 32;refine(gM.out _ ((bl _ _).drew)).mono ?_;rintro e bh ⟨⟨im,rfl,V⟩,Q⟩;have sT:=A V;have H:=A ((lk wr).trans Q);clear V Q;have hI:=aA H j3 ag;have il:=aA H ad c5))
      go_wp2;exact⟨⟨_,n+1,z,rfl,bz,⟨λq=>by rw[E.out];exact .inr (afE _ (by rw[sT.out.1 q];exact oQ.2 rfl)),λq=>by
       rw[E.out]at q
       rcases q with q|q
       .exact absurd (o.out.2 (.inl q)) aq
       .rcases kx.1 q with q|q
        .exact absurd (o.out.2 (.inr q)) aq
        .exact sT.out.2 (oQ.1 q).symm⟩,b3 f H⟩,by simp[RowKit.intOf];omega⟩
    .obtain rfl:n=r.length:=z;have ae:¬(r.length:Int)<r.length:=z;have f:=A m;cases b with
     |true=>
      go_wp2;go_roundw;case rel=>exact⟨j+1,r,z,bz,D.out.K f,Iu (by have:=o.out.1 rfl;rwa [sL]at this),b3 s f⟩
      case measure=>simp[RowKit.intOf];omega
     |false=>
      go_wp2_with (first|(go_at_call 33;refine(ax6 0 _ u C x.ej (O.out _ f)).mono ?_;rintro e dc ⟨⟨fw,me,rfl,tf⟩,R⟩;have Xa:=A tf;have I:=A R;clear tf R)|(at_builtin;refine asX rfl _ _ rfl (base:=w.heap.size) (d:=1) (l:=r) (y:=x.ej) (v:=.slice be r aW) rfl ((D.out.K f).K I) rfl ((D.out.K f).pf (aY _) (by have:=s.out.size;have:=f.out.size;omega) Xa) z (by have:=s.out.size;have:=f.out.size;have:=I.out.size;omega) ?_;intro v9 gI qb N;have C3:=A qb;have AU:=A (((b3 s f).trans (I.out.mono (by have:=s.out.size;have:=f.out.size;omega))).trans N);clear qb N))
      go_roundw;case rel=>exact⟨j+1,r++[x.ej],z,bz,C3,ud (λq=>by have:=o.out.2 (.inl q);simp at this) (λq=>by have:=o.out.2 (.inr (by rw[sL];exact q));simp at this),AU⟩
      case measure=>simp[RowKit.intOf];omega
  exact an1
end Go.bE
