/- ItemLatest, one part of the proof. -/
import Derived.Test.YtdioggbficfibaaGreatDoorP12
set_option linter.all false
set_option maxRecDepth 100000
set_option maxHeartbeats 16000000
namespace Go.bS
open Go Go.Proofs.Tryz Go.Proofs Go.RowKit Go.Lib Go.aJ
open Go.da (jd)
def aec:List ByteArray:=[⟨#[65]⟩,⟨#[66]⟩,⟨#[97]⟩,⟨#[97,49]⟩,⟨#[49,50,45,120]⟩,⟨#[]⟩,⟨#[72,73,71,72]⟩,⟨#[88,49]⟩]
def amR:List Int:=[0,1,2,15,25,3,(-4),10]
theorem aKg:∀s∈aec,kp s:=by
 intro s a;simp only[aec,gl,kM,x2]at a;rcases a with rfl|rfl|rfl|rfl|rfl|rfl|rfl|rfl
 all_goals exact Fh av
theorem aCU:∀x∈amR,-25<=x/\x<=25:=ak
variable{w:World}{b:Nat}{t:TypeId}
theorem aJJ{l:List ByteArray}(h:w.heap[b]? =some (.cells (l.map Value.string).toArray t (0,0)))(m:Nat)(a:m<l):∃s∈l,w.cell? ⟨b,m,none⟩=some (.string s):=
 ⟨l[m],fP a,ly h (by simp[a])⟩
theorem aCY{l:List Int}(h:w.heap[b]? =some (.cells (l.map (Value.int .i64)).toArray t (0,0)))(m:Nat)(a:m<l):∃s∈l,w.cell? ⟨b,m,none⟩=some (.int .i64 s):=
 ⟨l[m],fP a,ly h (by simp[a])⟩
def yT(m:Nat):ByteArray:=if m=0 then⟨#[97]⟩else if m=1 then⟨#[98]⟩else⟨#[65]⟩
theorem anw(m:Nat)(a:m<3)(W:World):(W.alloc (.cells #[.string ⟨#[97]⟩,.string ⟨#[98]⟩,.string ⟨#[65]⟩] 9)).cell? ⟨W,m,none⟩=some (.string (yT m)):=by
 have:m=0∨m=1∨m=2:=z;rcases this with rfl|rfl|rfl
 all_goals exact ly (cW _ _) rfl
theorem aDY(m:Nat):kp (yT m):=by
 unfold yT;split;exact Fh av
 split;all_goals exact Fh av
theorem aH2{base d:Nat}{v:Value}{l:List (List bC)}(h:je base d w v l)(A:b<base):some b≠v.ownBlock:=fun e=>by
 have:=(h.lt b e.symm).1
 omega
theorem aHQ{N:Int}(h: -25<=N/\N<=25):hn N 0:=⟨ak,ak,z,z,.inl rfl⟩
theorem azF(m:Nat){r:Int}(ae:0<=r)(H:r<7):tp [hG (yT m),gD (IntKind.i64.wrap (r-1)) 0]:=by
 have a:IntKind.i64.wrap (r-1)=r-1:=by rw[IntKind.wrap_i64];omega
 rw[a];exact⟨yT m,r-1,rfl,aDY m,z,z⟩
theorem azE{aQ:List (List bC)}{u:List bC}(h:Hid (∀r∈aQ,tp r))(hu:tp u):Hid (∀r∈aQ++[u],tp r):=G fun r a=>by
 rcases lo.1 a with a|a
 ·exact h.out r a
 ·rw[o0]at a;subst a;exact hu
def avA(base k:Nat)(e:Ending)(w':World):Prop:=∃a c l,e=.returned (.slice a (l:List bC).length c)/\l.length=k/\cz (fa base) (aU (fa base) 1) w' a l/\∀v∈l,e0 1 v
theorem aHY(nm db ss rs al:Value)(ca:Option Addr)(cc:Nat)(cs:List (ByteArray×Nat))(a:Option Addr)(n c:Nat)(w:World)(eA:jd w ca cs)(ff:cs.length<=8)(ku:∀x∈cs,1<=x.2/\x.2<=5)(ad:kR w a n)(N:∀q,a=some q->0<n->q.block<w.heap.size)(P:n<=maxLen): χ 115 #[.agg #[nm,db,.slice ca cs.length cc,ss,rs,al],.slice a n c] w (avA w.heap.size cs.length):=by
 obtain⟨mn,ax,aC,Pl,Pm⟩:=im Ps;obtain⟨L,S,arr,bb,rfl,A,ag⟩:=eA;have jH:=G fun W (ar:β w W) k (af:k<cs.length)=>(show W.cell? ⟨L,S+k*2+1,none⟩=some (.int .i64 cs[k].2) by rw[World.cell?,ar.block _ (bF A),A];simp[(ag k af).2]);have aD:L<w.heap.size:=bF A;have aH:=G ku;clear A ag ku;go_enter func115,ntmps115
 go_wp2;have Ot:=sv.start w a n c #[nm,db,.slice (some ⟨L,S,none⟩) cs.length cc,ss,rs,al];generalize ((w.alloc (.cells #[nm,db,.slice (some ⟨L,S,none⟩) cs.length cc,ss,rs,al] 29)).alloc (.cells #[.slice a n c,.int .i64 0] 54))=jB at Ot⊢;go_loopw [6,7] (fun v i wr=>∃k:Nat,k<=cs.length/\i=.int .i64 k/\sv w a n #[nm,db,.slice (some ⟨L,S,none⟩) cs.length cc,ss,rs,al] wr/\∃l:List bC,l.length=k/\Hid (∀v∈l,e0 1 v)/\kQ (w.heap.size+2) 1 wr v l) (fun _ i _=>cs.length-(RowKit.intOf i).toNat);case atStart=>exact⟨0,dx _,rfl,Ot,[],rfl,G fun v J=>(by cases J),kQ.nil _ _ _⟩
 case round=>
  obtain⟨f,rfl⟩:∃f,f=wr:=⟨_,rfl⟩;obtain⟨k,af,rfl,V,l,r1,GY,ce⟩:=hrel;have aF:f.cell? ⟨w.heap.size,2,none⟩=some (.slice (some ⟨L,S,none⟩) cs.length cc):=aK 2 V.g;have dT:=V.lt;have aT:w.heap.size<f.heap.size:=z;have kv:w.heap.size+1<f.heap.size:=z;by_cases au:k<cs.length
  ·have dn:=jH.out f V.b k au;have bc:L<f.heap.size:=cS V.b aD;have AE:=aH.out _ (fP au);have mP:(0:Int)<=(k:Int):=z;have lF:(k:Int)<cs.length:=z;generalize cs[k].2=kd at*;go_upto_block 2 with fail
   have Tx:m2 w a n #[nm,db,.slice (some ⟨L,S,none⟩) cs.length cc,ss,rs,al] f (bM kd bO 0 0 0 none 0 0 none 0 0) (f.alloc (.cells (bM kd bO 0 0 0 none 0 0 none 0 0) 42)):=
    ⟨V.K ((br _ _).alloc dT _),.hP ((br _ _).alloc (aZ _) _),dT,cW _ _⟩
   have cm:=G ce;clear ce dn aF V Ot;generalize s6:(f.alloc (.cells (bM kd bO 0 0 0 none 0 0 none 0 0) 42))=O at Tx⊢;clear s6;go_cut [] (fun cY=>∃dY,x3 f dY cY/\m2 w a n #[nm,db,.slice (some ⟨L,S,none⟩) cs.length cc,ss,rs,al] f dY cY);case first=>
    have iY:=Tx.v;have ai:=bF iY;have cQ:=aK 0 iY;have C:=G Tx;have M:=G ad;clear Tx iY;by_cases b4:kd=1
    ·subst b4
     go_wp2_with (go_at_call 15;refine(qG _ _ a n _ ak ak P ((C.out.alloc _).num M.out N)).mono ?_;rintro e B o;have s:=G ((C.out.alloc _).next o);have U:=G o.2.2.2.1;obtain⟨⟨r,ae,H,rfl⟩,o⟩:=o;clear o;obtain⟨m,rfl⟩:∃m:Nat,r=(m:Int):=⟨r.toNat,z⟩;obtain⟨F,hs,hz⟩:=aJJ (l:=aec) (w:=B) (b:=O.heap.size) (t:=9) (by rw[U.out _ z];exact cW _ _) m (by show m<8;omega);have B7:B.frozen? ⟨f.heap.size,1,none⟩=false:=(by simp[World.frozen?,s.out.v]);have aS:B.cell? ⟨f.heap.size,1,none⟩=some (.string bO):=aK 1 s.out.v;have Z:=G hs;clear hs);go_meet;exact⟨_,⟨hG F,aU.iW _ 1 _ 1 F 0 0 0 none 0 none 0,.hG F (aKg _ Z.out)⟩,s.out.set 1 _⟩
    by_cases dF:kd=2
    ·subst dF;go_upto_region 12 with(go_at_call 15;refine(qG _ _ a n _ ak ak P ((C.out.alloc _).num M.out N)).mono ?_;rintro e B o;have s:=G ((C.out.alloc _).next o);have U:=G o.2.2.2.1;obtain⟨⟨r,ae,H,rfl⟩,o⟩:=o;clear o;obtain⟨m,rfl⟩:∃m:Nat,r=(m:Int):=⟨r.toNat,z⟩;obtain⟨F,hs,hz⟩:=aCY (l:=amR) (w:=B) (b:=O.heap.size) (t:=3) (by rw[U.out _ z];exact cW _ _) m (by show m<8;omega);have mD:B.frozen? ⟨f.heap.size,2,none⟩=false:=(by simp[World.frozen?,s.out.v]);have aI:B.cell? ⟨f.heap.size,2,none⟩=some (.int .i64 0):=aK 2 s.out.v;have JV:B.frozen? ⟨f.heap.size,3,none⟩=false:=(by simp[World.frozen?,s.out.v]);have aJ:B.cell? ⟨f.heap.size,3,none⟩=some (.int .i64 0):=aK 3 s.out.v;have Z:=G (aCU _ hs);clear hs)
     have ip:=G ((s.out.set 2 (.int .i64 F)).set 3 (.int .i64 0));clear s C U ae H hz mD JV aI aJ cQ;generalize ((B.setCell ⟨f.heap.size,2,none⟩ (.int .i64 F)).setCell ⟨f.heap.size,3,none⟩ (.int .i64 0))=bi at ip⊢;have aF:bi.cell? ⟨f.heap.size,2,none⟩=some (.int .i64 F):=aK 2 ip.out.v;have ec:F.natAbs<=25:=by have:=Z.out;omega
     have Mq:=G (e0.gD (n:=1) F 0 (aHQ Z.out) z z);cases A:(F.tmod 10 !=0)
     ·go_wp2;go_meet;exact⟨_,⟨gD F 0,aU.iW _ 1 _ 2 bO F 0 0 none 0 none 0,Mq.out⟩,ip.out⟩
     ·have Mr:=G (e0.gD (n:=1) F 1 ⟨ak,ak,by have:=Z.out;omega,by have:=Z.out;omega,.inr (by simpa using A)⟩ z z)
      go_wp2_with (go_at_call 15;refine(qG _ _ a n _ ak ak P (ip.out.num M.out N)).mono ?_;rintro e w7 E;have s:=G (ip.out.next E);obtain⟨⟨Vd,ae,H,rfl⟩,E⟩:=E;clear E;have c3:w7.cell? ⟨f.heap.size,3,none⟩=some (.int .i64 0):=aK 3 s.out.v;have f3:w7.frozen? ⟨f.heap.size,3,none⟩=false:=(by simp[World.frozen?,s.out.v]));all_goals(
       go_meet
       first
        |exact⟨_,⟨gD F 0,aU.iW _ 1 _ 2 bO F 0 0 none 0 none 0,Mq.out⟩,s.out⟩
        |exact⟨_,⟨gD F 1,aU.iW _ 1 _ 2 bO F 1 0 none 0 none 0,Mr.out⟩,s.out.set 3 _⟩)
    by_cases gL:kd=3
    ·subst gL
     go_wp2_with (go_at_call 15;refine(qG _ _ a n _ ak ak P (C.out.num M.out N)).mono ?_;rintro e B o;have s:=G (C.out.next o);have U:=G o.2.2.2.1;obtain⟨⟨r,ae,H,rfl⟩,o⟩:=o;clear o;obtain⟨m,rfl⟩:∃m:Nat,r=(m:Int):=⟨r.toNat,z⟩;have ZG:B.frozen? ⟨f.heap.size,4,none⟩=false:=(by simp[World.frozen?,s.out.v]);have aM:B.cell? ⟨f.heap.size,4,none⟩=some (.int .i64 0):=aK 4 s.out.v;have zE:=G H);go_meet;exact⟨_,⟨kq (739617+(m:Int)),aU.iW _ 1 _ 3 bO 0 0 (739617+(m:Int)) none 0 none 0,.kq _ z (by have:=zE.out;omega)⟩,s.out.set 4 _⟩
    by_cases s8:kd=4
    ·subst s8
     go_wp2_with (go_at_call 15;refine(qG _ _ a n _ ak ak P (C.out.num M.out N)).mono ?_;rintro e B o;have s:=G (C.out.next o);have U:=G o.2.2.2.1;obtain⟨⟨r,ae,H,rfl⟩,o⟩:=o;clear o;obtain⟨m,rfl⟩:∃m:Nat,r=(m:Int):=⟨r.toNat,z⟩;have ZG:B.frozen? ⟨f.heap.size,4,none⟩=false:=(by simp[World.frozen?,s.out.v]);have aM:B.cell? ⟨f.heap.size,4,none⟩=some (.int .i64 0):=aK 4 s.out.v;have zE:=G H);go_meet;exact⟨_,⟨l' (m:Int),aU.iW _ 1 _ 4 bO 0 0 (m:Int) none 0 none 0,.l' _ (by have:=zE.out;omega)⟩,s.out.set 4 _⟩
    obtain rfl:kd=5:=z;clear b4 dF gL s8;have ZH:O.frozen? ⟨f.heap.size,5,none⟩=false:=by simp[World.frozen?,C.out.v]
    have aN:O.cell? ⟨f.heap.size,5,none⟩=some (.slice none 0 0):=aK 5 C.out.v
    go_wp2_with (go_at_call 15;refine(qG _ _ a n 4 ak ak P (((C.out.set 5 _).alloc _).num M.out N)).mono ?_;rintro e B o;have s:=G (((C.out.set 5 _).alloc _).next o);have U:=G o.2.2.2.1;obtain⟨⟨r,ae,H,rfl⟩,o⟩:=o;clear o;obtain⟨m,rfl⟩:∃m:Nat,r=(m:Int):=⟨r.toNat,z⟩);have cM:oE w a n #[nm,db,.slice (some ⟨L,S,none⟩) cs.length cc,ss,rs,al] f O.heap.size (.slice none 0 0) [] B:=⟨s.out,je.nil _ _ _,(U.out _ z).trans (by
     have h:=cW (O.setCell ⟨f.heap.size,5,none⟩ (.slice (some ⟨O.heap.size,0,none⟩) 2 2)) (.cells #[.string li,.string k5] 9)
     rw[show(O.setCell ⟨f.heap.size,5,none⟩ (.slice (some ⟨O.heap.size,0,none⟩) 2 2)).heap.size=O.heap.size by simp]at h
     exact h),ai⟩
    have XA:=G cM;clear cM s C U cQ ZH aN ai;generalize O.heap.size=bL at XA⊢;go_loopw [10] (fun i wr=>∃j:Nat,j<=m/\i=.int .i64 j/\∃fH aQ,aQ.length=j/\oE w a n #[nm,db,.slice (some ⟨L,S,none⟩) cs.length cc,ss,rs,al] f bL fH aQ wr/\Hid (∀r∈aQ,tp r)) (fun i _=>m-(RowKit.intOf i).toNat);case atStart=>exact⟨0,dx _,rfl,_,[],rfl,XA.out,G fun r ab=>by cases ab⟩
    case round=>
     clear XA;obtain⟨j,aa,rfl,fH,aQ,rfl,D,pi⟩:=hrel;obtain⟨ra,rc,rfl⟩:=D.o.gX;by_cases aW:aQ.length<m
     ·have Cu:(aQ.length:Int)<m:=z;have fe:wr.cell? ⟨f.heap.size,6,none⟩=some (.slice ra aQ.length rc):=aK 6 D.k.v;have B5:wr.frozen? ⟨f.heap.size,6,none⟩=false:=by simp[World.frozen?,D.k.v]
      have aV:=bF D.k.v;have jJ:=D.k.k7;have ht:=G (aH2 D.o (Fv f.heap.size));have eH:=G D;clear D
      go_wp2
      go_region_law (first
       |(have bd:=TV;refine LJ _ (by rfl) _ _ _ (by rfl) (f.heap.size+1) 36 mn _ 1 24 Rb ax aC Pl Pm rfl ak (.slice ra aQ.length rc) aQ.length av (by rfl) (Db.out.alloc _) ⟨K.heap.size,0,none⟩ 1 1 [.slice dv 2 c1] (by rfl) (by rfl) (rA (cs:=#[.slice dv 2 c1]) (t:=36) (fr:=(0,0)) (px K _)) (by simp[Value.oneCell']) ak (by unfold maxLen;omega) z bz (K.heap.size+1) ao ?_;intro g cap gG cX lb fv be;have KI:gG.cell? ⟨f.heap.size,6,none⟩=some (.slice ra aQ.length rc):=(by rw[lb.cell_far _ bz ht.out,(e4 K _).cell TV];exact mC);have Gs:gG.frozen? ⟨f.heap.size,6,none⟩=false:=(by rw[lb.frozen_far _ bz ht.out,(e4 K _).frozen TV];exact f8);have jf:=G (oE.push hY.out Q.out ah.out lb fv aq uT.out cX))
       |(first|(have aw:=xj;go_simp;go_at_call 196;refine(am2 _ _ (w7.alloc (.cells #[.string ⟨#[97]⟩,.string ⟨#[98]⟩,.string ⟨#[65]⟩] 9))).mono ?_;rintro e K ⟨⟨dv,c1,rfl,Cc⟩,gh⟩;have hY:=G (X.out.alloc (.cells #[.string ⟨#[97]⟩,.string ⟨#[98]⟩,.string ⟨#[65]⟩] 9));have Q:=G (hY.out.K gh);have ah:=G Cc;clear Cc;obtain⟨av,aq,Oq,DP⟩:=Q.out.o.o;have Db:=G Oq;have uT:=G DP;clear Oq DP;have mC:K.cell? ⟨f.heap.size,6,none⟩=some (.slice ra aQ.length rc):=aK 6 Q.out.k.v;have f8:K.frozen? ⟨f.heap.size,6,none⟩=false:=(by simp[World.frozen?,Q.out.k.v]);have TV:f.heap.size<K.heap.size:=bF Q.out.k.v)|(have aw:=xj;go_simp;go_at_call 196;refine(am2 _ _ w7).mono ?_;rintro e K ⟨⟨dv,c1,rfl,Cc⟩,gh⟩;have hY:=G X.out;have Q:=G (hY.out.K gh);have ah:=G Cc;clear Cc;obtain⟨av,aq,Oq,DP⟩:=Q.out.o.o;have Db:=G Oq;have uT:=G DP;clear Oq DP;have mC:K.cell? ⟨f.heap.size,6,none⟩=some (.slice ra aQ.length rc):=aK 6 Q.out.k.v;have f8:K.frozen? ⟨f.heap.size,6,none⟩=false:=(by simp[World.frozen?,Q.out.k.v]);have TV:f.heap.size<K.heap.size:=bF Q.out.k.v))
       |(first|(have ay:=l0;go_simp;go_at_call 15;refine(qG _ _ a n _ ak ak P ((T.out.alloc _).k.num M.out N)).mono ?_;rintro e w7 E;have X:=G ((T.out.alloc _).next E);have an:=R w7;have G8:=bF X.out.k.v;(first|(have G5:w7.cell? ⟨wr.heap.size,I,none⟩=some (.string (yT I)):=(by rw[nt (E.2.2.2.1 _ (by show wr.heap.size≠_;omega))];exact Kx))|(have G5:w7.cell? ⟨B.heap.size,I,none⟩=some (.string (yT I)):=(by rw[nt (E.2.2.2.1 _ (by show B.heap.size≠_;omega))];exact R B))|skip);obtain⟨⟨dw,xj,aj,rfl⟩,E⟩:=E;clear E;have nG:w7.cell? ⟨f.heap.size,6,none⟩=some (.slice ra aQ.length rc):=aK 6 X.out.k.v)|(have ay:=l0;go_simp;go_at_call 15;refine(qG _ _ a n _ ak ak P (T.out.k.num M.out N)).mono ?_;rintro e w7 E;have X:=G (T.out.next E);have an:=R w7;have G8:=bF X.out.k.v;(first|(have G5:w7.cell? ⟨wr.heap.size,I,none⟩=some (.string (yT I)):=(by rw[nt (E.2.2.2.1 _ (by show wr.heap.size≠_;omega))];exact Kx))|(have G5:w7.cell? ⟨B.heap.size,I,none⟩=some (.string (yT I)):=(by rw[nt (E.2.2.2.1 _ (by show B.heap.size≠_;omega))];exact R B))|skip);obtain⟨⟨dw,xj,aj,rfl⟩,E⟩:=E;clear E;have nG:w7.cell? ⟨f.heap.size,6,none⟩=some (.slice ra aQ.length rc):=aK 6 X.out.k.v))
       |(first|(go_simp;go_at_call 15;refine(qG _ _ a n _ ak ak P ((eH.out.drew.alloc _).k.num M.out N)).mono ?_;rintro e B o;have T:=G ((eH.out.drew.alloc _).next o);have OV:=o.2.2.2.1;obtain⟨⟨cn,l0,az,rfl⟩,o⟩:=o;clear o;obtain⟨I,rfl⟩:∃m:Nat,cn=(m:Int):=⟨cn.toNat,z⟩;have R:=anw I z;have yJ:=R B;have Cr:=bF T.out.k.v;(first|(have Kx:B.cell? ⟨wr.heap.size,I,none⟩=some (.string (yT I)):=(by rw[nt (OV _ (by show wr.heap.size≠_;omega))];exact R wr.drew))|skip);clear OV;have c5:B.cell? ⟨f.heap.size,6,none⟩=some (.slice ra aQ.length rc):=aK 6 T.out.k.v)|(go_simp;go_at_call 15;refine(qG _ _ a n _ ak ak P (eH.out.drew.k.num M.out N)).mono ?_;rintro e B o;have T:=G (eH.out.drew.next o);have OV:=o.2.2.2.1;obtain⟨⟨cn,l0,az,rfl⟩,o⟩:=o;clear o;obtain⟨I,rfl⟩:∃m:Nat,cn=(m:Int):=⟨cn.toNat,z⟩;have R:=anw I z;have yJ:=R B;have Cr:=bF T.out.k.v;(first|(have Kx:B.cell? ⟨wr.heap.size,I,none⟩=some (.string (yT I)):=(by rw[nt (OV _ (by show wr.heap.size≠_;omega))];exact R wr.drew))|skip);clear OV;have c5:B.cell? ⟨f.heap.size,6,none⟩=some (.slice ra aQ.length rc):=aK 6 T.out.k.v)))
      all_goals(
       clear fe B5 c5 nG mC f8 KI Gs yJ an R eH T X Q
       go_wp2
       exact⟨⟨aQ.length+1,z,bG,_,_,ao,jf.out,azE pi (azF I xj aj)⟩,by simp[RowKit.intOf];omega⟩)
     ·go_wp2;go_meet;obtain⟨dY,rfl,j'⟩:=D.value z pi.out;exact⟨_,j',D.k⟩
   case rest=>
    obtain⟨dY,Y,D⟩:=hcut;have hb:=G Y;obtain⟨a',gw,c7,mu,Ii,bR,mQ,fd,gE,vN,dJ,rfl⟩:=Y.gX;have C:=G D;have M:=G ad;clear D ad Y;go_upto_if 91 with(go_at_call 15;refine(qG _ _ a n _ ak ak P (C.out.num M.out N)).mono ?_;rintro e B o;have s:=G (C.out.next o);have rE:=G (hb.out.next o C.out.k7);obtain⟨⟨r,ae,H,rfl⟩,o⟩:=o;clear o;obtain⟨m,rfl⟩:∃m:Nat,r=(m:Int):=⟨r.toNat,z⟩;have hv:=aK 0 s.out.v;have aO:B.frozen? ⟨f.heap.size,0,none⟩=false:=(by simp[World.frozen?,s.out.v]);have eD:=aK 1 s.out.v;have B7:B.frozen? ⟨f.heap.size,1,none⟩=false:=(by simp[World.frozen?,s.out.v]);have e':=aK 2 s.out.v;have mD:B.frozen? ⟨f.heap.size,2,none⟩=false:=(by simp[World.frozen?,s.out.v]);have hw:=aK 3 s.out.v;have JV:B.frozen? ⟨f.heap.size,3,none⟩=false:=(by simp[World.frozen?,s.out.v]);have j6:=aK 4 s.out.v;have ZG:B.frozen? ⟨f.heap.size,4,none⟩=false:=(by simp[World.frozen?,s.out.v]);have ma:=aK 5 s.out.v;have ZH:B.frozen? ⟨f.heap.size,5,none⟩=false:=(by simp[World.frozen?,s.out.v]);have pJ:=aK 6 s.out.v;have aP:B.frozen? ⟨f.heap.size,6,none⟩=false:=(by simp[World.frozen?,s.out.v]))
    clear C hb;go_cut [] (fun cY=>∃dY,x3 f dY cY/\m2 w a n #[nm,db,.slice (some ⟨L,S,none⟩) cs.length cc,ss,rs,al] f dY cY);case first=>
     by_cases Z0:m=11
     ·subst Z0
      go_wp2;go_meet;exact⟨_,x3.zero _ _,((((((s.out.set 0 _).set 1 _).set 2 _).set 3 _).set 4 _).set 5 _).set 6 _⟩
     ·have pM:((m:Int)==11)=false:=bz
      go_wp2;go_meet;exact⟨_,rE.out,s.out⟩
    case rest=>
     clear s rE hv eD e' hw j6 ma pJ aO B7 mD JV ZG ZH aP ae H;obtain⟨dY,Y,D⟩:=hcut;have hb:=G Y;obtain⟨ba,gN,dk,dE,dz,dy,cp,c2,cr,iI,aR,rfl⟩:=Y.gX;obtain⟨hv,eD,e',hw,j6,ma,pJ⟩:=eX D.v;have C:=G D;obtain⟨u,Cp,Cq⟩:=Y;have R8:=G Cp;have aG:=G Cq;obtain⟨fq,hj,s5⟩:=cm.out.gX;subst s5;have aE:=G (cm.out.ex D.k);have OX:l.length<=100:=z;have aB:w.heap.size+2<=wc.heap.size:=D.r.lt;have jJ:=D.k7;clear D Cp Cq
     go_wp2_with (at_builtin;refine Lr rfl _ _ rfl (base:=w.heap.size+2) (d:=1) (l:=l) (y:=u) (v:=.slice fq l.length hj) rfl aE.out rfl (cm.out.p1 (qQ _) z R8.out) OX aB ?_;intro v5 B aX _ bx;have si:=G aX;have MO:=G (C.out.r.K bx);clear aX bx);have C':Hid (∀v∈l++[u],e0 1 v):=G fun v J=>by
      rcases lo.1 J with J|J
      ·exact GY.out v J
      ·rw[o0]at J;subst J;exact aG.out
     have D8:(l++[u]).length=k+1:=by rw[ia,Bq,r1]
     go_roundw;case rel=>first|exact⟨k+1,z,bG,MO.out,_,D8,C',si.out⟩|((repeat apply Exists.intro);refine⟨?_,rfl⟩;exact⟨k+1,z,bG,MO.out,_,D8,C',si.out⟩)
     case measure=>simp[RowKit.intOf];omega
  ·have aY:k=cs.length:=z;have dh:=G V.b;obtain⟨fq,hj,s5,bm⟩:=ce.Qu z;subst s5;clear V Ot ce
   go_wp2;go_ret;exact⟨⟨fq,hj,l,rfl,z,cz.low (fun b A=>cO z A) (fun _ _ _ h=>aU.low (fun b A=>cO z A) h) bm,GY.out⟩,dh.out⟩
end Go.bS
