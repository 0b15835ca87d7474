/- ItemInForce, one part of the proof. -/
import Derived.Test.YtdhifebhlocikaaGreatDoorP12
set_option linter.all false
set_option maxRecDepth 100000
set_option maxHeartbeats 16000000
namespace Go.bE
open Go Go.Proofs.Tryz Go.Proofs Go.RowKit Go.Lib Go.aM
open Go.di (jy)
def ad2:List Ψ:=[⟨#[65]⟩,⟨#[66]⟩,⟨#[97]⟩,⟨#[97,49]⟩,⟨#[49,50,45,120]⟩,⟨#[]⟩,⟨#[72,73,71,72]⟩,⟨#[88,49]⟩]
def am6:List Int:=[0,1,2,15,25,3,(-4),10]
def aKN:∀s∈ad2,kC s:=by
 intro s a;simp only[ad2,gJ,k3,xO]at a;rcases a with rfl|rfl|rfl|rfl|rfl|rfl|rfl|rfl
 all_goals exact EG aw
def aDq:∀x∈am6,-25<=x/\x<=25:=al
variable{w:Γ}{b:Nat}{t:TypeId}
def aKe{l:List Ψ}(h:w.heap[b]? =some (.cells (l.map Value.string).toArray t (0,0)))(m:Nat)(a:m<l):∃s∈l,w ⟨b,m,none⟩=s:=
 ⟨l[m],fp a,kQ h (by simp[a])⟩
def aDu{l:List Int}(h:w.heap[b]? =some (.cells (l.map (Value.int .i64)).toArray t (0,0)))(m:Nat)(a:m<l):∃s∈l,w ⟨b,m,none⟩=s:=
 ⟨l[m],fp a,kQ h (by simp[a])⟩
def yA(m:Nat):Ψ:=if m=0 then⟨#[97]⟩else if m=1 then⟨#[98]⟩else⟨#[65]⟩
def anN(m:Nat)(a:m<3)(W:Γ):(W.alloc (.cells #[.string ⟨#[97]⟩,.string ⟨#[98]⟩,.string ⟨#[65]⟩] 9)) ⟨W,m,none⟩=some (.string (yA m)):=by
 have:m=0∨m=1∨m=2:=z;rcases this with rfl|rfl|rfl
 all_goals exact kQ (c7 _ _) rfl
def aEn(m:Nat):kC (yA m):=by unfold yA;split;exact EG aw;split;all_goals exact EG aw
def aIv{base d:Nat}{v:Φ}{l:List (List bs)}(h:iu base d w v l)(G:b<base):some b≠v.ownBlock:=λe=>by
 have:=(h.lt b e.symm).1
 omega
def aIj{N:Int}(h: -25<=N/\N<=25):hC N 0:=⟨al,al,z,z,.inl rfl⟩
def az3(m:Nat){r:Int}(af:0<=r)(H:r<7):t_ [hX (yA m),gR (IntKind.i64.wrap (r-1)) 0]:=by
 have a:IntKind.i64.wrap (r-1)=r-1:=by rw[IntKind.wrap_i64];omega
 rw[a];exact⟨yA m,r-1,rfl,aEn m,z,z⟩
def az2{aG:List (List bs)}{u:List bs}(h:Hid (∀r∈aG,t_ r))(hu:t_ u):Hid (∀r∈aG++[u],t_ r):=A λr a=>by
 rcases kx.1 a with a|a
 .exact h.out r a
 .rw[oQ]at a;subst a;exact hu
def av0(base k:Nat)(e:Ending)(w':Γ):Prop:=∃a c l,e=.returned (.slice a (l:List bs).length c)/\l.length=k/\cm (fj base) (aR (fj base) 1) w' a l/\∀v∈l,e9 1 v
def aIr(nm dk ss rs an:Φ)(ca:Θ)(cc:Nat)(cs:List (Ψ×Nat))(a:Θ)(n c:Nat)(w:Γ)(eD:jy w ca cs)(e8:cs.length<=8)(kG:∀x∈cs,1<=x.2/\x.2<=5)(aa:k_ w a n)(P:∀q,a=some q->0<n->q.block<w.heap.size)(O:n<=maxLen): Calls prog 128 #[.agg #[nm,dk,.slice ca cs.length cc,ss,rs,an],.slice a n c] w λe w'=>av0 w.heap.size cs.length e w'/\β w w':=by
 obtain⟨kV,aA,aC,OY,OZ⟩:=iz J3;obtain⟨M,R,arr,bd,rfl,G,ad⟩:=eD;have gM:=A λW (ao:β w W) k (ag:k<cs.length)=>(show W ⟨M,R+k*2+1,none⟩=some (.int .i64 cs[k].2) by rw[World.cell?,ao.block _ (bM G),G];simp[(ad k ag).2]);have aD:M<w.heap.size:=bM G;have aF:=A kG;clear G ad kG;go_enter func128,ntmps128;go_wp2;have F_:=s1.start w a n c #[nm,dk,.slice (some ⟨M,R,none⟩) cs.length cc,ss,rs,an];generalize ((w.alloc (.cells #[nm,dk,.slice (some ⟨M,R,none⟩) cs.length cc,ss,rs,an] 29)).alloc (.cells #[.slice a n c,.int .i64 0] 53))=jW at F_|-;go_loopw [6,7] (λv i wr=>∃k:Nat,k<=cs.length/\i=.int .i64 k/\s1 w a n #[nm,dk,.slice (some ⟨M,R,none⟩) cs.length cc,ss,rs,an] wr/\∃l:List bs,l.length=k/\Hid (∀v∈l,e9 1 v)/\k7 (w.heap.size+2) 1 wr v l) (λ_ i _=>cs.length-(RowKit.intOf i).toNat);case atStart=>exact⟨0,dh _,rfl,F_,[],rfl,A λv J=>(by cases J),k7.nil _ _ _⟩
 case round=>
  obtain⟨f,rfl⟩:∃f,f=wr:=⟨_,rfl⟩;obtain⟨k,ag,rfl,V,l,sv,Gs,b'⟩:=hrel;have aI:f ⟨w.heap.size,2,none⟩=some (.slice (some ⟨M,R,none⟩) cs.length cc):=aN 2 V.g;have dO:=V.lt;have aW:w.heap.size<f.heap.size:=z;have kH:w.heap.size+1<f.heap.size:=z;by_cases au:k<cs.length
  .have dt:=gM.out f V.b k au;have a':M<f.heap.size:=cT V.b aD;have zO:=aF.out _ (fp au);have m':(0:Int)<=(k:Int):=z;have l4:(k:Int)<cs.length:=z;generalize cs[k].2=kd at*;go_upto_block 2 with fail
   have Tn:np w a n #[nm,dk,.slice (some ⟨M,R,none⟩) cs.length cc,ss,rs,an] f (bC kd bX 0 0 0 none 0 0 none 0 0) (f.alloc (.cells (bC kd bX 0 0 0 none 0 0 none 0 0) 44)):= ⟨V.K ((bl _ _).alloc dO _),.hs ((bl _ _).alloc (aY _) _),dO,c7 _ _⟩
   have cp:=A b';clear b' dt aI V F_;generalize tD:(f.alloc (.cells (bC kd bX 0 0 0 none 0 0 none 0 0) 44))=N at Tn|-;clear tD;go_cut [] (λc0=>∃c',xQ f c' c0/\np w a n #[nm,dk,.slice (some ⟨M,R,none⟩) cs.length cc,ss,rs,an] f c' c0);case first=>
    have jf:=Tn.v;have ai:=bM jf;have ct:=aN 0 jf;have C:=A Tn;have K:=A aa;clear Tn jf;by_cases bN:kd=1
    .subst bN;go_wp2_with (go_at_call 19;refine(q5 _ _ a n _ al al O ((C.out.alloc _).num K.out P)).mono ?_;rintro e B o;have s:=A ((C.out.alloc _).next o);have U:=A o.2.2.2.1;obtain⟨⟨r,af,H,rfl⟩,o⟩:=o;clear o;obtain⟨m,rfl⟩:∃m:Nat,r=(m:Int):=⟨r.toNat,z⟩;obtain⟨F,hH,ik⟩:=aKe (l:=ad2) (w:=B) (b:=N.heap.size) (t:=9) (by rw[U.out _ z];exact c7 _ _) m (by show m<8;omega);have Bn:B.frozen? ⟨f.heap.size,1,none⟩=false:=(by simp[World.frozen?,s.out.v]);have aU:B ⟨f.heap.size,1,none⟩=some (.string bX):=aN 1 s.out.v;have Z:=A hH;clear hH);go_meet;exact⟨_,⟨hX F,aR.jb _ 1 _ 1 F 0 0 0 none 0 none 0,.hX F (aKN _ Z.out)⟩,s.out.set 1 _⟩
    by_cases dx:kd=2
    .subst dx;go_upto_region 12 with(go_at_call 19;refine(q5 _ _ a n _ al al O ((C.out.alloc _).num K.out P)).mono ?_;rintro e B o;have s:=A ((C.out.alloc _).next o);have U:=A o.2.2.2.1;obtain⟨⟨r,af,H,rfl⟩,o⟩:=o;clear o;obtain⟨m,rfl⟩:∃m:Nat,r=(m:Int):=⟨r.toNat,z⟩;obtain⟨F,hH,ik⟩:=aDu (l:=am6) (w:=B) (b:=N.heap.size) (t:=3) (by rw[U.out _ z];exact c7 _ _) m (by show m<8;omega);have m3:B.frozen? ⟨f.heap.size,2,none⟩=false:=(by simp[World.frozen?,s.out.v]);have aK:B ⟨f.heap.size,2,none⟩=some (.int .i64 0):=aN 2 s.out.v;have Jm:B.frozen? ⟨f.heap.size,3,none⟩=false:=(by simp[World.frozen?,s.out.v]);have aL:B ⟨f.heap.size,3,none⟩=some (.int .i64 0):=aN 3 s.out.v;have Z:=A (aDq _ hH);clear hH)
     have gz:=A ((s.out.set 2 (.int .i64 F)).set 3 (.int .i64 0));clear s C U af H ik m3 Jm aK aL ct;generalize ((B.setCell ⟨f.heap.size,2,none⟩ (.int .i64 F)).setCell ⟨f.heap.size,3,none⟩ (.int .i64 0))=br at gz|-;have aI:br ⟨f.heap.size,2,none⟩=some (.int .i64 F):=aN 2 gz.out.v;have dX:F.natAbs<=25:=by have:=Z.out;omega
     have LU:=A (e9.gR (n:=1) F 0 (aIj Z.out) z z);cases G:(F.tmod 10 !=0)
     .go_wp2;go_meet;exact⟨_,⟨gR F 0,aR.jb _ 1 _ 2 bX F 0 0 none 0 none 0,LU.out⟩,gz.out⟩
     .have LV:=A (e9.gR (n:=1) F 1 ⟨al,al,by have:=Z.out;omega,by have:=Z.out;omega,.inr (by simpa using G)⟩ z z)
      go_wp2_with (go_at_call 19;refine(q5 _ _ a n _ al al O (gz.out.num K.out P)).mono ?_;rintro e w7 E;have s:=A (gz.out.next E);obtain⟨⟨U6,af,H,rfl⟩,E⟩:=E;clear E;have c3:w7 ⟨f.heap.size,3,none⟩=some (.int .i64 0):=aN 3 s.out.v;have f3:w7.frozen? ⟨f.heap.size,3,none⟩=false:=(by simp[World.frozen?,s.out.v]));all_goals(
       go_meet
       first
        |exact⟨_,⟨gR F 0,aR.jb _ 1 _ 2 bX F 0 0 none 0 none 0,LU.out⟩,s.out⟩
        |exact⟨_,⟨gR F 1,aR.jb _ 1 _ 2 bX F 1 0 none 0 none 0,LV.out⟩,s.out.set 3 _⟩)
    by_cases gc:kd=3
    .subst gc;go_wp2_with (go_at_call 19;refine(q5 _ _ a n _ al al O (C.out.num K.out P)).mono ?_;rintro e B o;have s:=A (C.out.next o);have U:=A o.2.2.2.1;obtain⟨⟨r,af,H,rfl⟩,o⟩:=o;clear o;obtain⟨m,rfl⟩:∃m:Nat,r=(m:Int):=⟨r.toNat,z⟩;have Zq:B.frozen? ⟨f.heap.size,4,none⟩=false:=(by simp[World.frozen?,s.out.v]);have aM:B ⟨f.heap.size,4,none⟩=some (.int .i64 0):=aN 4 s.out.v;have y0:=A H);go_meet;exact⟨_,⟨kD (739617+(m:Int)),aR.jb _ 1 _ 3 bX 0 0 (739617+(m:Int)) none 0 none 0,.kD _ z (by have:=y0.out;omega)⟩,s.out.set 4 _⟩
    by_cases tG:kd=4
    .subst tG;go_wp2_with (go_at_call 19;refine(q5 _ _ a n _ al al O (C.out.num K.out P)).mono ?_;rintro e B o;have s:=A (C.out.next o);have U:=A o.2.2.2.1;obtain⟨⟨r,af,H,rfl⟩,o⟩:=o;clear o;obtain⟨m,rfl⟩:∃m:Nat,r=(m:Int):=⟨r.toNat,z⟩;have Zq:B.frozen? ⟨f.heap.size,4,none⟩=false:=(by simp[World.frozen?,s.out.v]);have aM:B ⟨f.heap.size,4,none⟩=some (.int .i64 0):=aN 4 s.out.v;have y0:=A H);go_meet;exact⟨_,⟨lX (m:Int),aR.jb _ 1 _ 4 bX 0 0 (m:Int) none 0 none 0,.lX _ (by have:=y0.out;omega)⟩,s.out.set 4 _⟩
    obtain rfl:kd=5:=z;clear bN dx gc tG;have Zr:N.frozen? ⟨f.heap.size,5,none⟩=false:=by simp[World.frozen?,C.out.v]
    have aO:N ⟨f.heap.size,5,none⟩=some (.slice none 0 0):=aN 5 C.out.v
    go_wp2_with (go_at_call 19;refine(q5 _ _ a n 4 al al O (((C.out.set 5 _).alloc _).num K.out P)).mono ?_;rintro e B o;have s:=A (((C.out.set 5 _).alloc _).next o);have U:=A o.2.2.2.1;obtain⟨⟨r,af,H,rfl⟩,o⟩:=o;clear o;obtain⟨m,rfl⟩:∃m:Nat,r=(m:Int):=⟨r.toNat,z⟩);have dm:oX w a n #[nm,dk,.slice (some ⟨M,R,none⟩) cs.length cc,ss,rs,an] f N.heap.size (.slice none 0 0) [] B:=⟨s.out,iu.nil _ _ _,(U.out _ z).trans (by
     have h:=c7 (N.setCell ⟨f.heap.size,5,none⟩ (.slice (some ⟨N.heap.size,0,none⟩) 2 2)) (.cells #[.string lM,.string lv] 9)
     rw[show(N.setCell ⟨f.heap.size,5,none⟩ (.slice (some ⟨N.heap.size,0,none⟩) 2 2)).heap.size=N.heap.size by simp]at h
     exact h),ai⟩
    have Xb:=A dm;clear dm s C U ct Zr aO ai;generalize N.heap.size=bS at Xb|-;go_loopw [10] (λi wr=>∃j:Nat,j<=m/\i=.int .i64 j/\∃fU aG,aG.length=j/\oX w a n #[nm,dk,.slice (some ⟨M,R,none⟩) cs.length cc,ss,rs,an] f bS fU aG wr/\Hid (∀r∈aG,t_ r)) (λi _=>m-(RowKit.intOf i).toNat);case atStart=>exact⟨0,dh _,rfl,_,[],rfl,Xb.out,A λr ae=>by cases ae⟩
    case round=>
     clear Xb;obtain⟨j,ab,rfl,fU,aG,rfl,D,pE⟩:=hrel;obtain⟨ra,rc,rfl⟩:=D.o.gX;by_cases aX:aG.length<m
     .have BP:(aG.length:Int)<m:=z;have fe:wr ⟨f.heap.size,6,none⟩=some (.slice ra aG.length rc):=aN 6 D.k.v;have Bl:wr.frozen? ⟨f.heap.size,6,none⟩=false:=by simp[World.frozen?,D.k.v]
      have ba:=bM D.k.v;have jd:=D.k.lx;have g8:=A (aIv D.o (EU f.heap.size));have eh:=A D;clear D;go_wp2
      go_region_law (first
       |(have bf:=TN;refine K8 _ (by rfl) _ _ _ (by rfl) (f.heap.size+1) 45 kV _ 1 24 K5 aA aC OY OZ rfl al (.slice ra aG.length rc) aG.length ar (by rfl) (LY.out.alloc _) ⟨L.heap.size,0,none⟩ 1 1 [.slice dB 2 c1] (by rfl) (by rfl) (r5 (cs:=#[.slice dB 2 c1]) (t:=45) (fr:=(0,0)) (pW L _)) (by simp[Value.oneCell']) al (by unfold maxLen;omega) z bw (L.heap.size+1) aq ?_;intro g cap gI cR lF fG aT;have J5:gI ⟨f.heap.size,6,none⟩=some (.slice ra aG.length rc):=(by rw[lF.cell_far _ bw g8.out,(fu L _).cell TN];exact me);have FW:gI.frozen? ⟨f.heap.size,6,none⟩=false:=(by rw[lF.frozen_far _ bw g8.out,(fu L _).frozen TN];exact f8);have iv:=A (oX.push hS.out Q.out ah.out lF fG ak vo.out cR))
       |(first|(have ay:=w_;go_simp;go_at_call 205;refine(anh _ _ (w7.alloc (.cells #[.string ⟨#[97]⟩,.string ⟨#[98]⟩,.string ⟨#[65]⟩] 9))).mono ?_;rintro e L ⟨⟨dB,c1,rfl,tf⟩,fR⟩;have hS:=A (X.out.alloc (.cells #[.string ⟨#[97]⟩,.string ⟨#[98]⟩,.string ⟨#[65]⟩] 9));have Q:=A (hS.out.K fR);have ah:=A tf;clear tf;obtain⟨ar,ak,NZ,DI⟩:=Q.out.o.o;have LY:=A NZ;have vo:=A DI;clear NZ DI;have me:L ⟨f.heap.size,6,none⟩=some (.slice ra aG.length rc):=aN 6 Q.out.k.v;have f8:L.frozen? ⟨f.heap.size,6,none⟩=false:=(by simp[World.frozen?,Q.out.k.v]);have TN:f.heap.size<L.heap.size:=bM Q.out.k.v)|(have ay:=w_;go_simp;go_at_call 205;refine(anh _ _ w7).mono ?_;rintro e L ⟨⟨dB,c1,rfl,tf⟩,fR⟩;have hS:=A X.out;have Q:=A (hS.out.K fR);have ah:=A tf;clear tf;obtain⟨ar,ak,NZ,DI⟩:=Q.out.o.o;have LY:=A NZ;have vo:=A DI;clear NZ DI;have me:L ⟨f.heap.size,6,none⟩=some (.slice ra aG.length rc):=aN 6 Q.out.k.v;have f8:L.frozen? ⟨f.heap.size,6,none⟩=false:=(by simp[World.frozen?,Q.out.k.v]);have TN:f.heap.size<L.heap.size:=bM Q.out.k.v))
       |(first|(have ax:=mq;go_simp;go_at_call 19;refine(q5 _ _ a n _ al al O ((S.out.alloc _).k.num K.out P)).mono ?_;rintro e w7 E;have X:=A ((S.out.alloc _).next E);have ap:=T w7;have GD:=bM X.out.k.v;(first|(have Gz:w7 ⟨wr.heap.size,I,none⟩=some (.string (yA I)):=(by rw[nN (E.2.2.2.1 _ (by show wr.heap.size≠_;omega))];exact JS))|(have Gz:w7 ⟨B.heap.size,I,none⟩=some (.string (yA I)):=(by rw[nN (E.2.2.2.1 _ (by show B.heap.size≠_;omega))];exact T B))|skip);obtain⟨⟨dy,w_,aj,rfl⟩,E⟩:=E;clear E;have nZ:w7 ⟨f.heap.size,6,none⟩=some (.slice ra aG.length rc):=aN 6 X.out.k.v)|(have ax:=mq;go_simp;go_at_call 19;refine(q5 _ _ a n _ al al O (S.out.k.num K.out P)).mono ?_;rintro e w7 E;have X:=A (S.out.next E);have ap:=T w7;have GD:=bM X.out.k.v;(first|(have Gz:w7 ⟨wr.heap.size,I,none⟩=some (.string (yA I)):=(by rw[nN (E.2.2.2.1 _ (by show wr.heap.size≠_;omega))];exact JS))|(have Gz:w7 ⟨B.heap.size,I,none⟩=some (.string (yA I)):=(by rw[nN (E.2.2.2.1 _ (by show B.heap.size≠_;omega))];exact T B))|skip);obtain⟨⟨dy,w_,aj,rfl⟩,E⟩:=E;clear E;have nZ:w7 ⟨f.heap.size,6,none⟩=some (.slice ra aG.length rc):=aN 6 X.out.k.v))
       |(first|(go_simp;go_at_call 19;refine(q5 _ _ a n _ al al O ((eh.out.drew.alloc _).k.num K.out P)).mono ?_;rintro e B o;have S:=A ((eh.out.drew.alloc _).next o);have Oy:=o.2.2.2.1;obtain⟨⟨cr,mq,aw,rfl⟩,o⟩:=o;clear o;obtain⟨I,rfl⟩:∃m:Nat,cr=(m:Int):=⟨cr.toNat,z⟩;have T:=anN I z;have ys:=T B;have BK:=bM S.out.k.v;(first|(have JS:B ⟨wr.heap.size,I,none⟩=some (.string (yA I)):=(by rw[nN (Oy _ (by show wr.heap.size≠_;omega))];exact T wr.drew))|skip);clear Oy;have c5:B ⟨f.heap.size,6,none⟩=some (.slice ra aG.length rc):=aN 6 S.out.k.v)|(go_simp;go_at_call 19;refine(q5 _ _ a n _ al al O (eh.out.drew.k.num K.out P)).mono ?_;rintro e B o;have S:=A (eh.out.drew.next o);have Oy:=o.2.2.2.1;obtain⟨⟨cr,mq,aw,rfl⟩,o⟩:=o;clear o;obtain⟨I,rfl⟩:∃m:Nat,cr=(m:Int):=⟨cr.toNat,z⟩;have T:=anN I z;have ys:=T B;have BK:=bM S.out.k.v;(first|(have JS:B ⟨wr.heap.size,I,none⟩=some (.string (yA I)):=(by rw[nN (Oy _ (by show wr.heap.size≠_;omega))];exact T wr.drew))|skip);clear Oy;have c5:B ⟨f.heap.size,6,none⟩=some (.slice ra aG.length rc):=aN 6 S.out.k.v)))
      all_goals(
       clear fe Bl c5 nZ me f8 J5 FW ys ap T eh S X Q
       go_wp2
       exact⟨⟨aG.length+1,z,bz,_,_,aq,iv.out,az2 pE (az3 I w_ aj)⟩,by simp[RowKit.intOf];omega⟩)
     .go_wp2;go_meet;obtain⟨c',rfl,kp⟩:=D.value z pE.out;exact⟨_,kp,D.k⟩
   case rest=>(obtain⟨c',Y,D⟩:=hcut;have hw:=A Y;obtain⟨bb,fE,da,mT,HM,b1,na,eT,gx,we,c9,rfl⟩:=Y.gX;have C:=A D;have K:=A aa;clear D aa Y;go_upto_if 91 with(go_at_call 19;refine(q5 _ _ a n _ al al O (C.out.num K.out P)).mono ?_;rintro e B o;have s:=A (C.out.next o);have qA:=A (hw.out.next o C.out.lx);obtain⟨⟨r,af,H,rfl⟩,o⟩:=o;clear o;obtain⟨m,rfl⟩:∃m:Nat,r=(m:Int):=⟨r.toNat,z⟩;have gW:=aN 0 s.out.v;have aP:B.frozen? ⟨f.heap.size,0,none⟩=false:=(by simp[World.frozen?,s.out.v]);have eM:=aN 1 s.out.v;have Bn:B.frozen? ⟨f.heap.size,1,none⟩=false:=(by simp[World.frozen?,s.out.v]);have ft:=aN 2 s.out.v;have m3:B.frozen? ⟨f.heap.size,2,none⟩=false:=(by simp[World.frozen?,s.out.v]);have hJ:=aN 3 s.out.v;have Jm:B.frozen? ⟨f.heap.size,3,none⟩=false:=(by simp[World.frozen?,s.out.v]);have kR:=aN 4 s.out.v;have Zq:B.frozen? ⟨f.heap.size,4,none⟩=false:=(by simp[World.frozen?,s.out.v]);have mC:=aN 5 s.out.v;have Zr:B.frozen? ⟨f.heap.size,5,none⟩=false:=(by simp[World.frozen?,s.out.v]);have p':=aN 6 s.out.v;have aS:B.frozen? ⟨f.heap.size,6,none⟩=false:=(by simp[World.frozen?,s.out.v])));(clear C hw;go_cut [] (λc0=>∃c',xQ f c' c0/\np w a n #[nm,dk,.slice (some ⟨M,R,none⟩) cs.length cc,ss,rs,an] f c' c0);case first=>by_cases NO:m=11;{subst NO;go_wp2;go_meet;exact⟨_,xQ.zero _ _,((((((s.out.set 0 _).set 1 _).set 2 _).set 3 _).set 4 _).set 5 _).set 6 _⟩};{have o2:((m:Int)==11)=false:=bw;go_wp2;go_meet;exact⟨_,qA.out,s.out⟩});case rest=>clear s qA gW eM ft hJ kR mC p' aP Bn m3 Jm Zq Zr aS af H;obtain⟨c',Y,D⟩:=hcut;have hw:=A Y;obtain⟨be,g6,dq,dJ,dC,dF,cw,c2,cv,i3,aV,rfl⟩:=Y.gX;obtain⟨gW,eM,ft,hJ,kR,mC,p'⟩:=eU D.v;have C:=A D;obtain⟨u,BH,BI⟩:=Y;have aH:=A BH;have aJ:=A BI;obtain⟨fC,hz,tC⟩:=cp.out.gX;subst tC;have aE:=A (cp.out.eB D.k);have OA:l.length<=100:=z;have aB:w.heap.size+2<=wc.heap.size:=D.r.lt;have jd:=D.lx;clear D BH BI;(go_wp2_with (at_builtin;refine KR rfl _ _ rfl (base:=w.heap.size+2) (d:=1) (l:=l) (y:=u) (v:=.slice fC l.length hz) rfl aE.out rfl (cp.out.pf (rj _) z aH.out) OA aB ?_;intro v5 B a_ _ bI;have sP:=A a_;have Mn:=A (C.out.r.K bI);clear a_ bI);have C4:Hid (∀v∈l++[u],e9 1 v):=A λv J=>by(rcases kx.1 J with J|J);{exact Gs.out v J};{rw[oQ]at J;subst J;exact aJ.out});(have D2:(l++[u]).length=k+1:=by rw[ir,AH,sv]);(go_roundw;case rel=>first|exact⟨k+1,z,bz,Mn.out,_,D2,C4,sP.out⟩|((repeat apply Exists.intro);refine⟨?_,rfl⟩;exact⟨k+1,z,bz,Mn.out,_,D2,C4,sP.out⟩));case measure=>simp[RowKit.intOf];omega
  .have aZ:k=cs.length:=z;have co:=A V.b;obtain⟨fC,hz,tC,bt⟩:=b'.P7 z;subst tC;clear V F_ b';go_wp2;go_ret;exact⟨⟨fC,hz,l,rfl,z,cm.low (λb G=>c6 z G) (λ_ _ _ h=>aR.low (λb G=>c6 z G) h) bt,Gs.out⟩,co.out⟩
end Go.bE
