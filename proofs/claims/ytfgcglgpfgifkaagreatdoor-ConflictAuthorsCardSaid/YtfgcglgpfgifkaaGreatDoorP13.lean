/- ConflictAuthors. -/
import Derived.Test.YtfgcglgpfgifkaaGreatDoorP12
set_option linter.all false
set_option maxRecDepth 100000
set_option maxHeartbeats 16000000
namespace Go.b3
open Go Go.Proofs.Tryz Go.Proofs Go.RowKit Go.Lib Go.aI
open Go.c0 (iM)
def aae:List ByteArray:=[⟨#[65]⟩,⟨#[66]⟩,⟨#[97]⟩,⟨#[97,49]⟩,⟨#[49,50,45,120]⟩,⟨#[]⟩,⟨#[72,73,71,72]⟩,⟨#[88,49]⟩]
def ah7:List Int:=[0,1,2,15,25,3,(-4),10]
theorem aDF:∀s∈aae,j5 s:=by
 intro s a;simp only[aae,gl,kq,uz]at a;rcases a with rfl|rfl|rfl|rfl|rfl|rfl|rfl|rfl
 all_goals exact Cc au
theorem axj:∀x∈ah7,-25<=x/\x<=25:=ai
theorem aDe{w:World}{b:Nat}{t:TypeId}{l:List ByteArray}(h:w.heap[b]? =some (.cells (l.map Value.string).toArray t (0,0)))(m:Nat)(a:m<l.length):∃s∈l,w.cell? ⟨b,m,none⟩=some (.string s):=
 ⟨l[m],fM a,lb h (by simp[a])⟩
theorem axn{w:World}{b:Nat}{t:TypeId}{l:List Int}(h:w.heap[b]? =some (.cells (l.map (Value.int .i64)).toArray t (0,0)))(m:Nat)(a:m<l.length):∃s∈l,w.cell? ⟨b,m,none⟩=some (.int .i64 s):=
 ⟨l[m],fM a,lb h (by simp[a])⟩
def wN(m:Nat):ByteArray:=if m=0 then⟨#[97]⟩else if m=1 then⟨#[98]⟩else⟨#[65]⟩
theorem aiG(m:Nat)(a:m<3)(W:World):(W.alloc (.cells #[.string ⟨#[97]⟩,.string ⟨#[98]⟩,.string ⟨#[65]⟩] 9)).cell? ⟨W.heap.size,m,none⟩=some (.string (wN m)):=by
 have:m=0∨m=1∨m=2:=z;rcases this with rfl|rfl|rfl
 all_goals exact lb (da _ _) rfl
theorem ax4(m:Nat):j5 (wN m):=by
 unfold wN;split
 ·exact Cc au
 split;all_goals exact Cc au
theorem aBx{w:World}{base d:Nat}{v:Value}{l:List (List bH)}(h:j3 base d w v l){b:Nat}(A:b<base):some b≠v.ownBlock:=fun e=>by
 have:=(h.lt b e.symm).1
 omega
theorem aBl{N:Int}(h: -25<=N/\N<=25):g1 N 0:=⟨ai,ai,z,z,.inl rfl⟩
theorem atY(m:Nat){r:Int}(ab:0<=r)(H:r<7):sC [g8 (wN m),gi (IntKind.i64.wrap (r-1)) 0]:=by
 have a:IntKind.i64.wrap (r-1)=r-1:=by rw[IntKind.wrap_i64];omega
 rw[a];exact⟨wN m,r-1,rfl,ax4 m,z,z⟩
theorem atW{a_:List (List bH)}{u:List bH}(h:Hid (∀r∈a_,sC r))(hu:sC u):Hid (∀r∈a_++[u],sC r):=G fun r a=>by
 rcases nJ.1 a with a|a
 ·exact h.out r a
 ·rw[Cs]at a;subst a;exact hu
def ap5(base k:Nat)(e:Ending)(w':World):Prop:=∃a c l,e=.returned (.slice a (l:List bH).length c)/\l.length=k/\cU (gR base) (aY (gR base) 1) w' a l/\∀v∈l,eR 1 v
theorem aBt(bo cZ ss rs aj:Value)(ca:Option Addr)(cc:Nat)(cs:List (ByteArray×Nat))(a:Option Addr)(n c:Nat)(w:World)(eu:iM w ca cs)(eN:cs.length<=8)(j9:∀x∈cs,1<=x.2/\x.2<=5)(ad:k7 w a n)(P:∀q,a=some q->0<n->q.block<w.heap.size)(N:n<=maxLen): Calls prog 46 #[.agg #[bo,cZ,.slice ca cs.length cc,ss,rs,aj],.slice a n c] w fun e w'=>ap5 w.heap.size cs.length e w'/\Below w.heap.size w w':=by
 obtain⟨mI,aM,aN,Lc,Ld⟩:=jt WU;obtain⟨L,R,arr,bg,rfl,A,ae⟩:=eu;have hn:=G fun W (ar:Below w.heap.size w W) k (af:k<cs.length)=>(show W.cell? ⟨L,R+k*2+1,none⟩=some (.int .i64 cs[k].2) by rw[World.cell?,ar.block _ (b1 A),A];simp[(ae k af).2]);have aw:L<w.heap.size:=b1 A;have az:=G j9;clear A ae j9;go_enter func46,ntmps46
 go_wp2;have DF:=rQ.g7 w a n c #[bo,cZ,.slice (some ⟨L,R,none⟩) cs.length cc,ss,rs,aj];generalize ((w.alloc (.cells #[bo,cZ,.slice (some ⟨L,R,none⟩) cs.length cc,ss,rs,aj] 29)).alloc (.cells #[.slice a n c,.int .i64 0] 57))=jh at DF⊢;go_loopw [6,7] (fun v i wr=>∃k:Nat,k<=cs.length/\i=.int .i64 k/\rQ w a n #[bo,cZ,.slice (some ⟨L,R,none⟩) cs.length cc,ss,rs,aj] wr/\∃l:List bH,l.length=k/\Hid (∀v∈l,eR 1 v)/\mr (w.heap.size+2) 1 wr v l) (fun _ i _=>cs.length-(RowKit.intOf i).toNat);case atStart=>exact⟨0,dq _,rfl,DF,[],rfl,G fun v J=>(by cases J),mr.nil _ _ _⟩
 case round=>
  obtain⟨f,rfl⟩:∃f,f=wr:=⟨_,rfl⟩;obtain⟨k,af,rfl,V,l,vl,D0,cV⟩:=hrel;have aJ:f.cell? ⟨w.heap.size,2,none⟩=some (.slice (some ⟨L,R,none⟩) cs.length cc):=aS 2 V.g;have dN:=V.lt;have aU:w.heap.size<f.heap.size:=z;have j':w.heap.size+1<f.heap.size:=z;by_cases aq:k<cs.length
  ·have de:=hn.out f V.b k aq;have bd:L<f.heap.size:=cE V.b aw;have xW:=az.out _ (fM aq);have mj:(0:Int)<=(k:Int):=z;have lj:(k:Int)<cs.length:=z;generalize cs[k].2=eF at*;go_upto_block 2 with fail
   have OW:my w a n #[bo,cZ,.slice (some ⟨L,R,none⟩) cs.length cc,ss,rs,aj] f (bY eF bL 0 0 0 none 0 0 none 0 0) (f.alloc (.cells (bY eF bL 0 0 0 none 0 0 none 0 0) 44)):=
    ⟨V.U ((bi _ _).alloc dN _),.g0 ((bi _ _).alloc (aZ _) _),dN,da _ _⟩
   have cd:=G cV;clear cV de aJ V DF;generalize wI:(f.alloc (.cells (bY eF bL 0 0 0 none 0 0 none 0 0) 44))=O at OW⊢;clear wI;go_cut [] (fun c9=>∃ea,vK f ea c9/\my w a n #[bo,cZ,.slice (some ⟨L,R,none⟩) cs.length cc,ss,rs,aj] f ea c9);case first=>
    have jg:=OW.v;have ag:=b1 jg;have cp:=aS 0 jg;have C:=G OW;have M:=G ad;clear OW jg;by_cases ce:eF=1
    ·subst ce
     go_wp2_with (go_at_call 16;refine(pT _ _ a n _ ai ai N ((C.out.alloc _).num M.out P)).mono ?_;rintro e B o;have s:=G ((C.out.alloc _).next o);have U:=G o.2.2.2.1;obtain⟨⟨r,ab,H,rfl⟩,o⟩:=o;clear o;obtain⟨m,rfl⟩:∃m:Nat,r=(m:Int):=⟨r.toNat,z⟩;obtain⟨F,iu,h_⟩:=aDe (l:=aae) (w:=B) (b:=O.heap.size) (t:=9) (by rw[U.out _ z];exact da _ _) m (by show m<8;omega);have OH:B.frozen? ⟨f.heap.size,1,none⟩=false:=(by simp[World.frozen?,s.out.v]);have aR:B.cell? ⟨f.heap.size,1,none⟩=some (.string bL):=aS 1 s.out.v;have Z:=G iu;clear iu);go_meet;exact⟨_,⟨g8 F,aY.iE _ 1 _ 1 F 0 0 0 none 0 none 0,.g8 F (aDF _ Z.out)⟩,s.out.set 1 _⟩
    by_cases eb:eF=2
    ·subst eb;go_upto_region 12 with(go_at_call 16;refine(pT _ _ a n _ ai ai N ((C.out.alloc _).num M.out P)).mono ?_;rintro e B o;have s:=G ((C.out.alloc _).next o);have U:=G o.2.2.2.1;obtain⟨⟨r,ab,H,rfl⟩,o⟩:=o;clear o;obtain⟨m,rfl⟩:∃m:Nat,r=(m:Int):=⟨r.toNat,z⟩;obtain⟨F,iu,h_⟩:=axn (l:=ah7) (w:=B) (b:=O.heap.size) (t:=3) (by rw[U.out _ z];exact da _ _) m (by show m<8;omega);have nR:B.frozen? ⟨f.heap.size,2,none⟩=false:=(by simp[World.frozen?,s.out.v]);have aC:B.cell? ⟨f.heap.size,2,none⟩=some (.int .i64 0):=aS 2 s.out.v;have Ge:B.frozen? ⟨f.heap.size,3,none⟩=false:=(by simp[World.frozen?,s.out.v]);have aD:B.cell? ⟨f.heap.size,3,none⟩=some (.int .i64 0):=aS 3 s.out.v;have Z:=G (axj _ iu);clear iu)
     have hI:=G ((s.out.set 2 (.int .i64 F)).set 3 (.int .i64 0));clear s C U ab H h_ nR Ge aC aD cp;generalize ((B.setCell ⟨f.heap.size,2,none⟩ (.int .i64 F)).setCell ⟨f.heap.size,3,none⟩ (.int .i64 0))=bq at hI⊢;have aJ:bq.cell? ⟨f.heap.size,2,none⟩=some (.int .i64 F):=aS 2 hI.out.v;have dG:F.natAbs<=25:=by have:=Z.out;omega
     have Ip:=G (eR.gi (n:=1) F 0 (aBl Z.out) z z);cases A:(F.tmod 10 !=0)
     ·go_wp2;go_meet;exact⟨_,⟨gi F 0,aY.iE _ 1 _ 2 bL F 0 0 none 0 none 0,Ip.out⟩,hI.out⟩
     ·have Iq:=G (eR.gi (n:=1) F 1 ⟨ai,ai,by have:=Z.out;omega,by have:=Z.out;omega,.inr (by simpa using A)⟩ z z)
      go_wp2_with (go_at_call 16;refine(pT _ _ a n _ ai ai N (hI.out.num M.out P)).mono ?_;rintro e w7 E;have s:=G (hI.out.next E);obtain⟨⟨bf,ab,H,rfl⟩,E⟩:=E;clear E;have c3:w7.cell? ⟨f.heap.size,3,none⟩=some (.int .i64 0):=aS 3 s.out.v;have q6:w7.frozen? ⟨f.heap.size,3,none⟩=false:=(by simp[World.frozen?,s.out.v]));all_goals(
       go_meet
       first
        |exact⟨_,⟨gi F 0,aY.iE _ 1 _ 2 bL F 0 0 none 0 none 0,Ip.out⟩,s.out⟩
        |exact⟨_,⟨gi F 1,aY.iE _ 1 _ 2 bL F 1 0 none 0 none 0,Iq.out⟩,s.out.set 3 _⟩)
    by_cases eV:eF=3
    ·subst eV
     go_wp2_with (go_at_call 16;refine(pT _ _ a n _ ai ai N (C.out.num M.out P)).mono ?_;rintro e B o;have s:=G (C.out.next o);have U:=G o.2.2.2.1;obtain⟨⟨r,ab,H,rfl⟩,o⟩:=o;clear o;obtain⟨m,rfl⟩:∃m:Nat,r=(m:Int):=⟨r.toNat,z⟩;have UQ:B.frozen? ⟨f.heap.size,4,none⟩=false:=(by simp[World.frozen?,s.out.v]);have aE:B.cell? ⟨f.heap.size,4,none⟩=some (.int .i64 0):=aS 4 s.out.v;have CJ:=G H);go_meet;exact⟨_,⟨ju (739617+(m:Int)),aY.iE _ 1 _ 3 bL 0 0 (739617+(m:Int)) none 0 none 0,.ju _ z (by have:=CJ.out;omega)⟩,s.out.set 4 _⟩
    by_cases oF:eF=4
    ·subst oF
     go_wp2_with (go_at_call 16;refine(pT _ _ a n _ ai ai N (C.out.num M.out P)).mono ?_;rintro e B o;have s:=G (C.out.next o);have U:=G o.2.2.2.1;obtain⟨⟨r,ab,H,rfl⟩,o⟩:=o;clear o;obtain⟨m,rfl⟩:∃m:Nat,r=(m:Int):=⟨r.toNat,z⟩;have UQ:B.frozen? ⟨f.heap.size,4,none⟩=false:=(by simp[World.frozen?,s.out.v]);have aE:B.cell? ⟨f.heap.size,4,none⟩=some (.int .i64 0):=aS 4 s.out.v;have CJ:=G H);go_meet;exact⟨_,⟨lU (m:Int),aY.iE _ 1 _ 4 bL 0 0 (m:Int) none 0 none 0,.lU _ (by have:=CJ.out;omega)⟩,s.out.set 4 _⟩
    obtain rfl:eF=5:=z;clear ce eb eV oF;have UR:O.frozen? ⟨f.heap.size,5,none⟩=false:=by simp[World.frozen?,C.out.v]
    have aF:O.cell? ⟨f.heap.size,5,none⟩=some (.slice none 0 0):=aS 5 C.out.v
    go_wp2_with (go_at_call 16;refine(pT _ _ a n 4 ai ai N (((C.out.set 5 _).alloc _).num M.out P)).mono ?_;rintro e B o;have s:=G (((C.out.set 5 _).alloc _).next o);have U:=G o.2.2.2.1;obtain⟨⟨r,ab,H,rfl⟩,o⟩:=o;clear o;obtain⟨m,rfl⟩:∃m:Nat,r=(m:Int):=⟨r.toNat,z⟩);have dC:nP w a n #[bo,cZ,.slice (some ⟨L,R,none⟩) cs.length cc,ss,rs,aj] f O.heap.size (.slice none 0 0) [] B:=⟨s.out,j3.nil _ _ _,(U.out _ z).trans (by
     have h:=da (O.setCell ⟨f.heap.size,5,none⟩ (.slice (some ⟨O.heap.size,0,none⟩) 2 2)) (.cells #[.string kV,.string kH] 9)
     rw[show(O.setCell ⟨f.heap.size,5,none⟩ (.slice (some ⟨O.heap.size,0,none⟩) 2 2)).heap.size=O.heap.size by simp]at h
     exact h),ag⟩
    have SJ:=G dC;clear dC s C U cp UR aF ag;generalize O.heap.size=bJ at SJ⊢;go_loopw [10] (fun i wr=>∃j:Nat,j<=m/\i=.int .i64 j/\∃e8 a_,a_.length=j/\nP w a n #[bo,cZ,.slice (some ⟨L,R,none⟩) cs.length cc,ss,rs,aj] f bJ e8 a_ wr/\Hid (∀r∈a_,sC r)) (fun i _=>m-(RowKit.intOf i).toNat);case atStart=>exact⟨0,dq _,rfl,_,[],rfl,SJ.out,G fun r av=>by cases av⟩
    case round=>
     clear SJ;obtain⟨j,aa,rfl,e8,a_,rfl,D,qk⟩:=hrel;obtain⟨ra,rc,rfl⟩:=D.o.hz;by_cases aV:a_.length<m
     ·have zR:(a_.length:Int)<m:=z;have fk:wr.cell? ⟨f.heap.size,6,none⟩=some (.slice ra a_.length rc):=aS 6 D.k.v;have Dt:wr.frozen? ⟨f.heap.size,6,none⟩=false:=by simp[World.frozen?,D.k.v]
      have aT:=b1 D.k.v;have jR:=D.k.kI;have gW:=G (aBx D.o (Cv f.heap.size));have ez:=G D;clear D
      go_wp2
      go_region_law (first
       |(have be:=Pf;refine HL _ (by rfl) _ _ _ (by rfl) (f.heap.size+1) 45 mI _ 1 24 underlying42 aM aN Lc Ld rfl ai (.slice ra a_.length rc) a_.length au (by rfl) (It.out.alloc _) ⟨K.heap.size,0,none⟩ 1 1 [.slice dS 2 c1] (by rfl) (by rfl) (sy (cs:=#[.slice dS 2 c1]) (t:=45) (fr:=(0,0)) (p1 K _)) (by simp[Value.oneCell']) ai (by unfold maxLen;omega) z bu (K.heap.size+1) am ?_;intro g cap gD cQ m5 fB ba;have GY:gD.cell? ⟨f.heap.size,6,none⟩=some (.slice ra a_.length rc):=(by rw[m5.cell_far _ bu gW.out,(fH K _).cell Pf];exact nn);have J8:gD.frozen? ⟨f.heap.size,6,none⟩=false:=(by rw[m5.frozen_far _ bu gW.out,(fH K _).frozen Pf];exact f8);have k2:=G (nP.push ik.out Q.out ah.out m5 fB ak vO.out cQ))
       |(first|(have aL:=r';go_simp;go_at_call 95;refine(aie _ _ (w7.alloc (.cells #[.string ⟨#[97]⟩,.string ⟨#[98]⟩,.string ⟨#[65]⟩] 9))).mono ?_;rintro e K ⟨⟨dS,c1,rfl,zv⟩,g3⟩;have ik:=G (X.out.alloc (.cells #[.string ⟨#[97]⟩,.string ⟨#[98]⟩,.string ⟨#[65]⟩] 9));have Q:=G (ik.out.U g3);have ah:=G zv;clear zv;obtain⟨au,ak,Ko,Bh⟩:=Q.out.o.o;have It:=G Ko;have vO:=G Bh;clear Ko Bh;have nn:K.cell? ⟨f.heap.size,6,none⟩=some (.slice ra a_.length rc):=aS 6 Q.out.k.v;have f8:K.frozen? ⟨f.heap.size,6,none⟩=false:=(by simp[World.frozen?,Q.out.k.v]);have Pf:f.heap.size<K.heap.size:=b1 Q.out.k.v)|(have aL:=r';go_simp;go_at_call 95;refine(aie _ _ w7).mono ?_;rintro e K ⟨⟨dS,c1,rfl,zv⟩,g3⟩;have ik:=G X.out;have Q:=G (ik.out.U g3);have ah:=G zv;clear zv;obtain⟨au,ak,Ko,Bh⟩:=Q.out.o.o;have It:=G Ko;have vO:=G Bh;clear Ko Bh;have nn:K.cell? ⟨f.heap.size,6,none⟩=some (.slice ra a_.length rc):=aS 6 Q.out.k.v;have f8:K.frozen? ⟨f.heap.size,6,none⟩=false:=(by simp[World.frozen?,Q.out.k.v]);have Pf:f.heap.size<K.heap.size:=b1 Q.out.k.v))
       |(first|(have aK:=lH;go_simp;go_at_call 16;refine(pT _ _ a n _ ai ai N ((S.out.alloc _).k.num M.out P)).mono ?_;rintro e w7 E;have X:=G ((S.out.alloc _).next E);have ao:=T w7;have D9:=b1 X.out.k.v;(first|(have Ww:w7.cell? ⟨wr.heap.size,I,none⟩=some (.string (wN I)):=(by rw[mO (E.2.2.2.1 _ (by show wr.heap.size≠_;omega))];exact GM))|(have Ww:w7.cell? ⟨B.heap.size,I,none⟩=some (.string (wN I)):=(by rw[mO (E.2.2.2.1 _ (by show B.heap.size≠_;omega))];exact T B))|skip);obtain⟨⟨dt,r',al,rfl⟩,E⟩:=E;clear E;have oq:w7.cell? ⟨f.heap.size,6,none⟩=some (.slice ra a_.length rc):=aS 6 X.out.k.v)|(have aK:=lH;go_simp;go_at_call 16;refine(pT _ _ a n _ ai ai N (S.out.k.num M.out P)).mono ?_;rintro e w7 E;have X:=G (S.out.next E);have ao:=T w7;have D9:=b1 X.out.k.v;(first|(have Ww:w7.cell? ⟨wr.heap.size,I,none⟩=some (.string (wN I)):=(by rw[mO (E.2.2.2.1 _ (by show wr.heap.size≠_;omega))];exact GM))|(have Ww:w7.cell? ⟨B.heap.size,I,none⟩=some (.string (wN I)):=(by rw[mO (E.2.2.2.1 _ (by show B.heap.size≠_;omega))];exact T B))|skip);obtain⟨⟨dt,r',al,rfl⟩,E⟩:=E;clear E;have oq:w7.cell? ⟨f.heap.size,6,none⟩=some (.slice ra a_.length rc):=aS 6 X.out.k.v))
       |(first|(go_simp;go_at_call 16;refine(pT _ _ a n _ ai ai N ((ez.out.drew.alloc _).k.num M.out P)).mono ?_;rintro e B o;have S:=G ((ez.out.drew.alloc _).next o);have KO:=o.2.2.2.1;obtain⟨⟨b',lH,aI,rfl⟩,o⟩:=o;clear o;obtain⟨I,rfl⟩:∃m:Nat,b'=(m:Int):=⟨b'.toNat,z⟩;have T:=aiG I z;have wG:=T B;have zH:=b1 S.out.k.v;(first|(have GM:B.cell? ⟨wr.heap.size,I,none⟩=some (.string (wN I)):=(by rw[mO (KO _ (by show wr.heap.size≠_;omega))];exact T wr.drew))|skip);clear KO;have c5:B.cell? ⟨f.heap.size,6,none⟩=some (.slice ra a_.length rc):=aS 6 S.out.k.v)|(go_simp;go_at_call 16;refine(pT _ _ a n _ ai ai N (ez.out.drew.k.num M.out P)).mono ?_;rintro e B o;have S:=G (ez.out.drew.next o);have KO:=o.2.2.2.1;obtain⟨⟨b',lH,aI,rfl⟩,o⟩:=o;clear o;obtain⟨I,rfl⟩:∃m:Nat,b'=(m:Int):=⟨b'.toNat,z⟩;have T:=aiG I z;have wG:=T B;have zH:=b1 S.out.k.v;(first|(have GM:B.cell? ⟨wr.heap.size,I,none⟩=some (.string (wN I)):=(by rw[mO (KO _ (by show wr.heap.size≠_;omega))];exact T wr.drew))|skip);clear KO;have c5:B.cell? ⟨f.heap.size,6,none⟩=some (.slice ra a_.length rc):=aS 6 S.out.k.v)))
      all_goals(
       clear fk Dt c5 oq nn f8 GY J8 wG ao T ez S X Q
       go_wp2
       exact⟨⟨a_.length+1,z,bM,_,_,am,k2.out,atW qk (atY I r' al)⟩,by simp[RowKit.intOf];omega⟩)
     ·go_wp2;go_meet;obtain⟨ea,rfl,jN⟩:=D.value z qk.out;exact⟨_,jN,D.k⟩
   case rest=>
    obtain⟨ea,Y,D⟩:=hcut;have hU:=G Y;obtain⟨bb,gO,cD,mN,EU,bQ,sl,gq,ic,un,dw,rfl⟩:=Y.hz;have C:=G D;have M:=G ad;clear D ad Y;go_upto_if 91 with(go_at_call 16;refine(pT _ _ a n _ ai ai N (C.out.num M.out P)).mono ?_;rintro e B o;have s:=G (C.out.next o);have tz:=G (hU.out.next o C.out.kI);obtain⟨⟨r,ab,H,rfl⟩,o⟩:=o;clear o;obtain⟨m,rfl⟩:∃m:Nat,r=(m:Int):=⟨r.toNat,z⟩;have hX:=aS 0 s.out.v;have aG:B.frozen? ⟨f.heap.size,0,none⟩=false:=(by simp[World.frozen?,s.out.v]);have et:=aS 1 s.out.v;have OH:B.frozen? ⟨f.heap.size,1,none⟩=false:=(by simp[World.frozen?,s.out.v]);have fA:=aS 2 s.out.v;have nR:B.frozen? ⟨f.heap.size,2,none⟩=false:=(by simp[World.frozen?,s.out.v]);have hL:=aS 3 s.out.v;have Ge:B.frozen? ⟨f.heap.size,3,none⟩=false:=(by simp[World.frozen?,s.out.v]);have lV:=aS 4 s.out.v;have UQ:B.frozen? ⟨f.heap.size,4,none⟩=false:=(by simp[World.frozen?,s.out.v]);have np:=aS 5 s.out.v;have UR:B.frozen? ⟨f.heap.size,5,none⟩=false:=(by simp[World.frozen?,s.out.v]);have q4:=aS 6 s.out.v;have aH:B.frozen? ⟨f.heap.size,6,none⟩=false:=(by simp[World.frozen?,s.out.v]))
    clear C hU;go_cut [] (fun c9=>∃ea,vK f ea c9/\my w a n #[bo,cZ,.slice (some ⟨L,R,none⟩) cs.length cc,ss,rs,aj] f ea c9);case first=>
     by_cases U8:m=11
     ·subst U8
      go_wp2;go_meet;exact⟨_,vK.zero _ _,((((((s.out.set 0 _).set 1 _).set 2 _).set 3 _).set 4 _).set 5 _).set 6 _⟩
     ·have wo:((m:Int)==11)=false:=bu
      go_wp2;go_meet;exact⟨_,tz.out,s.out⟩
    case rest=>
     clear s tz hX et fA hL lV np q4 aG OH nR Ge UQ UR aH ab H;obtain⟨ea,Y,D⟩:=hcut;have hU:=G Y;obtain⟨bc,jq,cW,dB,dv,eo,cL,c2,cf,ia,aP,rfl⟩:=Y.hz;obtain⟨hX,et,fA,hL,lV,np,q4⟩:=eU D.v;have C:=G D;obtain⟨u,GQ,GR⟩:=Y;have aA:=G GQ;have aB:=G GR;obtain⟨fs,g6,vq⟩:=cd.out.hz;subst vq;have ay:=G (cd.out.gf D.k);have KQ:l.length<=100:=z;have aO:w.heap.size+2<=wc.heap.size:=D.r.lt;have jR:=D.kI;clear D GQ GR
     go_wp2_with (at_builtin;refine Rq rfl _ _ rfl (base:=w.heap.size+2) (d:=1) (l:=l) (y:=u) (v:=.slice fs l.length g6) rfl ay.out rfl (cd.out.st (oT _) z aA.out) KQ aO ?_;intro v5 B aW _ bR;have rD:=G aW;have IX:=G (C.out.r.U bR);clear aW bR);have AK:Hid (∀v∈l++[u],eR 1 v):=G fun v J=>by
      rcases nJ.1 J with J|J
      ·exact D0.out v J
      ·rw[Cs]at J;subst J;exact aB.out
     have Bw:(l++[u]).length=k+1:=by rw[ie,HU,vl]
     go_roundw;case rel=>first|exact⟨k+1,z,bM,IX.out,_,Bw,AK,rD.out⟩|((repeat apply Exists.intro);refine⟨?_,rfl⟩;exact⟨k+1,z,bM,IX.out,_,Bw,AK,rD.out⟩)
     case measure=>simp[RowKit.intOf];omega
  ·have aX:k=cs.length:=z;have cS:=G V.b;obtain⟨fs,g6,vq,bx⟩:=cV.YD z;subst vq;clear V DF cV
   go_wp2;go_ret;exact⟨⟨fs,g6,l,rfl,z,cU.low (fun b A=>db z A) (fun _ _ _ h=>aY.low (fun b A=>db z A) h) bx,D0.out⟩,cS.out⟩
end Go.b3
